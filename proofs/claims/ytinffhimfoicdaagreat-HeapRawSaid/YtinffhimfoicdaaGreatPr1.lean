/- Texts of the claim, merged: Tab, Calc11, Ty, A, B, C, D, E, Calc12, Calc18. No conditions. -/
import Derived.Test.YtinffhimfoicdaaGreatPr0
import Derived.Test.YtinffhimfoicdaaGreatProg
import Derived.KernelRfl
import Derived.DeepKeys3
/- The types of the program, as the calculus asks for them. Printed by wip/tool/gen_tab.py. No conditions. -/
namespace Go.Proofs.YtinffhimfoicdaaGreat
open Go Go.Proofs.YtinffhimfoicdaaGreat.Calc
set_option maxRecDepth 100000
def tyTab : Nat → Option (Bool × Nat × List BV)
  | 2 => some ((false, 1, [.d (.flat (.int .i64 0))]))
  | 3 => some ((false, 1, [.d (.flat (.int .i64 0))]))
  | 4 => some ((false, 1, [.d (.flat (.bool false))]))
  | 5 => some ((false, 1, [.d (.flat (.int .u8 0))]))
  | 6 => some ((false, 1, [.d (.flat (.int .u8 0))]))
  | 7 => some ((true, 4, [.d (.flat (.int .i64 0)), .d (.flat (.int .i64 0)), .d (.flat (.bool false)), .d (.flat (.int .u8 0))]))
  | 8 => some ((true, 4, [.d (.flat (.int .i64 0)), .d (.flat (.int .i64 0)), .d (.flat (.bool false)), .d (.flat (.int .u8 0))]))
  | 9 => some ((false, 1, [.d (.flat (.string ⟨#[]⟩))]))
  | 10 => some ((false, 1, [.d (.flat (.string ⟨#[]⟩))]))
  | 11 => some ((false, 1, [.d (.flat (.string ⟨#[]⟩))]))
  | 12 => some ((false, 1, [.d (.flat (.int .u64 0))]))
  | 13 => some ((true, 2, [.d (.flat (.string ⟨#[]⟩)), .d (.flat (.int .u64 0))]))
  | 14 => some ((true, 2, [.d (.flat (.string ⟨#[]⟩)), .d (.flat (.int .u64 0))]))
  | 18 => some ((true, 1, [.d (.flat (.pointer none))]))
  | 19 => some ((true, 1, [.d (.flat (.pointer none))]))
  | 21 => some ((false, 1, [.d (.flat (.int .i32 0))]))
  | 22 => some ((false, 1, [.tight [] 0]))
  | 23 => some ((false, 1, [.tight [] 0]))
  | 24 => some ((false, 1, [.tight [] 0]))
  | 25 => some ((true, 1, [.tight [] 0]))
  | 26 => some ((true, 1, [.tight [] 0]))
  | 33 => some ((false, 1, [.tight [] 0]))
  | 34 => some ((false, 1, [.tight [] 0]))
  | 35 => some ((false, 1, [.tight [] 0]))
  | 36 => some ((true, 4, [.d (.flat (.string ⟨#[]⟩)), .d (.flat (.string ⟨#[]⟩)), .tight [] 0, .tight [] 0]))
  | 37 => some ((true, 4, [.d (.flat (.string ⟨#[]⟩)), .d (.flat (.string ⟨#[]⟩)), .tight [] 0, .tight [] 0]))
  | 38 => some ((true, 3, [.d (.flat (.int .i64 0)), .d (.flat (.int .i32 0)), .d (.flat (.string ⟨#[]⟩))]))
  | 39 => some ((true, 3, [.d (.flat (.int .i64 0)), .d (.flat (.int .i32 0)), .d (.flat (.string ⟨#[]⟩))]))
  | 40 => some ((true, 8, [.d (.flat (.int .i64 0)), .d (.flat (.int .i64 0)), .d (.flat (.int .i64 0)), .d (.flat (.int .i64 0)), .d (.flat (.int .i64 0)), .d (.flat (.int .i64 0)), .d (.flat (.int .i32 0)), .d (.flat (.string ⟨#[]⟩))]))
  | 41 => some ((true, 8, [.d (.flat (.int .i64 0)), .d (.flat (.int .i64 0)), .d (.flat (.int .i64 0)), .d (.flat (.int .i64 0)), .d (.flat (.int .i64 0)), .d (.flat (.int .i64 0)), .d (.flat (.int .i32 0)), .d (.flat (.string ⟨#[]⟩))]))
  | 42 => some ((false, 1, [.d (.flat (.int .u64 0))]))
  | 43 => some ((true, 2, [.d (.flat (.string ⟨#[]⟩)), .d (.flat (.int .i64 0))]))
  | 44 => some ((true, 2, [.d (.flat (.string ⟨#[]⟩)), .d (.flat (.int .i64 0))]))
  | 51 => some ((false, 1, [.tight [] 0]))
  | 52 => some ((false, 1, [.tight [] 0]))
  | 53 => some ((true, 3, [.tight [] 0, .tight [] 0, .tight [] 0]))
  | 54 => some ((true, 3, [.tight [] 0, .tight [] 0, .tight [] 0]))
  | 60 => some ((false, 1, [.tight [] 0]))
  | 62 => some ((false, 1, [.tight [] 0]))
  | 63 => some ((false, 1, [.tight [] 0]))
  | 71 => some ((false, 1, [.tight [] 0]))
  | 72 => some ((true, 3, [.tight [] 0, .tight [] 0, .d (.flat (.map none))]))
  | 73 => some ((true, 3, [.tight [] 0, .tight [] 0, .d (.flat (.map none))]))
  | 74 => some ((false, 1, [.tight [] 0]))
  | 75 => some ((true, 4, [.d (.flat (.bool false)), .d (.flat (.string ⟨#[]⟩)), .d (.flat (.string ⟨#[]⟩)), .tight [] 0]))
  | 76 => some ((true, 4, [.d (.flat (.bool false)), .d (.flat (.string ⟨#[]⟩)), .d (.flat (.string ⟨#[]⟩)), .tight [] 0]))
  | 78 => some ((true, 2, [.d (.flat (.string ⟨#[]⟩)), .d (.flat (.map none))]))
  | 79 => some ((true, 2, [.d (.flat (.string ⟨#[]⟩)), .d (.flat (.map none))]))
  | 83 => some ((true, 3, [.d (.flat (.string ⟨#[]⟩)), .tight [] 0, .tight [] 0]))
  | 84 => some ((true, 3, [.d (.flat (.string ⟨#[]⟩)), .tight [] 0, .tight [] 0]))
  | 95 => some ((false, 1, [.tight [] 0]))
  | 96 => some ((false, 1, [.tight [] 0]))
  | 97 => some ((true, 6, [.d (.flat (.bool false)), .d (.flat (.bool false)), .d (.flat (.string ⟨#[]⟩)), .d (.flat (.string ⟨#[]⟩)), .tight [] 0, .tight [] 0]))
  | 98 => some ((true, 6, [.d (.flat (.bool false)), .d (.flat (.bool false)), .d (.flat (.string ⟨#[]⟩)), .d (.flat (.string ⟨#[]⟩)), .tight [] 0, .tight [] 0]))
  | 100 => some ((false, 1, [.tight [] 0]))
  | 104 => some ((true, 8, [.tight [] 0, .d (.flat (.int .i64 0)), .d (.flat (.int .i64 0)), .d (.flat (.int .i64 0)), .d (.flat (.int .i64 0)), .d (.flat (.int .i64 0)), .d (.flat (.bool false)), .d (.flat (.int .i64 0))]))
  | 105 => some ((true, 8, [.tight [] 0, .d (.flat (.int .i64 0)), .d (.flat (.int .i64 0)), .d (.flat (.int .i64 0)), .d (.flat (.int .i64 0)), .d (.flat (.int .i64 0)), .d (.flat (.bool false)), .d (.flat (.int .i64 0))]))
  | 123 => some ((true, 8, [.d (.flat (.int .i64 0)), .d (.flat (.int .i32 0)), .d (.flat (.string ⟨#[]⟩)), .d (.flat (.string ⟨#[]⟩)), .d (.flat (.string ⟨#[]⟩)), .tight [] 0, .d (.flat (.string ⟨#[]⟩)), .d (.flat (.int .i64 0))]))
  | 124 => some ((true, 8, [.d (.flat (.int .i64 0)), .d (.flat (.int .i32 0)), .d (.flat (.string ⟨#[]⟩)), .d (.flat (.string ⟨#[]⟩)), .d (.flat (.string ⟨#[]⟩)), .tight [] 0, .d (.flat (.string ⟨#[]⟩)), .d (.flat (.int .i64 0))]))
  | 125 => some ((true, 9, [.d (.flat (.int .i64 0)), .d (.flat (.int .i32 0)), .d (.flat (.string ⟨#[]⟩)), .d (.flat (.string ⟨#[]⟩)), .tight [] 0, .tight [] 0, .tight [] 0, .tight [] 0, .d (.flat (.int .i64 0))]))
  | 126 => some ((true, 9, [.d (.flat (.int .i64 0)), .d (.flat (.int .i32 0)), .d (.flat (.string ⟨#[]⟩)), .d (.flat (.string ⟨#[]⟩)), .tight [] 0, .tight [] 0, .tight [] 0, .tight [] 0, .d (.flat (.int .i64 0))]))
  | 128 => some ((true, 3, [.d (.flat (.int .i64 0)), .d (.flat (.string ⟨#[]⟩)), .d (.flat (.int .i64 0))]))
  | 129 => some ((true, 3, [.d (.flat (.int .i64 0)), .d (.flat (.string ⟨#[]⟩)), .d (.flat (.int .i64 0))]))
  | 146 => some ((true, 3, [.d (.flat (.int .i32 0)), .d (.flat (.int .i64 0)), .d (.flat (.bool false))]))
  | 147 => some ((true, 3, [.d (.flat (.int .i32 0)), .d (.flat (.int .i64 0)), .d (.flat (.bool false))]))
  | 154 => some ((true, 2, [.d (.flat (.string ⟨#[]⟩)), .d (.flat (.string ⟨#[]⟩))]))
  | 155 => some ((true, 2, [.d (.flat (.string ⟨#[]⟩)), .d (.flat (.string ⟨#[]⟩))]))
  | 165 => some ((true, 3, [.d (.flat (.string ⟨#[]⟩)), .d (.flat (.bool false)), .tight [] 0]))
  | 166 => some ((true, 3, [.d (.flat (.string ⟨#[]⟩)), .d (.flat (.bool false)), .tight [] 0]))
  | 172 => some ((true, 2, [.d (.flat (.int .i64 0)), .d (.flat (.int .i64 0))]))
  | 173 => some ((true, 2, [.d (.flat (.int .i64 0)), .d (.flat (.int .i64 0))]))
  | 195 => some ((true, 10, [.tight [] 0, .d (.flat (.bool false)), .d (.flat (.bool false)), .d (.flat (.string ⟨#[]⟩)), .d (.flat (.string ⟨#[]⟩)), .tight [] 0, .tight [] 0, .d (.flat (.string ⟨#[]⟩)), .d (.flat (.bool false)), .tight [] 0]))
  | 196 => some ((true, 10, [.tight [] 0, .d (.flat (.bool false)), .d (.flat (.bool false)), .d (.flat (.string ⟨#[]⟩)), .d (.flat (.string ⟨#[]⟩)), .tight [] 0, .tight [] 0, .d (.flat (.string ⟨#[]⟩)), .d (.flat (.bool false)), .tight [] 0]))
  | 214 => some ((true, 4, [.d (.flat (.pointer none)), .d (.flat (.pointer none)), .d (.flat (.pointer none)), .d (.flat (.string ⟨#[]⟩))]))
  | 215 => some ((true, 4, [.d (.flat (.pointer none)), .d (.flat (.pointer none)), .d (.flat (.pointer none)), .d (.flat (.string ⟨#[]⟩))]))
  | 217 => some ((true, 0, []))
  | 218 => some ((true, 0, []))
  | 219 => some ((false, 1, [.d (.flat (.int .u32 0))]))
  | 220 => some ((false, 1, [.d (.flat (.int .u8 0))]))
  | 221 => some ((false, 1, [.d (.flat (.int .u8 0))]))
  | 224 => some ((false, 1, [.d (.flat (.int .i32 0))]))
  | 225 => some ((false, 1, [.d (.flat (.int .i32 0))]))
  | 226 => some ((true, 11, [.d (.flat (.int .u64 0)), .d (.flat (.int .u64 0)), .d (.flat (.int .u32 0)), .d (.flat (.int .u8 0)), .d (.flat (.int .u8 0)), .d (.flat (.int .u8 0)), .d (.flat (.int .u8 0)), .d (.flat .nilFunc), .d (.flat (.pointer none)), .d (.flat (.int .i32 0)), .d (.flat (.int .i32 0))]))
  | 227 => some ((true, 11, [.d (.flat (.int .u64 0)), .d (.flat (.int .u64 0)), .d (.flat (.int .u32 0)), .d (.flat (.int .u8 0)), .d (.flat (.int .u8 0)), .d (.flat (.int .u8 0)), .d (.flat (.int .u8 0)), .d (.flat .nilFunc), .d (.flat (.pointer none)), .d (.flat (.int .i32 0)), .d (.flat (.int .i32 0))]))
  | _ => none
theorem ty_2 : tyOf Tryz.prog 2 = some ((false, 1, [.d (.flat (.int .i64 0))])) := by kernel_rfl
theorem ty_3 : tyOf Tryz.prog 3 = some ((false, 1, [.d (.flat (.int .i64 0))])) := by kernel_rfl
theorem ty_4 : tyOf Tryz.prog 4 = some ((false, 1, [.d (.flat (.bool false))])) := by kernel_rfl
theorem ty_5 : tyOf Tryz.prog 5 = some ((false, 1, [.d (.flat (.int .u8 0))])) := by kernel_rfl
theorem ty_6 : tyOf Tryz.prog 6 = some ((false, 1, [.d (.flat (.int .u8 0))])) := by kernel_rfl
theorem ty_7 : tyOf Tryz.prog 7 = some ((true, 4, [.d (.flat (.int .i64 0)), .d (.flat (.int .i64 0)), .d (.flat (.bool false)), .d (.flat (.int .u8 0))])) := by kernel_rfl
theorem ty_8 : tyOf Tryz.prog 8 = some ((true, 4, [.d (.flat (.int .i64 0)), .d (.flat (.int .i64 0)), .d (.flat (.bool false)), .d (.flat (.int .u8 0))])) := by kernel_rfl
theorem ty_9 : tyOf Tryz.prog 9 = some ((false, 1, [.d (.flat (.string ⟨#[]⟩))])) := by kernel_rfl
theorem ty_10 : tyOf Tryz.prog 10 = some ((false, 1, [.d (.flat (.string ⟨#[]⟩))])) := by kernel_rfl
theorem ty_11 : tyOf Tryz.prog 11 = some ((false, 1, [.d (.flat (.string ⟨#[]⟩))])) := by kernel_rfl
theorem ty_12 : tyOf Tryz.prog 12 = some ((false, 1, [.d (.flat (.int .u64 0))])) := by kernel_rfl
theorem ty_13 : tyOf Tryz.prog 13 = some ((true, 2, [.d (.flat (.string ⟨#[]⟩)), .d (.flat (.int .u64 0))])) := by kernel_rfl
theorem ty_14 : tyOf Tryz.prog 14 = some ((true, 2, [.d (.flat (.string ⟨#[]⟩)), .d (.flat (.int .u64 0))])) := by kernel_rfl
theorem ty_18 : tyOf Tryz.prog 18 = some ((true, 1, [.d (.flat (.pointer none))])) := by kernel_rfl
theorem ty_19 : tyOf Tryz.prog 19 = some ((true, 1, [.d (.flat (.pointer none))])) := by kernel_rfl
theorem ty_21 : tyOf Tryz.prog 21 = some ((false, 1, [.d (.flat (.int .i32 0))])) := by kernel_rfl
theorem ty_22 : tyOf Tryz.prog 22 = some ((false, 1, [.tight [] 0])) := by kernel_rfl
theorem ty_23 : tyOf Tryz.prog 23 = some ((false, 1, [.tight [] 0])) := by kernel_rfl
theorem ty_24 : tyOf Tryz.prog 24 = some ((false, 1, [.tight [] 0])) := by kernel_rfl
theorem ty_25 : tyOf Tryz.prog 25 = some ((true, 1, [.tight [] 0])) := by kernel_rfl
theorem ty_26 : tyOf Tryz.prog 26 = some ((true, 1, [.tight [] 0])) := by kernel_rfl
theorem ty_33 : tyOf Tryz.prog 33 = some ((false, 1, [.tight [] 0])) := by kernel_rfl
theorem ty_34 : tyOf Tryz.prog 34 = some ((false, 1, [.tight [] 0])) := by kernel_rfl
theorem ty_35 : tyOf Tryz.prog 35 = some ((false, 1, [.tight [] 0])) := by kernel_rfl
theorem ty_36 : tyOf Tryz.prog 36 = some ((true, 4, [.d (.flat (.string ⟨#[]⟩)), .d (.flat (.string ⟨#[]⟩)), .tight [] 0, .tight [] 0])) := by kernel_rfl
theorem ty_37 : tyOf Tryz.prog 37 = some ((true, 4, [.d (.flat (.string ⟨#[]⟩)), .d (.flat (.string ⟨#[]⟩)), .tight [] 0, .tight [] 0])) := by kernel_rfl
theorem ty_38 : tyOf Tryz.prog 38 = some ((true, 3, [.d (.flat (.int .i64 0)), .d (.flat (.int .i32 0)), .d (.flat (.string ⟨#[]⟩))])) := by kernel_rfl
theorem ty_39 : tyOf Tryz.prog 39 = some ((true, 3, [.d (.flat (.int .i64 0)), .d (.flat (.int .i32 0)), .d (.flat (.string ⟨#[]⟩))])) := by kernel_rfl
theorem ty_40 : tyOf Tryz.prog 40 = some ((true, 8, [.d (.flat (.int .i64 0)), .d (.flat (.int .i64 0)), .d (.flat (.int .i64 0)), .d (.flat (.int .i64 0)), .d (.flat (.int .i64 0)), .d (.flat (.int .i64 0)), .d (.flat (.int .i32 0)), .d (.flat (.string ⟨#[]⟩))])) := by kernel_rfl
theorem ty_41 : tyOf Tryz.prog 41 = some ((true, 8, [.d (.flat (.int .i64 0)), .d (.flat (.int .i64 0)), .d (.flat (.int .i64 0)), .d (.flat (.int .i64 0)), .d (.flat (.int .i64 0)), .d (.flat (.int .i64 0)), .d (.flat (.int .i32 0)), .d (.flat (.string ⟨#[]⟩))])) := by kernel_rfl
theorem ty_42 : tyOf Tryz.prog 42 = some ((false, 1, [.d (.flat (.int .u64 0))])) := by kernel_rfl
theorem ty_43 : tyOf Tryz.prog 43 = some ((true, 2, [.d (.flat (.string ⟨#[]⟩)), .d (.flat (.int .i64 0))])) := by kernel_rfl
theorem ty_44 : tyOf Tryz.prog 44 = some ((true, 2, [.d (.flat (.string ⟨#[]⟩)), .d (.flat (.int .i64 0))])) := by kernel_rfl
theorem ty_51 : tyOf Tryz.prog 51 = some ((false, 1, [.tight [] 0])) := by kernel_rfl
theorem ty_52 : tyOf Tryz.prog 52 = some ((false, 1, [.tight [] 0])) := by kernel_rfl
theorem ty_53 : tyOf Tryz.prog 53 = some ((true, 3, [.tight [] 0, .tight [] 0, .tight [] 0])) := by kernel_rfl
theorem ty_54 : tyOf Tryz.prog 54 = some ((true, 3, [.tight [] 0, .tight [] 0, .tight [] 0])) := by kernel_rfl
theorem ty_60 : tyOf Tryz.prog 60 = some ((false, 1, [.tight [] 0])) := by kernel_rfl
theorem ty_62 : tyOf Tryz.prog 62 = some ((false, 1, [.tight [] 0])) := by kernel_rfl
theorem ty_63 : tyOf Tryz.prog 63 = some ((false, 1, [.tight [] 0])) := by kernel_rfl
theorem ty_71 : tyOf Tryz.prog 71 = some ((false, 1, [.tight [] 0])) := by kernel_rfl
theorem ty_72 : tyOf Tryz.prog 72 = some ((true, 3, [.tight [] 0, .tight [] 0, .d (.flat (.map none))])) := by kernel_rfl
theorem ty_73 : tyOf Tryz.prog 73 = some ((true, 3, [.tight [] 0, .tight [] 0, .d (.flat (.map none))])) := by kernel_rfl
theorem ty_74 : tyOf Tryz.prog 74 = some ((false, 1, [.tight [] 0])) := by kernel_rfl
theorem ty_75 : tyOf Tryz.prog 75 = some ((true, 4, [.d (.flat (.bool false)), .d (.flat (.string ⟨#[]⟩)), .d (.flat (.string ⟨#[]⟩)), .tight [] 0])) := by kernel_rfl
theorem ty_76 : tyOf Tryz.prog 76 = some ((true, 4, [.d (.flat (.bool false)), .d (.flat (.string ⟨#[]⟩)), .d (.flat (.string ⟨#[]⟩)), .tight [] 0])) := by kernel_rfl
theorem ty_78 : tyOf Tryz.prog 78 = some ((true, 2, [.d (.flat (.string ⟨#[]⟩)), .d (.flat (.map none))])) := by kernel_rfl
theorem ty_79 : tyOf Tryz.prog 79 = some ((true, 2, [.d (.flat (.string ⟨#[]⟩)), .d (.flat (.map none))])) := by kernel_rfl
theorem ty_83 : tyOf Tryz.prog 83 = some ((true, 3, [.d (.flat (.string ⟨#[]⟩)), .tight [] 0, .tight [] 0])) := by kernel_rfl
theorem ty_84 : tyOf Tryz.prog 84 = some ((true, 3, [.d (.flat (.string ⟨#[]⟩)), .tight [] 0, .tight [] 0])) := by kernel_rfl
theorem ty_95 : tyOf Tryz.prog 95 = some ((false, 1, [.tight [] 0])) := by kernel_rfl
theorem ty_96 : tyOf Tryz.prog 96 = some ((false, 1, [.tight [] 0])) := by kernel_rfl
theorem ty_97 : tyOf Tryz.prog 97 = some ((true, 6, [.d (.flat (.bool false)), .d (.flat (.bool false)), .d (.flat (.string ⟨#[]⟩)), .d (.flat (.string ⟨#[]⟩)), .tight [] 0, .tight [] 0])) := by kernel_rfl
theorem ty_98 : tyOf Tryz.prog 98 = some ((true, 6, [.d (.flat (.bool false)), .d (.flat (.bool false)), .d (.flat (.string ⟨#[]⟩)), .d (.flat (.string ⟨#[]⟩)), .tight [] 0, .tight [] 0])) := by kernel_rfl
theorem ty_100 : tyOf Tryz.prog 100 = some ((false, 1, [.tight [] 0])) := by kernel_rfl
theorem ty_104 : tyOf Tryz.prog 104 = some ((true, 8, [.tight [] 0, .d (.flat (.int .i64 0)), .d (.flat (.int .i64 0)), .d (.flat (.int .i64 0)), .d (.flat (.int .i64 0)), .d (.flat (.int .i64 0)), .d (.flat (.bool false)), .d (.flat (.int .i64 0))])) := by kernel_rfl
theorem ty_105 : tyOf Tryz.prog 105 = some ((true, 8, [.tight [] 0, .d (.flat (.int .i64 0)), .d (.flat (.int .i64 0)), .d (.flat (.int .i64 0)), .d (.flat (.int .i64 0)), .d (.flat (.int .i64 0)), .d (.flat (.bool false)), .d (.flat (.int .i64 0))])) := by kernel_rfl
theorem ty_123 : tyOf Tryz.prog 123 = some ((true, 8, [.d (.flat (.int .i64 0)), .d (.flat (.int .i32 0)), .d (.flat (.string ⟨#[]⟩)), .d (.flat (.string ⟨#[]⟩)), .d (.flat (.string ⟨#[]⟩)), .tight [] 0, .d (.flat (.string ⟨#[]⟩)), .d (.flat (.int .i64 0))])) := by kernel_rfl
theorem ty_124 : tyOf Tryz.prog 124 = some ((true, 8, [.d (.flat (.int .i64 0)), .d (.flat (.int .i32 0)), .d (.flat (.string ⟨#[]⟩)), .d (.flat (.string ⟨#[]⟩)), .d (.flat (.string ⟨#[]⟩)), .tight [] 0, .d (.flat (.string ⟨#[]⟩)), .d (.flat (.int .i64 0))])) := by kernel_rfl
theorem ty_125 : tyOf Tryz.prog 125 = some ((true, 9, [.d (.flat (.int .i64 0)), .d (.flat (.int .i32 0)), .d (.flat (.string ⟨#[]⟩)), .d (.flat (.string ⟨#[]⟩)), .tight [] 0, .tight [] 0, .tight [] 0, .tight [] 0, .d (.flat (.int .i64 0))])) := by kernel_rfl
theorem ty_126 : tyOf Tryz.prog 126 = some ((true, 9, [.d (.flat (.int .i64 0)), .d (.flat (.int .i32 0)), .d (.flat (.string ⟨#[]⟩)), .d (.flat (.string ⟨#[]⟩)), .tight [] 0, .tight [] 0, .tight [] 0, .tight [] 0, .d (.flat (.int .i64 0))])) := by kernel_rfl
theorem ty_128 : tyOf Tryz.prog 128 = some ((true, 3, [.d (.flat (.int .i64 0)), .d (.flat (.string ⟨#[]⟩)), .d (.flat (.int .i64 0))])) := by kernel_rfl
theorem ty_129 : tyOf Tryz.prog 129 = some ((true, 3, [.d (.flat (.int .i64 0)), .d (.flat (.string ⟨#[]⟩)), .d (.flat (.int .i64 0))])) := by kernel_rfl
theorem ty_146 : tyOf Tryz.prog 146 = some ((true, 3, [.d (.flat (.int .i32 0)), .d (.flat (.int .i64 0)), .d (.flat (.bool false))])) := by kernel_rfl
theorem ty_147 : tyOf Tryz.prog 147 = some ((true, 3, [.d (.flat (.int .i32 0)), .d (.flat (.int .i64 0)), .d (.flat (.bool false))])) := by kernel_rfl
theorem ty_154 : tyOf Tryz.prog 154 = some ((true, 2, [.d (.flat (.string ⟨#[]⟩)), .d (.flat (.string ⟨#[]⟩))])) := by kernel_rfl
theorem ty_155 : tyOf Tryz.prog 155 = some ((true, 2, [.d (.flat (.string ⟨#[]⟩)), .d (.flat (.string ⟨#[]⟩))])) := by kernel_rfl
theorem ty_165 : tyOf Tryz.prog 165 = some ((true, 3, [.d (.flat (.string ⟨#[]⟩)), .d (.flat (.bool false)), .tight [] 0])) := by kernel_rfl
theorem ty_166 : tyOf Tryz.prog 166 = some ((true, 3, [.d (.flat (.string ⟨#[]⟩)), .d (.flat (.bool false)), .tight [] 0])) := by kernel_rfl
theorem ty_172 : tyOf Tryz.prog 172 = some ((true, 2, [.d (.flat (.int .i64 0)), .d (.flat (.int .i64 0))])) := by kernel_rfl
theorem ty_173 : tyOf Tryz.prog 173 = some ((true, 2, [.d (.flat (.int .i64 0)), .d (.flat (.int .i64 0))])) := by kernel_rfl
theorem ty_195 : tyOf Tryz.prog 195 = some ((true, 10, [.tight [] 0, .d (.flat (.bool false)), .d (.flat (.bool false)), .d (.flat (.string ⟨#[]⟩)), .d (.flat (.string ⟨#[]⟩)), .tight [] 0, .tight [] 0, .d (.flat (.string ⟨#[]⟩)), .d (.flat (.bool false)), .tight [] 0])) := by kernel_rfl
theorem ty_196 : tyOf Tryz.prog 196 = some ((true, 10, [.tight [] 0, .d (.flat (.bool false)), .d (.flat (.bool false)), .d (.flat (.string ⟨#[]⟩)), .d (.flat (.string ⟨#[]⟩)), .tight [] 0, .tight [] 0, .d (.flat (.string ⟨#[]⟩)), .d (.flat (.bool false)), .tight [] 0])) := by kernel_rfl
theorem ty_214 : tyOf Tryz.prog 214 = some ((true, 4, [.d (.flat (.pointer none)), .d (.flat (.pointer none)), .d (.flat (.pointer none)), .d (.flat (.string ⟨#[]⟩))])) := by kernel_rfl
theorem ty_215 : tyOf Tryz.prog 215 = some ((true, 4, [.d (.flat (.pointer none)), .d (.flat (.pointer none)), .d (.flat (.pointer none)), .d (.flat (.string ⟨#[]⟩))])) := by kernel_rfl
theorem ty_217 : tyOf Tryz.prog 217 = some ((true, 0, [])) := by kernel_rfl
theorem ty_218 : tyOf Tryz.prog 218 = some ((true, 0, [])) := by kernel_rfl
theorem ty_219 : tyOf Tryz.prog 219 = some ((false, 1, [.d (.flat (.int .u32 0))])) := by kernel_rfl
theorem ty_220 : tyOf Tryz.prog 220 = some ((false, 1, [.d (.flat (.int .u8 0))])) := by kernel_rfl
theorem ty_221 : tyOf Tryz.prog 221 = some ((false, 1, [.d (.flat (.int .u8 0))])) := by kernel_rfl
theorem ty_224 : tyOf Tryz.prog 224 = some ((false, 1, [.d (.flat (.int .i32 0))])) := by kernel_rfl
theorem ty_225 : tyOf Tryz.prog 225 = some ((false, 1, [.d (.flat (.int .i32 0))])) := by kernel_rfl
theorem ty_226 : tyOf Tryz.prog 226 = some ((true, 11, [.d (.flat (.int .u64 0)), .d (.flat (.int .u64 0)), .d (.flat (.int .u32 0)), .d (.flat (.int .u8 0)), .d (.flat (.int .u8 0)), .d (.flat (.int .u8 0)), .d (.flat (.int .u8 0)), .d (.flat .nilFunc), .d (.flat (.pointer none)), .d (.flat (.int .i32 0)), .d (.flat (.int .i32 0))])) := by kernel_rfl
theorem ty_227 : tyOf Tryz.prog 227 = some ((true, 11, [.d (.flat (.int .u64 0)), .d (.flat (.int .u64 0)), .d (.flat (.int .u32 0)), .d (.flat (.int .u8 0)), .d (.flat (.int .u8 0)), .d (.flat (.int .u8 0)), .d (.flat (.int .u8 0)), .d (.flat .nilFunc), .d (.flat (.pointer none)), .d (.flat (.int .i32 0)), .d (.flat (.int .i32 0))])) := by kernel_rfl
theorem tyT {t : Nat} {r : Bool × Nat × List BV} (h : tyTab t = some r) : tyOf Tryz.prog t = some r := by
  unfold tyTab at h
  split at h
  · obtain rfl := Option.some.inj h; exact ty_2
  · obtain rfl := Option.some.inj h; exact ty_3
  · obtain rfl := Option.some.inj h; exact ty_4
  · obtain rfl := Option.some.inj h; exact ty_5
  · obtain rfl := Option.some.inj h; exact ty_6
  · obtain rfl := Option.some.inj h; exact ty_7
  · obtain rfl := Option.some.inj h; exact ty_8
  · obtain rfl := Option.some.inj h; exact ty_9
  · obtain rfl := Option.some.inj h; exact ty_10
  · obtain rfl := Option.some.inj h; exact ty_11
  · obtain rfl := Option.some.inj h; exact ty_12
  · obtain rfl := Option.some.inj h; exact ty_13
  · obtain rfl := Option.some.inj h; exact ty_14
  · obtain rfl := Option.some.inj h; exact ty_18
  · obtain rfl := Option.some.inj h; exact ty_19
  · obtain rfl := Option.some.inj h; exact ty_21
  · obtain rfl := Option.some.inj h; exact ty_22
  · obtain rfl := Option.some.inj h; exact ty_23
  · obtain rfl := Option.some.inj h; exact ty_24
  · obtain rfl := Option.some.inj h; exact ty_25
  · obtain rfl := Option.some.inj h; exact ty_26
  · obtain rfl := Option.some.inj h; exact ty_33
  · obtain rfl := Option.some.inj h; exact ty_34
  · obtain rfl := Option.some.inj h; exact ty_35
  · obtain rfl := Option.some.inj h; exact ty_36
  · obtain rfl := Option.some.inj h; exact ty_37
  · obtain rfl := Option.some.inj h; exact ty_38
  · obtain rfl := Option.some.inj h; exact ty_39
  · obtain rfl := Option.some.inj h; exact ty_40
  · obtain rfl := Option.some.inj h; exact ty_41
  · obtain rfl := Option.some.inj h; exact ty_42
  · obtain rfl := Option.some.inj h; exact ty_43
  · obtain rfl := Option.some.inj h; exact ty_44
  · obtain rfl := Option.some.inj h; exact ty_51
  · obtain rfl := Option.some.inj h; exact ty_52
  · obtain rfl := Option.some.inj h; exact ty_53
  · obtain rfl := Option.some.inj h; exact ty_54
  · obtain rfl := Option.some.inj h; exact ty_60
  · obtain rfl := Option.some.inj h; exact ty_62
  · obtain rfl := Option.some.inj h; exact ty_63
  · obtain rfl := Option.some.inj h; exact ty_71
  · obtain rfl := Option.some.inj h; exact ty_72
  · obtain rfl := Option.some.inj h; exact ty_73
  · obtain rfl := Option.some.inj h; exact ty_74
  · obtain rfl := Option.some.inj h; exact ty_75
  · obtain rfl := Option.some.inj h; exact ty_76
  · obtain rfl := Option.some.inj h; exact ty_78
  · obtain rfl := Option.some.inj h; exact ty_79
  · obtain rfl := Option.some.inj h; exact ty_83
  · obtain rfl := Option.some.inj h; exact ty_84
  · obtain rfl := Option.some.inj h; exact ty_95
  · obtain rfl := Option.some.inj h; exact ty_96
  · obtain rfl := Option.some.inj h; exact ty_97
  · obtain rfl := Option.some.inj h; exact ty_98
  · obtain rfl := Option.some.inj h; exact ty_100
  · obtain rfl := Option.some.inj h; exact ty_104
  · obtain rfl := Option.some.inj h; exact ty_105
  · obtain rfl := Option.some.inj h; exact ty_123
  · obtain rfl := Option.some.inj h; exact ty_124
  · obtain rfl := Option.some.inj h; exact ty_125
  · obtain rfl := Option.some.inj h; exact ty_126
  · obtain rfl := Option.some.inj h; exact ty_128
  · obtain rfl := Option.some.inj h; exact ty_129
  · obtain rfl := Option.some.inj h; exact ty_146
  · obtain rfl := Option.some.inj h; exact ty_147
  · obtain rfl := Option.some.inj h; exact ty_154
  · obtain rfl := Option.some.inj h; exact ty_155
  · obtain rfl := Option.some.inj h; exact ty_165
  · obtain rfl := Option.some.inj h; exact ty_166
  · obtain rfl := Option.some.inj h; exact ty_172
  · obtain rfl := Option.some.inj h; exact ty_173
  · obtain rfl := Option.some.inj h; exact ty_195
  · obtain rfl := Option.some.inj h; exact ty_196
  · obtain rfl := Option.some.inj h; exact ty_214
  · obtain rfl := Option.some.inj h; exact ty_215
  · obtain rfl := Option.some.inj h; exact ty_217
  · obtain rfl := Option.some.inj h; exact ty_218
  · obtain rfl := Option.some.inj h; exact ty_219
  · obtain rfl := Option.some.inj h; exact ty_220
  · obtain rfl := Option.some.inj h; exact ty_221
  · obtain rfl := Option.some.inj h; exact ty_224
  · obtain rfl := Option.some.inj h; exact ty_225
  · obtain rfl := Option.some.inj h; exact ty_226
  · obtain rfl := Option.some.inj h; exact ty_227
  · cases h
def plTab : Nat → Option (List (Nat × Nat) × List BV)
  | 7 => some (([(0, 1), (1, 1), (2, 1), (3, 1)], [.d (.flat (.int .i64 0)), .d (.flat (.int .i64 0)), .d (.flat (.bool false)), .d (.flat (.int .u8 0))]))
  | 8 => some (([(0, 1), (1, 1), (2, 1), (3, 1)], [.d (.flat (.int .i64 0)), .d (.flat (.int .i64 0)), .d (.flat (.bool false)), .d (.flat (.int .u8 0))]))
  | 13 => some (([(0, 1), (1, 1)], [.d (.flat (.string ⟨#[]⟩)), .d (.flat (.int .u64 0))]))
  | 14 => some (([(0, 1), (1, 1)], [.d (.flat (.string ⟨#[]⟩)), .d (.flat (.int .u64 0))]))
  | 18 => some (([(0, 1)], [.d (.flat (.pointer none))]))
  | 19 => some (([(0, 1)], [.d (.flat (.pointer none))]))
  | 25 => some (([(0, 1)], [.tight [] 0]))
  | 26 => some (([(0, 1)], [.tight [] 0]))
  | 36 => some (([(0, 1), (1, 1), (2, 1), (3, 1)], [.d (.flat (.string ⟨#[]⟩)), .d (.flat (.string ⟨#[]⟩)), .tight [] 0, .tight [] 0]))
  | 37 => some (([(0, 1), (1, 1), (2, 1), (3, 1)], [.d (.flat (.string ⟨#[]⟩)), .d (.flat (.string ⟨#[]⟩)), .tight [] 0, .tight [] 0]))
  | 38 => some (([(0, 1), (1, 1), (2, 1)], [.d (.flat (.int .i64 0)), .d (.flat (.int .i32 0)), .d (.flat (.string ⟨#[]⟩))]))
  | 39 => some (([(0, 1), (1, 1), (2, 1)], [.d (.flat (.int .i64 0)), .d (.flat (.int .i32 0)), .d (.flat (.string ⟨#[]⟩))]))
  | 40 => some (([(0, 1), (1, 1), (2, 1), (3, 1), (4, 1), (5, 3)], [.d (.flat (.int .i64 0)), .d (.flat (.int .i64 0)), .d (.flat (.int .i64 0)), .d (.flat (.int .i64 0)), .d (.flat (.int .i64 0)), .d (.flat (.int .i64 0)), .d (.flat (.int .i32 0)), .d (.flat (.string ⟨#[]⟩))]))
  | 41 => some (([(0, 1), (1, 1), (2, 1), (3, 1), (4, 1), (5, 3)], [.d (.flat (.int .i64 0)), .d (.flat (.int .i64 0)), .d (.flat (.int .i64 0)), .d (.flat (.int .i64 0)), .d (.flat (.int .i64 0)), .d (.flat (.int .i64 0)), .d (.flat (.int .i32 0)), .d (.flat (.string ⟨#[]⟩))]))
  | 43 => some (([(0, 1), (1, 1)], [.d (.flat (.string ⟨#[]⟩)), .d (.flat (.int .i64 0))]))
  | 44 => some (([(0, 1), (1, 1)], [.d (.flat (.string ⟨#[]⟩)), .d (.flat (.int .i64 0))]))
  | 53 => some (([(0, 1), (1, 1), (2, 1)], [.tight [] 0, .tight [] 0, .tight [] 0]))
  | 54 => some (([(0, 1), (1, 1), (2, 1)], [.tight [] 0, .tight [] 0, .tight [] 0]))
  | 72 => some (([(0, 1), (1, 1), (2, 1)], [.tight [] 0, .tight [] 0, .d (.flat (.map none))]))
  | 73 => some (([(0, 1), (1, 1), (2, 1)], [.tight [] 0, .tight [] 0, .d (.flat (.map none))]))
  | 75 => some (([(0, 1), (1, 1), (2, 1), (3, 1)], [.d (.flat (.bool false)), .d (.flat (.string ⟨#[]⟩)), .d (.flat (.string ⟨#[]⟩)), .tight [] 0]))
  | 76 => some (([(0, 1), (1, 1), (2, 1), (3, 1)], [.d (.flat (.bool false)), .d (.flat (.string ⟨#[]⟩)), .d (.flat (.string ⟨#[]⟩)), .tight [] 0]))
  | 78 => some (([(0, 1), (1, 1)], [.d (.flat (.string ⟨#[]⟩)), .d (.flat (.map none))]))
  | 79 => some (([(0, 1), (1, 1)], [.d (.flat (.string ⟨#[]⟩)), .d (.flat (.map none))]))
  | 83 => some (([(0, 1), (1, 1), (2, 1)], [.d (.flat (.string ⟨#[]⟩)), .tight [] 0, .tight [] 0]))
  | 84 => some (([(0, 1), (1, 1), (2, 1)], [.d (.flat (.string ⟨#[]⟩)), .tight [] 0, .tight [] 0]))
  | 97 => some (([(0, 1), (1, 1), (2, 1), (3, 1), (4, 1), (5, 1)], [.d (.flat (.bool false)), .d (.flat (.bool false)), .d (.flat (.string ⟨#[]⟩)), .d (.flat (.string ⟨#[]⟩)), .tight [] 0, .tight [] 0]))
  | 98 => some (([(0, 1), (1, 1), (2, 1), (3, 1), (4, 1), (5, 1)], [.d (.flat (.bool false)), .d (.flat (.bool false)), .d (.flat (.string ⟨#[]⟩)), .d (.flat (.string ⟨#[]⟩)), .tight [] 0, .tight [] 0]))
  | 104 => some (([(0, 1), (1, 1), (2, 1), (3, 1), (4, 1), (5, 1), (6, 1), (7, 1)], [.tight [] 0, .d (.flat (.int .i64 0)), .d (.flat (.int .i64 0)), .d (.flat (.int .i64 0)), .d (.flat (.int .i64 0)), .d (.flat (.int .i64 0)), .d (.flat (.bool false)), .d (.flat (.int .i64 0))]))
  | 105 => some (([(0, 1), (1, 1), (2, 1), (3, 1), (4, 1), (5, 1), (6, 1), (7, 1)], [.tight [] 0, .d (.flat (.int .i64 0)), .d (.flat (.int .i64 0)), .d (.flat (.int .i64 0)), .d (.flat (.int .i64 0)), .d (.flat (.int .i64 0)), .d (.flat (.bool false)), .d (.flat (.int .i64 0))]))
  | 123 => some (([(0, 1), (1, 1), (2, 1), (3, 1), (4, 1), (5, 1), (6, 1), (7, 1)], [.d (.flat (.int .i64 0)), .d (.flat (.int .i32 0)), .d (.flat (.string ⟨#[]⟩)), .d (.flat (.string ⟨#[]⟩)), .d (.flat (.string ⟨#[]⟩)), .tight [] 0, .d (.flat (.string ⟨#[]⟩)), .d (.flat (.int .i64 0))]))
  | 124 => some (([(0, 1), (1, 1), (2, 1), (3, 1), (4, 1), (5, 1), (6, 1), (7, 1)], [.d (.flat (.int .i64 0)), .d (.flat (.int .i32 0)), .d (.flat (.string ⟨#[]⟩)), .d (.flat (.string ⟨#[]⟩)), .d (.flat (.string ⟨#[]⟩)), .tight [] 0, .d (.flat (.string ⟨#[]⟩)), .d (.flat (.int .i64 0))]))
  | 125 => some (([(0, 1), (1, 1), (2, 1), (3, 1), (4, 1), (5, 1), (6, 1), (7, 1), (8, 1)], [.d (.flat (.int .i64 0)), .d (.flat (.int .i32 0)), .d (.flat (.string ⟨#[]⟩)), .d (.flat (.string ⟨#[]⟩)), .tight [] 0, .tight [] 0, .tight [] 0, .tight [] 0, .d (.flat (.int .i64 0))]))
  | 126 => some (([(0, 1), (1, 1), (2, 1), (3, 1), (4, 1), (5, 1), (6, 1), (7, 1), (8, 1)], [.d (.flat (.int .i64 0)), .d (.flat (.int .i32 0)), .d (.flat (.string ⟨#[]⟩)), .d (.flat (.string ⟨#[]⟩)), .tight [] 0, .tight [] 0, .tight [] 0, .tight [] 0, .d (.flat (.int .i64 0))]))
  | 128 => some (([(0, 1), (1, 1), (2, 1)], [.d (.flat (.int .i64 0)), .d (.flat (.string ⟨#[]⟩)), .d (.flat (.int .i64 0))]))
  | 129 => some (([(0, 1), (1, 1), (2, 1)], [.d (.flat (.int .i64 0)), .d (.flat (.string ⟨#[]⟩)), .d (.flat (.int .i64 0))]))
  | 146 => some (([(0, 1), (1, 1), (2, 1)], [.d (.flat (.int .i32 0)), .d (.flat (.int .i64 0)), .d (.flat (.bool false))]))
  | 147 => some (([(0, 1), (1, 1), (2, 1)], [.d (.flat (.int .i32 0)), .d (.flat (.int .i64 0)), .d (.flat (.bool false))]))
  | 154 => some (([(0, 1), (1, 1)], [.d (.flat (.string ⟨#[]⟩)), .d (.flat (.string ⟨#[]⟩))]))
  | 155 => some (([(0, 1), (1, 1)], [.d (.flat (.string ⟨#[]⟩)), .d (.flat (.string ⟨#[]⟩))]))
  | 165 => some (([(0, 1), (1, 1), (2, 1)], [.d (.flat (.string ⟨#[]⟩)), .d (.flat (.bool false)), .tight [] 0]))
  | 166 => some (([(0, 1), (1, 1), (2, 1)], [.d (.flat (.string ⟨#[]⟩)), .d (.flat (.bool false)), .tight [] 0]))
  | 172 => some (([(0, 1), (1, 1)], [.d (.flat (.int .i64 0)), .d (.flat (.int .i64 0))]))
  | 173 => some (([(0, 1), (1, 1)], [.d (.flat (.int .i64 0)), .d (.flat (.int .i64 0))]))
  | 195 => some (([(0, 1), (1, 6), (7, 3)], [.tight [] 0, .d (.flat (.bool false)), .d (.flat (.bool false)), .d (.flat (.string ⟨#[]⟩)), .d (.flat (.string ⟨#[]⟩)), .tight [] 0, .tight [] 0, .d (.flat (.string ⟨#[]⟩)), .d (.flat (.bool false)), .tight [] 0]))
  | 196 => some (([(0, 1), (1, 6), (7, 3)], [.tight [] 0, .d (.flat (.bool false)), .d (.flat (.bool false)), .d (.flat (.string ⟨#[]⟩)), .d (.flat (.string ⟨#[]⟩)), .tight [] 0, .tight [] 0, .d (.flat (.string ⟨#[]⟩)), .d (.flat (.bool false)), .tight [] 0]))
  | 214 => some (([(0, 1), (1, 1), (2, 1), (3, 1)], [.d (.flat (.pointer none)), .d (.flat (.pointer none)), .d (.flat (.pointer none)), .d (.flat (.string ⟨#[]⟩))]))
  | 215 => some (([(0, 1), (1, 1), (2, 1), (3, 1)], [.d (.flat (.pointer none)), .d (.flat (.pointer none)), .d (.flat (.pointer none)), .d (.flat (.string ⟨#[]⟩))]))
  | 226 => some (([(0, 1), (1, 1), (2, 1), (3, 1), (4, 1), (5, 1), (6, 1), (7, 1), (8, 1), (9, 1), (10, 1)], [.d (.flat (.int .u64 0)), .d (.flat (.int .u64 0)), .d (.flat (.int .u32 0)), .d (.flat (.int .u8 0)), .d (.flat (.int .u8 0)), .d (.flat (.int .u8 0)), .d (.flat (.int .u8 0)), .d (.flat .nilFunc), .d (.flat (.pointer none)), .d (.flat (.int .i32 0)), .d (.flat (.int .i32 0))]))
  | 227 => some (([(0, 1), (1, 1), (2, 1), (3, 1), (4, 1), (5, 1), (6, 1), (7, 1), (8, 1), (9, 1), (10, 1)], [.d (.flat (.int .u64 0)), .d (.flat (.int .u64 0)), .d (.flat (.int .u32 0)), .d (.flat (.int .u8 0)), .d (.flat (.int .u8 0)), .d (.flat (.int .u8 0)), .d (.flat (.int .u8 0)), .d (.flat .nilFunc), .d (.flat (.pointer none)), .d (.flat (.int .i32 0)), .d (.flat (.int .i32 0))]))
  | _ => none
theorem pl_7 : plOf Tryz.prog 7 = some (([(0, 1), (1, 1), (2, 1), (3, 1)], [.d (.flat (.int .i64 0)), .d (.flat (.int .i64 0)), .d (.flat (.bool false)), .d (.flat (.int .u8 0))])) := by kernel_rfl
theorem pl_8 : plOf Tryz.prog 8 = some (([(0, 1), (1, 1), (2, 1), (3, 1)], [.d (.flat (.int .i64 0)), .d (.flat (.int .i64 0)), .d (.flat (.bool false)), .d (.flat (.int .u8 0))])) := by kernel_rfl
theorem pl_13 : plOf Tryz.prog 13 = some (([(0, 1), (1, 1)], [.d (.flat (.string ⟨#[]⟩)), .d (.flat (.int .u64 0))])) := by kernel_rfl
theorem pl_14 : plOf Tryz.prog 14 = some (([(0, 1), (1, 1)], [.d (.flat (.string ⟨#[]⟩)), .d (.flat (.int .u64 0))])) := by kernel_rfl
theorem pl_18 : plOf Tryz.prog 18 = some (([(0, 1)], [.d (.flat (.pointer none))])) := by kernel_rfl
theorem pl_19 : plOf Tryz.prog 19 = some (([(0, 1)], [.d (.flat (.pointer none))])) := by kernel_rfl
theorem pl_25 : plOf Tryz.prog 25 = some (([(0, 1)], [.tight [] 0])) := by kernel_rfl
theorem pl_26 : plOf Tryz.prog 26 = some (([(0, 1)], [.tight [] 0])) := by kernel_rfl
theorem pl_36 : plOf Tryz.prog 36 = some (([(0, 1), (1, 1), (2, 1), (3, 1)], [.d (.flat (.string ⟨#[]⟩)), .d (.flat (.string ⟨#[]⟩)), .tight [] 0, .tight [] 0])) := by kernel_rfl
theorem pl_37 : plOf Tryz.prog 37 = some (([(0, 1), (1, 1), (2, 1), (3, 1)], [.d (.flat (.string ⟨#[]⟩)), .d (.flat (.string ⟨#[]⟩)), .tight [] 0, .tight [] 0])) := by kernel_rfl
theorem pl_38 : plOf Tryz.prog 38 = some (([(0, 1), (1, 1), (2, 1)], [.d (.flat (.int .i64 0)), .d (.flat (.int .i32 0)), .d (.flat (.string ⟨#[]⟩))])) := by kernel_rfl
theorem pl_39 : plOf Tryz.prog 39 = some (([(0, 1), (1, 1), (2, 1)], [.d (.flat (.int .i64 0)), .d (.flat (.int .i32 0)), .d (.flat (.string ⟨#[]⟩))])) := by kernel_rfl
theorem pl_40 : plOf Tryz.prog 40 = some (([(0, 1), (1, 1), (2, 1), (3, 1), (4, 1), (5, 3)], [.d (.flat (.int .i64 0)), .d (.flat (.int .i64 0)), .d (.flat (.int .i64 0)), .d (.flat (.int .i64 0)), .d (.flat (.int .i64 0)), .d (.flat (.int .i64 0)), .d (.flat (.int .i32 0)), .d (.flat (.string ⟨#[]⟩))])) := by kernel_rfl
theorem pl_41 : plOf Tryz.prog 41 = some (([(0, 1), (1, 1), (2, 1), (3, 1), (4, 1), (5, 3)], [.d (.flat (.int .i64 0)), .d (.flat (.int .i64 0)), .d (.flat (.int .i64 0)), .d (.flat (.int .i64 0)), .d (.flat (.int .i64 0)), .d (.flat (.int .i64 0)), .d (.flat (.int .i32 0)), .d (.flat (.string ⟨#[]⟩))])) := by kernel_rfl
theorem pl_43 : plOf Tryz.prog 43 = some (([(0, 1), (1, 1)], [.d (.flat (.string ⟨#[]⟩)), .d (.flat (.int .i64 0))])) := by kernel_rfl
theorem pl_44 : plOf Tryz.prog 44 = some (([(0, 1), (1, 1)], [.d (.flat (.string ⟨#[]⟩)), .d (.flat (.int .i64 0))])) := by kernel_rfl
theorem pl_53 : plOf Tryz.prog 53 = some (([(0, 1), (1, 1), (2, 1)], [.tight [] 0, .tight [] 0, .tight [] 0])) := by kernel_rfl
theorem pl_54 : plOf Tryz.prog 54 = some (([(0, 1), (1, 1), (2, 1)], [.tight [] 0, .tight [] 0, .tight [] 0])) := by kernel_rfl
theorem pl_72 : plOf Tryz.prog 72 = some (([(0, 1), (1, 1), (2, 1)], [.tight [] 0, .tight [] 0, .d (.flat (.map none))])) := by kernel_rfl
theorem pl_73 : plOf Tryz.prog 73 = some (([(0, 1), (1, 1), (2, 1)], [.tight [] 0, .tight [] 0, .d (.flat (.map none))])) := by kernel_rfl
theorem pl_75 : plOf Tryz.prog 75 = some (([(0, 1), (1, 1), (2, 1), (3, 1)], [.d (.flat (.bool false)), .d (.flat (.string ⟨#[]⟩)), .d (.flat (.string ⟨#[]⟩)), .tight [] 0])) := by kernel_rfl
theorem pl_76 : plOf Tryz.prog 76 = some (([(0, 1), (1, 1), (2, 1), (3, 1)], [.d (.flat (.bool false)), .d (.flat (.string ⟨#[]⟩)), .d (.flat (.string ⟨#[]⟩)), .tight [] 0])) := by kernel_rfl
theorem pl_78 : plOf Tryz.prog 78 = some (([(0, 1), (1, 1)], [.d (.flat (.string ⟨#[]⟩)), .d (.flat (.map none))])) := by kernel_rfl
theorem pl_79 : plOf Tryz.prog 79 = some (([(0, 1), (1, 1)], [.d (.flat (.string ⟨#[]⟩)), .d (.flat (.map none))])) := by kernel_rfl
theorem pl_83 : plOf Tryz.prog 83 = some (([(0, 1), (1, 1), (2, 1)], [.d (.flat (.string ⟨#[]⟩)), .tight [] 0, .tight [] 0])) := by kernel_rfl
theorem pl_84 : plOf Tryz.prog 84 = some (([(0, 1), (1, 1), (2, 1)], [.d (.flat (.string ⟨#[]⟩)), .tight [] 0, .tight [] 0])) := by kernel_rfl
theorem pl_97 : plOf Tryz.prog 97 = some (([(0, 1), (1, 1), (2, 1), (3, 1), (4, 1), (5, 1)], [.d (.flat (.bool false)), .d (.flat (.bool false)), .d (.flat (.string ⟨#[]⟩)), .d (.flat (.string ⟨#[]⟩)), .tight [] 0, .tight [] 0])) := by kernel_rfl
theorem pl_98 : plOf Tryz.prog 98 = some (([(0, 1), (1, 1), (2, 1), (3, 1), (4, 1), (5, 1)], [.d (.flat (.bool false)), .d (.flat (.bool false)), .d (.flat (.string ⟨#[]⟩)), .d (.flat (.string ⟨#[]⟩)), .tight [] 0, .tight [] 0])) := by kernel_rfl
theorem pl_104 : plOf Tryz.prog 104 = some (([(0, 1), (1, 1), (2, 1), (3, 1), (4, 1), (5, 1), (6, 1), (7, 1)], [.tight [] 0, .d (.flat (.int .i64 0)), .d (.flat (.int .i64 0)), .d (.flat (.int .i64 0)), .d (.flat (.int .i64 0)), .d (.flat (.int .i64 0)), .d (.flat (.bool false)), .d (.flat (.int .i64 0))])) := by kernel_rfl
theorem pl_105 : plOf Tryz.prog 105 = some (([(0, 1), (1, 1), (2, 1), (3, 1), (4, 1), (5, 1), (6, 1), (7, 1)], [.tight [] 0, .d (.flat (.int .i64 0)), .d (.flat (.int .i64 0)), .d (.flat (.int .i64 0)), .d (.flat (.int .i64 0)), .d (.flat (.int .i64 0)), .d (.flat (.bool false)), .d (.flat (.int .i64 0))])) := by kernel_rfl
theorem pl_123 : plOf Tryz.prog 123 = some (([(0, 1), (1, 1), (2, 1), (3, 1), (4, 1), (5, 1), (6, 1), (7, 1)], [.d (.flat (.int .i64 0)), .d (.flat (.int .i32 0)), .d (.flat (.string ⟨#[]⟩)), .d (.flat (.string ⟨#[]⟩)), .d (.flat (.string ⟨#[]⟩)), .tight [] 0, .d (.flat (.string ⟨#[]⟩)), .d (.flat (.int .i64 0))])) := by kernel_rfl
theorem pl_124 : plOf Tryz.prog 124 = some (([(0, 1), (1, 1), (2, 1), (3, 1), (4, 1), (5, 1), (6, 1), (7, 1)], [.d (.flat (.int .i64 0)), .d (.flat (.int .i32 0)), .d (.flat (.string ⟨#[]⟩)), .d (.flat (.string ⟨#[]⟩)), .d (.flat (.string ⟨#[]⟩)), .tight [] 0, .d (.flat (.string ⟨#[]⟩)), .d (.flat (.int .i64 0))])) := by kernel_rfl
theorem pl_125 : plOf Tryz.prog 125 = some (([(0, 1), (1, 1), (2, 1), (3, 1), (4, 1), (5, 1), (6, 1), (7, 1), (8, 1)], [.d (.flat (.int .i64 0)), .d (.flat (.int .i32 0)), .d (.flat (.string ⟨#[]⟩)), .d (.flat (.string ⟨#[]⟩)), .tight [] 0, .tight [] 0, .tight [] 0, .tight [] 0, .d (.flat (.int .i64 0))])) := by kernel_rfl
theorem pl_126 : plOf Tryz.prog 126 = some (([(0, 1), (1, 1), (2, 1), (3, 1), (4, 1), (5, 1), (6, 1), (7, 1), (8, 1)], [.d (.flat (.int .i64 0)), .d (.flat (.int .i32 0)), .d (.flat (.string ⟨#[]⟩)), .d (.flat (.string ⟨#[]⟩)), .tight [] 0, .tight [] 0, .tight [] 0, .tight [] 0, .d (.flat (.int .i64 0))])) := by kernel_rfl
theorem pl_128 : plOf Tryz.prog 128 = some (([(0, 1), (1, 1), (2, 1)], [.d (.flat (.int .i64 0)), .d (.flat (.string ⟨#[]⟩)), .d (.flat (.int .i64 0))])) := by kernel_rfl
theorem pl_129 : plOf Tryz.prog 129 = some (([(0, 1), (1, 1), (2, 1)], [.d (.flat (.int .i64 0)), .d (.flat (.string ⟨#[]⟩)), .d (.flat (.int .i64 0))])) := by kernel_rfl
theorem pl_146 : plOf Tryz.prog 146 = some (([(0, 1), (1, 1), (2, 1)], [.d (.flat (.int .i32 0)), .d (.flat (.int .i64 0)), .d (.flat (.bool false))])) := by kernel_rfl
theorem pl_147 : plOf Tryz.prog 147 = some (([(0, 1), (1, 1), (2, 1)], [.d (.flat (.int .i32 0)), .d (.flat (.int .i64 0)), .d (.flat (.bool false))])) := by kernel_rfl
theorem pl_154 : plOf Tryz.prog 154 = some (([(0, 1), (1, 1)], [.d (.flat (.string ⟨#[]⟩)), .d (.flat (.string ⟨#[]⟩))])) := by kernel_rfl
theorem pl_155 : plOf Tryz.prog 155 = some (([(0, 1), (1, 1)], [.d (.flat (.string ⟨#[]⟩)), .d (.flat (.string ⟨#[]⟩))])) := by kernel_rfl
theorem pl_165 : plOf Tryz.prog 165 = some (([(0, 1), (1, 1), (2, 1)], [.d (.flat (.string ⟨#[]⟩)), .d (.flat (.bool false)), .tight [] 0])) := by kernel_rfl
theorem pl_166 : plOf Tryz.prog 166 = some (([(0, 1), (1, 1), (2, 1)], [.d (.flat (.string ⟨#[]⟩)), .d (.flat (.bool false)), .tight [] 0])) := by kernel_rfl
theorem pl_172 : plOf Tryz.prog 172 = some (([(0, 1), (1, 1)], [.d (.flat (.int .i64 0)), .d (.flat (.int .i64 0))])) := by kernel_rfl
theorem pl_173 : plOf Tryz.prog 173 = some (([(0, 1), (1, 1)], [.d (.flat (.int .i64 0)), .d (.flat (.int .i64 0))])) := by kernel_rfl
theorem pl_195 : plOf Tryz.prog 195 = some (([(0, 1), (1, 6), (7, 3)], [.tight [] 0, .d (.flat (.bool false)), .d (.flat (.bool false)), .d (.flat (.string ⟨#[]⟩)), .d (.flat (.string ⟨#[]⟩)), .tight [] 0, .tight [] 0, .d (.flat (.string ⟨#[]⟩)), .d (.flat (.bool false)), .tight [] 0])) := by kernel_rfl
theorem pl_196 : plOf Tryz.prog 196 = some (([(0, 1), (1, 6), (7, 3)], [.tight [] 0, .d (.flat (.bool false)), .d (.flat (.bool false)), .d (.flat (.string ⟨#[]⟩)), .d (.flat (.string ⟨#[]⟩)), .tight [] 0, .tight [] 0, .d (.flat (.string ⟨#[]⟩)), .d (.flat (.bool false)), .tight [] 0])) := by kernel_rfl
theorem pl_214 : plOf Tryz.prog 214 = some (([(0, 1), (1, 1), (2, 1), (3, 1)], [.d (.flat (.pointer none)), .d (.flat (.pointer none)), .d (.flat (.pointer none)), .d (.flat (.string ⟨#[]⟩))])) := by kernel_rfl
theorem pl_215 : plOf Tryz.prog 215 = some (([(0, 1), (1, 1), (2, 1), (3, 1)], [.d (.flat (.pointer none)), .d (.flat (.pointer none)), .d (.flat (.pointer none)), .d (.flat (.string ⟨#[]⟩))])) := by kernel_rfl
theorem pl_226 : plOf Tryz.prog 226 = some (([(0, 1), (1, 1), (2, 1), (3, 1), (4, 1), (5, 1), (6, 1), (7, 1), (8, 1), (9, 1), (10, 1)], [.d (.flat (.int .u64 0)), .d (.flat (.int .u64 0)), .d (.flat (.int .u32 0)), .d (.flat (.int .u8 0)), .d (.flat (.int .u8 0)), .d (.flat (.int .u8 0)), .d (.flat (.int .u8 0)), .d (.flat .nilFunc), .d (.flat (.pointer none)), .d (.flat (.int .i32 0)), .d (.flat (.int .i32 0))])) := by kernel_rfl
theorem pl_227 : plOf Tryz.prog 227 = some (([(0, 1), (1, 1), (2, 1), (3, 1), (4, 1), (5, 1), (6, 1), (7, 1), (8, 1), (9, 1), (10, 1)], [.d (.flat (.int .u64 0)), .d (.flat (.int .u64 0)), .d (.flat (.int .u32 0)), .d (.flat (.int .u8 0)), .d (.flat (.int .u8 0)), .d (.flat (.int .u8 0)), .d (.flat (.int .u8 0)), .d (.flat .nilFunc), .d (.flat (.pointer none)), .d (.flat (.int .i32 0)), .d (.flat (.int .i32 0))])) := by kernel_rfl
theorem plT {t : Nat} {r : List (Nat × Nat) × List BV} (h : plTab t = some r) : plOf Tryz.prog t = some r := by
  unfold plTab at h
  split at h
  · obtain rfl := Option.some.inj h; exact pl_7
  · obtain rfl := Option.some.inj h; exact pl_8
  · obtain rfl := Option.some.inj h; exact pl_13
  · obtain rfl := Option.some.inj h; exact pl_14
  · obtain rfl := Option.some.inj h; exact pl_18
  · obtain rfl := Option.some.inj h; exact pl_19
  · obtain rfl := Option.some.inj h; exact pl_25
  · obtain rfl := Option.some.inj h; exact pl_26
  · obtain rfl := Option.some.inj h; exact pl_36
  · obtain rfl := Option.some.inj h; exact pl_37
  · obtain rfl := Option.some.inj h; exact pl_38
  · obtain rfl := Option.some.inj h; exact pl_39
  · obtain rfl := Option.some.inj h; exact pl_40
  · obtain rfl := Option.some.inj h; exact pl_41
  · obtain rfl := Option.some.inj h; exact pl_43
  · obtain rfl := Option.some.inj h; exact pl_44
  · obtain rfl := Option.some.inj h; exact pl_53
  · obtain rfl := Option.some.inj h; exact pl_54
  · obtain rfl := Option.some.inj h; exact pl_72
  · obtain rfl := Option.some.inj h; exact pl_73
  · obtain rfl := Option.some.inj h; exact pl_75
  · obtain rfl := Option.some.inj h; exact pl_76
  · obtain rfl := Option.some.inj h; exact pl_78
  · obtain rfl := Option.some.inj h; exact pl_79
  · obtain rfl := Option.some.inj h; exact pl_83
  · obtain rfl := Option.some.inj h; exact pl_84
  · obtain rfl := Option.some.inj h; exact pl_97
  · obtain rfl := Option.some.inj h; exact pl_98
  · obtain rfl := Option.some.inj h; exact pl_104
  · obtain rfl := Option.some.inj h; exact pl_105
  · obtain rfl := Option.some.inj h; exact pl_123
  · obtain rfl := Option.some.inj h; exact pl_124
  · obtain rfl := Option.some.inj h; exact pl_125
  · obtain rfl := Option.some.inj h; exact pl_126
  · obtain rfl := Option.some.inj h; exact pl_128
  · obtain rfl := Option.some.inj h; exact pl_129
  · obtain rfl := Option.some.inj h; exact pl_146
  · obtain rfl := Option.some.inj h; exact pl_147
  · obtain rfl := Option.some.inj h; exact pl_154
  · obtain rfl := Option.some.inj h; exact pl_155
  · obtain rfl := Option.some.inj h; exact pl_165
  · obtain rfl := Option.some.inj h; exact pl_166
  · obtain rfl := Option.some.inj h; exact pl_172
  · obtain rfl := Option.some.inj h; exact pl_173
  · obtain rfl := Option.some.inj h; exact pl_195
  · obtain rfl := Option.some.inj h; exact pl_196
  · obtain rfl := Option.some.inj h; exact pl_214
  · obtain rfl := Option.some.inj h; exact pl_215
  · obtain rfl := Option.some.inj h; exact pl_226
  · obtain rfl := Option.some.inj h; exact pl_227
  · cases h
def elTab : Nat → Option (Nat × Nat)
  | 22 => some ((60, 1))
  | 23 => some ((41, 8))
  | 24 => some ((37, 4))
  | 33 => some ((9, 1))
  | 34 => some ((76, 4))
  | 35 => some ((98, 6))
  | 51 => some ((84, 3))
  | 52 => some ((62, 1))
  | 60 => some ((3, 1))
  | 62 => some ((39, 3))
  | 63 => some ((44, 2))
  | 71 => some ((79, 2))
  | 74 => some ((124, 8))
  | 95 => some ((155, 2))
  | 96 => some ((126, 9))
  | 100 => some ((129, 3))
  | _ => none
theorem el_22 : elOf Tryz.prog 22 = some ((60, 1)) := by kernel_rfl
theorem el_23 : elOf Tryz.prog 23 = some ((41, 8)) := by kernel_rfl
theorem el_24 : elOf Tryz.prog 24 = some ((37, 4)) := by kernel_rfl
theorem el_33 : elOf Tryz.prog 33 = some ((9, 1)) := by kernel_rfl
theorem el_34 : elOf Tryz.prog 34 = some ((76, 4)) := by kernel_rfl
theorem el_35 : elOf Tryz.prog 35 = some ((98, 6)) := by kernel_rfl
theorem el_51 : elOf Tryz.prog 51 = some ((84, 3)) := by kernel_rfl
theorem el_52 : elOf Tryz.prog 52 = some ((62, 1)) := by kernel_rfl
theorem el_60 : elOf Tryz.prog 60 = some ((3, 1)) := by kernel_rfl
theorem el_62 : elOf Tryz.prog 62 = some ((39, 3)) := by kernel_rfl
theorem el_63 : elOf Tryz.prog 63 = some ((44, 2)) := by kernel_rfl
theorem el_71 : elOf Tryz.prog 71 = some ((79, 2)) := by kernel_rfl
theorem el_74 : elOf Tryz.prog 74 = some ((124, 8)) := by kernel_rfl
theorem el_95 : elOf Tryz.prog 95 = some ((155, 2)) := by kernel_rfl
theorem el_96 : elOf Tryz.prog 96 = some ((126, 9)) := by kernel_rfl
theorem el_100 : elOf Tryz.prog 100 = some ((129, 3)) := by kernel_rfl
theorem elT {t : Nat} {r : Nat × Nat} (h : elTab t = some r) : elOf Tryz.prog t = some r := by
  unfold elTab at h
  split at h
  · obtain rfl := Option.some.inj h; exact el_22
  · obtain rfl := Option.some.inj h; exact el_23
  · obtain rfl := Option.some.inj h; exact el_24
  · obtain rfl := Option.some.inj h; exact el_33
  · obtain rfl := Option.some.inj h; exact el_34
  · obtain rfl := Option.some.inj h; exact el_35
  · obtain rfl := Option.some.inj h; exact el_51
  · obtain rfl := Option.some.inj h; exact el_52
  · obtain rfl := Option.some.inj h; exact el_60
  · obtain rfl := Option.some.inj h; exact el_62
  · obtain rfl := Option.some.inj h; exact el_63
  · obtain rfl := Option.some.inj h; exact el_71
  · obtain rfl := Option.some.inj h; exact el_74
  · obtain rfl := Option.some.inj h; exact el_95
  · obtain rfl := Option.some.inj h; exact el_96
  · obtain rfl := Option.some.inj h; exact el_100
  · cases h
def byTab : Nat → Option (Nat)
  | 2 => some (8)
  | 3 => some (8)
  | 4 => some (1)
  | 5 => some (1)
  | 6 => some (1)
  | 7 => some (24)
  | 8 => some (24)
  | 9 => some (16)
  | 10 => some (16)
  | 11 => some (16)
  | 12 => some (8)
  | 13 => some (24)
  | 14 => some (24)
  | 18 => some (8)
  | 19 => some (8)
  | 21 => some (4)
  | 22 => some (24)
  | 23 => some (24)
  | 24 => some (24)
  | 25 => some (24)
  | 26 => some (24)
  | 33 => some (24)
  | 34 => some (24)
  | 35 => some (24)
  | 36 => some (80)
  | 37 => some (80)
  | 38 => some (32)
  | 39 => some (32)
  | 40 => some (72)
  | 41 => some (72)
  | 42 => some (8)
  | 43 => some (24)
  | 44 => some (24)
  | 51 => some (24)
  | 52 => some (24)
  | 53 => some (72)
  | 54 => some (72)
  | 60 => some (24)
  | 62 => some (24)
  | 63 => some (24)
  | 71 => some (24)
  | 72 => some (56)
  | 73 => some (56)
  | 74 => some (24)
  | 75 => some (64)
  | 76 => some (64)
  | 78 => some (24)
  | 79 => some (24)
  | 83 => some (64)
  | 84 => some (64)
  | 95 => some (24)
  | 96 => some (24)
  | 97 => some (88)
  | 98 => some (88)
  | 100 => some (24)
  | 104 => some (80)
  | 105 => some (80)
  | 123 => some (112)
  | 124 => some (112)
  | 125 => some (152)
  | 126 => some (152)
  | 128 => some (32)
  | 129 => some (32)
  | 146 => some (24)
  | 147 => some (24)
  | 154 => some (32)
  | 155 => some (32)
  | 165 => some (48)
  | 166 => some (48)
  | 172 => some (16)
  | 173 => some (16)
  | 195 => some (160)
  | 196 => some (160)
  | 214 => some (40)
  | 215 => some (40)
  | 217 => some (0)
  | 218 => some (0)
  | 219 => some (4)
  | 220 => some (1)
  | 221 => some (1)
  | 224 => some (4)
  | 225 => some (4)
  | 226 => some (48)
  | 227 => some (48)
  | _ => none
theorem by_2 : byOf Tryz.prog 2 = some (8) := by kernel_rfl
theorem by_3 : byOf Tryz.prog 3 = some (8) := by kernel_rfl
theorem by_4 : byOf Tryz.prog 4 = some (1) := by kernel_rfl
theorem by_5 : byOf Tryz.prog 5 = some (1) := by kernel_rfl
theorem by_6 : byOf Tryz.prog 6 = some (1) := by kernel_rfl
theorem by_7 : byOf Tryz.prog 7 = some (24) := by kernel_rfl
theorem by_8 : byOf Tryz.prog 8 = some (24) := by kernel_rfl
theorem by_9 : byOf Tryz.prog 9 = some (16) := by kernel_rfl
theorem by_10 : byOf Tryz.prog 10 = some (16) := by kernel_rfl
theorem by_11 : byOf Tryz.prog 11 = some (16) := by kernel_rfl
theorem by_12 : byOf Tryz.prog 12 = some (8) := by kernel_rfl
theorem by_13 : byOf Tryz.prog 13 = some (24) := by kernel_rfl
theorem by_14 : byOf Tryz.prog 14 = some (24) := by kernel_rfl
theorem by_18 : byOf Tryz.prog 18 = some (8) := by kernel_rfl
theorem by_19 : byOf Tryz.prog 19 = some (8) := by kernel_rfl
theorem by_21 : byOf Tryz.prog 21 = some (4) := by kernel_rfl
theorem by_22 : byOf Tryz.prog 22 = some (24) := by kernel_rfl
theorem by_23 : byOf Tryz.prog 23 = some (24) := by kernel_rfl
theorem by_24 : byOf Tryz.prog 24 = some (24) := by kernel_rfl
theorem by_25 : byOf Tryz.prog 25 = some (24) := by kernel_rfl
theorem by_26 : byOf Tryz.prog 26 = some (24) := by kernel_rfl
theorem by_33 : byOf Tryz.prog 33 = some (24) := by kernel_rfl
theorem by_34 : byOf Tryz.prog 34 = some (24) := by kernel_rfl
theorem by_35 : byOf Tryz.prog 35 = some (24) := by kernel_rfl
theorem by_36 : byOf Tryz.prog 36 = some (80) := by kernel_rfl
theorem by_37 : byOf Tryz.prog 37 = some (80) := by kernel_rfl
theorem by_38 : byOf Tryz.prog 38 = some (32) := by kernel_rfl
theorem by_39 : byOf Tryz.prog 39 = some (32) := by kernel_rfl
theorem by_40 : byOf Tryz.prog 40 = some (72) := by kernel_rfl
theorem by_41 : byOf Tryz.prog 41 = some (72) := by kernel_rfl
theorem by_42 : byOf Tryz.prog 42 = some (8) := by kernel_rfl
theorem by_43 : byOf Tryz.prog 43 = some (24) := by kernel_rfl
theorem by_44 : byOf Tryz.prog 44 = some (24) := by kernel_rfl
theorem by_51 : byOf Tryz.prog 51 = some (24) := by kernel_rfl
theorem by_52 : byOf Tryz.prog 52 = some (24) := by kernel_rfl
theorem by_53 : byOf Tryz.prog 53 = some (72) := by kernel_rfl
theorem by_54 : byOf Tryz.prog 54 = some (72) := by kernel_rfl
theorem by_60 : byOf Tryz.prog 60 = some (24) := by kernel_rfl
theorem by_62 : byOf Tryz.prog 62 = some (24) := by kernel_rfl
theorem by_63 : byOf Tryz.prog 63 = some (24) := by kernel_rfl
theorem by_71 : byOf Tryz.prog 71 = some (24) := by kernel_rfl
theorem by_72 : byOf Tryz.prog 72 = some (56) := by kernel_rfl
theorem by_73 : byOf Tryz.prog 73 = some (56) := by kernel_rfl
theorem by_74 : byOf Tryz.prog 74 = some (24) := by kernel_rfl
theorem by_75 : byOf Tryz.prog 75 = some (64) := by kernel_rfl
theorem by_76 : byOf Tryz.prog 76 = some (64) := by kernel_rfl
theorem by_78 : byOf Tryz.prog 78 = some (24) := by kernel_rfl
theorem by_79 : byOf Tryz.prog 79 = some (24) := by kernel_rfl
theorem by_83 : byOf Tryz.prog 83 = some (64) := by kernel_rfl
theorem by_84 : byOf Tryz.prog 84 = some (64) := by kernel_rfl
theorem by_95 : byOf Tryz.prog 95 = some (24) := by kernel_rfl
theorem by_96 : byOf Tryz.prog 96 = some (24) := by kernel_rfl
theorem by_97 : byOf Tryz.prog 97 = some (88) := by kernel_rfl
theorem by_98 : byOf Tryz.prog 98 = some (88) := by kernel_rfl
theorem by_100 : byOf Tryz.prog 100 = some (24) := by kernel_rfl
theorem by_104 : byOf Tryz.prog 104 = some (80) := by kernel_rfl
theorem by_105 : byOf Tryz.prog 105 = some (80) := by kernel_rfl
theorem by_123 : byOf Tryz.prog 123 = some (112) := by kernel_rfl
theorem by_124 : byOf Tryz.prog 124 = some (112) := by kernel_rfl
theorem by_125 : byOf Tryz.prog 125 = some (152) := by kernel_rfl
theorem by_126 : byOf Tryz.prog 126 = some (152) := by kernel_rfl
theorem by_128 : byOf Tryz.prog 128 = some (32) := by kernel_rfl
theorem by_129 : byOf Tryz.prog 129 = some (32) := by kernel_rfl
theorem by_146 : byOf Tryz.prog 146 = some (24) := by kernel_rfl
theorem by_147 : byOf Tryz.prog 147 = some (24) := by kernel_rfl
theorem by_154 : byOf Tryz.prog 154 = some (32) := by kernel_rfl
theorem by_155 : byOf Tryz.prog 155 = some (32) := by kernel_rfl
theorem by_165 : byOf Tryz.prog 165 = some (48) := by kernel_rfl
theorem by_166 : byOf Tryz.prog 166 = some (48) := by kernel_rfl
theorem by_172 : byOf Tryz.prog 172 = some (16) := by kernel_rfl
theorem by_173 : byOf Tryz.prog 173 = some (16) := by kernel_rfl
theorem by_195 : byOf Tryz.prog 195 = some (160) := by kernel_rfl
theorem by_196 : byOf Tryz.prog 196 = some (160) := by kernel_rfl
theorem by_214 : byOf Tryz.prog 214 = some (40) := by kernel_rfl
theorem by_215 : byOf Tryz.prog 215 = some (40) := by kernel_rfl
theorem by_217 : byOf Tryz.prog 217 = some (0) := by kernel_rfl
theorem by_218 : byOf Tryz.prog 218 = some (0) := by kernel_rfl
theorem by_219 : byOf Tryz.prog 219 = some (4) := by kernel_rfl
theorem by_220 : byOf Tryz.prog 220 = some (1) := by kernel_rfl
theorem by_221 : byOf Tryz.prog 221 = some (1) := by kernel_rfl
theorem by_224 : byOf Tryz.prog 224 = some (4) := by kernel_rfl
theorem by_225 : byOf Tryz.prog 225 = some (4) := by kernel_rfl
theorem by_226 : byOf Tryz.prog 226 = some (48) := by kernel_rfl
theorem by_227 : byOf Tryz.prog 227 = some (48) := by kernel_rfl
theorem byT {t : Nat} {r : Nat} (h : byTab t = some r) : byOf Tryz.prog t = some r := by
  unfold byTab at h
  split at h
  · obtain rfl := Option.some.inj h; exact by_2
  · obtain rfl := Option.some.inj h; exact by_3
  · obtain rfl := Option.some.inj h; exact by_4
  · obtain rfl := Option.some.inj h; exact by_5
  · obtain rfl := Option.some.inj h; exact by_6
  · obtain rfl := Option.some.inj h; exact by_7
  · obtain rfl := Option.some.inj h; exact by_8
  · obtain rfl := Option.some.inj h; exact by_9
  · obtain rfl := Option.some.inj h; exact by_10
  · obtain rfl := Option.some.inj h; exact by_11
  · obtain rfl := Option.some.inj h; exact by_12
  · obtain rfl := Option.some.inj h; exact by_13
  · obtain rfl := Option.some.inj h; exact by_14
  · obtain rfl := Option.some.inj h; exact by_18
  · obtain rfl := Option.some.inj h; exact by_19
  · obtain rfl := Option.some.inj h; exact by_21
  · obtain rfl := Option.some.inj h; exact by_22
  · obtain rfl := Option.some.inj h; exact by_23
  · obtain rfl := Option.some.inj h; exact by_24
  · obtain rfl := Option.some.inj h; exact by_25
  · obtain rfl := Option.some.inj h; exact by_26
  · obtain rfl := Option.some.inj h; exact by_33
  · obtain rfl := Option.some.inj h; exact by_34
  · obtain rfl := Option.some.inj h; exact by_35
  · obtain rfl := Option.some.inj h; exact by_36
  · obtain rfl := Option.some.inj h; exact by_37
  · obtain rfl := Option.some.inj h; exact by_38
  · obtain rfl := Option.some.inj h; exact by_39
  · obtain rfl := Option.some.inj h; exact by_40
  · obtain rfl := Option.some.inj h; exact by_41
  · obtain rfl := Option.some.inj h; exact by_42
  · obtain rfl := Option.some.inj h; exact by_43
  · obtain rfl := Option.some.inj h; exact by_44
  · obtain rfl := Option.some.inj h; exact by_51
  · obtain rfl := Option.some.inj h; exact by_52
  · obtain rfl := Option.some.inj h; exact by_53
  · obtain rfl := Option.some.inj h; exact by_54
  · obtain rfl := Option.some.inj h; exact by_60
  · obtain rfl := Option.some.inj h; exact by_62
  · obtain rfl := Option.some.inj h; exact by_63
  · obtain rfl := Option.some.inj h; exact by_71
  · obtain rfl := Option.some.inj h; exact by_72
  · obtain rfl := Option.some.inj h; exact by_73
  · obtain rfl := Option.some.inj h; exact by_74
  · obtain rfl := Option.some.inj h; exact by_75
  · obtain rfl := Option.some.inj h; exact by_76
  · obtain rfl := Option.some.inj h; exact by_78
  · obtain rfl := Option.some.inj h; exact by_79
  · obtain rfl := Option.some.inj h; exact by_83
  · obtain rfl := Option.some.inj h; exact by_84
  · obtain rfl := Option.some.inj h; exact by_95
  · obtain rfl := Option.some.inj h; exact by_96
  · obtain rfl := Option.some.inj h; exact by_97
  · obtain rfl := Option.some.inj h; exact by_98
  · obtain rfl := Option.some.inj h; exact by_100
  · obtain rfl := Option.some.inj h; exact by_104
  · obtain rfl := Option.some.inj h; exact by_105
  · obtain rfl := Option.some.inj h; exact by_123
  · obtain rfl := Option.some.inj h; exact by_124
  · obtain rfl := Option.some.inj h; exact by_125
  · obtain rfl := Option.some.inj h; exact by_126
  · obtain rfl := Option.some.inj h; exact by_128
  · obtain rfl := Option.some.inj h; exact by_129
  · obtain rfl := Option.some.inj h; exact by_146
  · obtain rfl := Option.some.inj h; exact by_147
  · obtain rfl := Option.some.inj h; exact by_154
  · obtain rfl := Option.some.inj h; exact by_155
  · obtain rfl := Option.some.inj h; exact by_165
  · obtain rfl := Option.some.inj h; exact by_166
  · obtain rfl := Option.some.inj h; exact by_172
  · obtain rfl := Option.some.inj h; exact by_173
  · obtain rfl := Option.some.inj h; exact by_195
  · obtain rfl := Option.some.inj h; exact by_196
  · obtain rfl := Option.some.inj h; exact by_214
  · obtain rfl := Option.some.inj h; exact by_215
  · obtain rfl := Option.some.inj h; exact by_217
  · obtain rfl := Option.some.inj h; exact by_218
  · obtain rfl := Option.some.inj h; exact by_219
  · obtain rfl := Option.some.inj h; exact by_220
  · obtain rfl := Option.some.inj h; exact by_221
  · obtain rfl := Option.some.inj h; exact by_224
  · obtain rfl := Option.some.inj h; exact by_225
  · obtain rfl := Option.some.inj h; exact by_226
  · obtain rfl := Option.some.inj h; exact by_227
  · cases h
def udTab : Nat → Option (TypeDesc)
  | 2 => some (.int .i64)
  | 3 => some (.int .i64)
  | 4 => some (.bool)
  | 5 => some (.int .u8)
  | 6 => some (.int .u8)
  | 9 => some (.string)
  | 10 => some (.string)
  | 11 => some (.string)
  | 12 => some (.int .u64)
  | 21 => some (.int .i32)
  | 42 => some (.int .u64)
  | 219 => some (.int .u32)
  | 220 => some (.int .u8)
  | 221 => some (.int .u8)
  | 224 => some (.int .i32)
  | 225 => some (.int .i32)
  | _ => none
theorem ud_2 : Go.Program.underlying Tryz.prog 2 = some (.int .i64) := by kernel_rfl
theorem ud_3 : Go.Program.underlying Tryz.prog 3 = some (.int .i64) := by kernel_rfl
theorem ud_4 : Go.Program.underlying Tryz.prog 4 = some (.bool) := by kernel_rfl
theorem ud_5 : Go.Program.underlying Tryz.prog 5 = some (.int .u8) := by kernel_rfl
theorem ud_6 : Go.Program.underlying Tryz.prog 6 = some (.int .u8) := by kernel_rfl
theorem ud_9 : Go.Program.underlying Tryz.prog 9 = some (.string) := by kernel_rfl
theorem ud_10 : Go.Program.underlying Tryz.prog 10 = some (.string) := by kernel_rfl
theorem ud_11 : Go.Program.underlying Tryz.prog 11 = some (.string) := by kernel_rfl
theorem ud_12 : Go.Program.underlying Tryz.prog 12 = some (.int .u64) := by kernel_rfl
theorem ud_21 : Go.Program.underlying Tryz.prog 21 = some (.int .i32) := by kernel_rfl
theorem ud_42 : Go.Program.underlying Tryz.prog 42 = some (.int .u64) := by kernel_rfl
theorem ud_219 : Go.Program.underlying Tryz.prog 219 = some (.int .u32) := by kernel_rfl
theorem ud_220 : Go.Program.underlying Tryz.prog 220 = some (.int .u8) := by kernel_rfl
theorem ud_221 : Go.Program.underlying Tryz.prog 221 = some (.int .u8) := by kernel_rfl
theorem ud_224 : Go.Program.underlying Tryz.prog 224 = some (.int .i32) := by kernel_rfl
theorem ud_225 : Go.Program.underlying Tryz.prog 225 = some (.int .i32) := by kernel_rfl
theorem udT {t : Nat} {r : TypeDesc} (h : udTab t = some r) : Go.Program.underlying Tryz.prog t = some r := by
  unfold udTab at h
  split at h
  · obtain rfl := Option.some.inj h; exact ud_2
  · obtain rfl := Option.some.inj h; exact ud_3
  · obtain rfl := Option.some.inj h; exact ud_4
  · obtain rfl := Option.some.inj h; exact ud_5
  · obtain rfl := Option.some.inj h; exact ud_6
  · obtain rfl := Option.some.inj h; exact ud_9
  · obtain rfl := Option.some.inj h; exact ud_10
  · obtain rfl := Option.some.inj h; exact ud_11
  · obtain rfl := Option.some.inj h; exact ud_12
  · obtain rfl := Option.some.inj h; exact ud_21
  · obtain rfl := Option.some.inj h; exact ud_42
  · obtain rfl := Option.some.inj h; exact ud_219
  · obtain rfl := Option.some.inj h; exact ud_220
  · obtain rfl := Option.some.inj h; exact ud_221
  · obtain rfl := Option.some.inj h; exact ud_224
  · obtain rfl := Option.some.inj h; exact ud_225
  · cases h
def fnList : List Nat := [3, 4, 5, 6, 7, 8, 9, 10, 11, 12, 13, 14, 15, 16, 17, 18, 19, 20, 21, 22, 23, 24, 25, 26, 27, 28, 29, 30, 31, 32, 33, 34, 35, 36, 37, 38, 39, 40, 41, 42, 43, 44, 45, 46, 47, 48, 49, 50, 51, 52, 53, 54, 55, 56, 57, 58, 59, 60, 61, 62, 63, 64, 65, 66, 67, 68, 69, 70, 71, 72, 73, 74, 75, 76, 77, 78, 79, 80, 81, 82, 83, 84, 85, 86, 87, 88, 89, 90, 91, 92, 93, 94, 95, 96, 97, 98, 99, 100, 101, 102, 103, 104, 105, 106, 107, 108, 109, 110, 111, 112, 113, 114, 115, 116, 117, 118, 119, 120, 121, 122, 123, 124, 125, 126, 127, 128, 129, 130, 131, 132, 133, 134, 135, 136, 137, 138, 139, 140, 141, 142, 143, 144, 145, 146, 147, 148, 149, 150, 151, 152, 153, 154, 155, 156, 157, 158, 159, 160, 161, 162, 163, 164, 165, 166, 167, 168, 169, 170]
theorem fnAll : fnList.all (fnOK Tryz.prog) = true := by kernel_rfl
theorem fnT {f : Nat} (h : fnList.contains f = true) : fnOK Tryz.prog f = true := List.all_eq_true.1 fnAll f (by simpa using h)
theorem mixed : Tryz.prog.follows .mixedOrders = true := by kernel_rfl
end Go.Proofs.YtinffhimfoicdaaGreat

/- A calculus over the model's wp rules, part 11: the rules at a goal. No conditions. -/
namespace Go.Proofs.YtinffhimfoicdaaGreat.Calc
open Go Go.RowKit
set_option linter.unusedVariables false

theorem call_wk {P : Program} {Wr Wm : List Nat} {f : Nat} {l l' : List BV} {st : St} {R : BV → St → Prop} (hl : wks l = l') (h : CallT P Wr Wm f l' st R) : CallT P Wr Wm f l st R := by
  subst hl
  exact fun x vs h1 h2 h3 => h x vs h1 h2 (wks_rep h3)
section
variable {C : Cx} {ops : Array Oper} {l : List Oper} {dst : Option Nat} {op : Op} {ty : Nat} {pos : String} {aft : Array Edge} {g : Option (Nat × Bool)} {ρ : Rg} {st : St} {Q : Rg → St → Prop}
theorem V {b : BV} (hg : gB ops ρ g = some true) (h : stepV C.P st ρ op = some b) (k : TriL C ops l (updO ρ dst b) st Q) : TriL C ops (⟨dst, op, ty, pos, aft, g⟩ :: l) ρ st Q :=
  triL_op (.inl ⟨hg, opR_V b h k⟩)
theorem Vd {p : Prop} {_ : Decidable p} (hg : gB ops ρ g = some true) (h : stepV C.P st ρ op = some (vB (decide p))) (k1 : p → TriL C ops l (updO ρ dst (vB true)) st Q) (k2 : ¬ p → TriL C ops l (updO ρ dst (vB false)) st Q) : TriL C ops (⟨dst, op, ty, pos, aft, g⟩ :: l) ρ st Q := by
  by_cases hp : p
  · exact V hg (h.trans (by rw [decide_eq_true hp])) (k1 hp)
  · exact V hg (h.trans (by rw [decide_eq_false hp])) (k2 hp)
theorem Vo (hg : gB ops ρ g = some false) (k : TriL C ops l (updO ρ dst (.tup [])) st Q) : TriL C ops (⟨dst, op, ty, pos, aft, g⟩ :: l) ρ st Q :=
  triL_op (.inr ⟨hg, k⟩)
theorem Vw {b : BV} {st' : St} (hg : gB ops ρ g = some true) (h : stepW C.P (okC C) st ρ op = some (st', some b)) (k : TriL C ops l (updO ρ dst b) st' Q) : TriL C ops (⟨dst, op, ty, pos, aft, g⟩ :: l) ρ st Q :=
  triL_op (.inl ⟨hg, opR_W st' b h k⟩)
theorem Vs {st' : St} (hg : gB ops ρ g = some true) (h : stepW C.P (okC C) st ρ op = some (st', none)) (k : TriL C ops l (updO ρ dst (.tup [])) st' Q) : TriL C ops (⟨dst, op, ty, pos, aft, g⟩ :: l) ρ st Q :=
  triL_op (.inl ⟨hg, opR_S st' h k⟩)
theorem Vc {c : Call} {f : Nat} {ars : List BV} {Wr Wm : List Nat} {R : BV → St → Prop} (hg : gB ops ρ g = some true) (hc : callB ρ c = some (f, ars)) (hf : fnOK C.P f = true) (h : CallT C.P Wr Wm f ars st R) (h1 : ∀ i ∈ Wr, i < st.S.length → okC C i = true) (h2 : ∀ i ∈ Wm, i < st.M.length → okM C i = true)
    (k : ∀ r st', R r st' → TriL C ops l (updO ρ dst r) st' Q) : TriL C ops (⟨dst, .call c, ty, pos, aft, g⟩ :: l) ρ st Q :=
  triL_op (.inl ⟨hg, opR_call c f ars Wr Wm R rfl hc hf h h1 h2 k⟩)
/-- A call that only reads. -/
theorem Vp {c : Call} {f : Nat} {ars : List BV} {R : BV → Prop} (hg : gB ops ρ g = some true) (hc : callB ρ c = some (f, ars)) (hf : fnOK C.P f = true) (h : CallT C.P [] [] f ars st (fun r s => s = st ∧ R r))
    (k : ∀ r, R r → TriL C ops l (updO ρ dst r) st Q) : TriL C ops (⟨dst, .call c, ty, pos, aft, g⟩ :: l) ρ st Q :=
  Vc hg hc hf h (by simp) (by simp) (fun r st' ⟨e, hr⟩ => e ▸ k r hr)
end
section
variable {C : Cx} {ρ ρ' : Rg} {st : St} {Q : Post}
/-- Fewer registers. -/
theorem tri_weak {c : Code} (hr : ∀ t v, ρ' t = some v → ρ t = some v) (h : Tri C c ρ' st Q) : Tri C c ρ st Q :=
  fun x y a h1 h1m h2 h3 h4 h5 K hK => h x y a h1 h1m h2 h3 h4 ⟨h5.defers, h5.size, fun t v ht => h5.reg t v (hr t v ht)⟩ K hK
theorem tri_condT {o : Operand} {c d : Code} (ho : evB ρ o = some (vB true)) (h : Tri C c ρ st Q) : Tri C (.cond o c d) ρ st Q := tri_cond true ho (fun _ => h) (fun e => by cases e)
theorem tri_condF {o : Operand} {c d : Code} (ho : evB ρ o = some (vB false)) (h : Tri C d ρ st Q) : Tri C (.cond o c d) ρ st Q := tri_cond false ho (fun e => by cases e) (fun _ => h)
end
section
variable {C : Cx} {ρ : Rg} {st : St} {Q : Post} {N : Rg → St → Prop} {id i : Nat} {c d : Code} {ops : Array Oper}
theorem p_in (h : Q .normal ρ st) : inQ id Q (.exit id) ρ st := by
  show (if id = id then _ else _)
  rw [if_pos rfl]
  exact h
theorem p_ne (hn : (i == id) = false) (h : Q (.exit i) ρ st) : inQ id Q (.exit i) ρ st := by
  have hn : i ≠ id := by simpa using hn
  show (if i = id then _ else _)
  rw [if_neg hn]
  exact h
theorem p_inN (h : Q .normal ρ st) : inQ id Q .normal ρ st := h
theorem p_inR (h : Q .ret ρ st) : inQ id Q .ret ρ st := h
theorem p_then (h : N ρ st) : thenQ N Q .normal ρ st := h
theorem p_thenE (h : Q (.exit i) ρ st) : thenQ N Q (.exit i) ρ st := h
theorem p_thenR (h : Q .ret ρ st) : thenQ N Q .ret ρ st := h
theorem s_region (hd : dstsB C.nt ops = true) (h : TriL C ops ops.toList ρ st (fun ρ st => Tri C d ρ st Q)) : Tri C (.seq (.region i ops false) d) ρ st Q := tri_seq (tri_region hd h)
theorem s_drawn (p : Plan) (Wr ds : List Nat) (hm : C.P.follows .mixedOrders = true) {nt : Nat} (hn : C.nt = nt) (hp : p.goodB nt ops ds = true) (h : TriP C ops Wr ds p ρ st (fun ρ st => Tri C d ρ st Q)) : Tri C (.seq (.region i ops true) d) ρ st Q := tri_seq (tri_drawn p Wr ds hm (hn ▸ hp) h)
theorem t_drawn (p : Plan) (Wr ds : List Nat) (hm : C.P.follows .mixedOrders = true) {nt : Nat} (hn : C.nt = nt) (hp : p.goodB nt ops ds = true) (h : TriP C ops Wr ds p ρ st (fun ρ st => Q .normal ρ st)) : Tri C (.region i ops true) ρ st Q := tri_drawn p Wr ds hm (hn ▸ hp) h
theorem s_skip (h : Tri C d ρ st Q) : Tri C (.seq .skip d) ρ st Q := tri_seq (tri_skip h)
theorem s_ret (h : Q .ret ρ st) : Tri C (.seq .ret d) ρ st Q := tri_seq (tri_ret h)
theorem s_exit (h : Q (.exit i) ρ st) : Tri C (.seq (.exit i) d) ρ st Q := tri_seq (tri_exit h)
/-- What stands behind, once. -/
theorem s_mid (N : Rg → St → Prop) (h : Tri C c ρ st (thenQ N Q)) (k : ∀ ρ st, N ρ st → Tri C d ρ st Q) : Tri C (.seq c d) ρ st Q :=
  tri_seq (tri_mono h fun ex ρ st hq => by cases ex <;> first | exact k ρ st hq | exact hq)
end
/-- Registers by a list. -/
def rg : List (Nat × BV) → Rg
  | [] => fun _ => none
  | (t, b) :: l => upd (rg l) t b
/-- Every register of a list stands so in ρ. -/
def hasR (ρ : Rg) : List (Nat × BV) → Prop
  | [] => True
  | (t, b) :: l => ρ t = some b ∧ hasR ρ l
theorem hasR_le {ρ : Rg} : ∀ {l : List (Nat × BV)}, hasR ρ l → ∀ t v, rg l t = some v → ρ t = some v
  | [], _, t, v, h => by cases h
  | (u, b) :: l, ⟨h1, h2⟩, t, v, h => by
    simp only [rg, upd] at h
    split at h
    · rename_i e
      subst e
      exact h1.trans h
    · exact hasR_le h2 t v h
theorem rg_has (l : List (Nat × BV)) : ∀ (ρ : Rg), (∀ t v, rg l t = some v → ρ t = some v) → ∀ t v, rg l t = some v → ρ t = some v := fun ρ h => h
/-- A loop: before each round the registers of R k, the state S k, for a k that gets less. -/
theorem tri_rounds {C : Cx} {c : Code} {ρ : Rg} {st : St} {Q : Post} {κ : Type} (μ : κ → Nat) (R : κ → List (Nat × BV)) (S : κ → St) (I : κ → Prop) (k : κ) (hI : I k) (h0 : hasR ρ (R k)) (hS : st = S k)
    (hr : ∀ k, I k → Tri C c (rg (R k)) (S k) (thenQ (fun ρ' st' => ∃ k', μ k' < μ k ∧ I k' ∧ hasR ρ' (R k') ∧ st' = S k') Q)) : Tri C (.loop c) ρ st Q := by
  refine tri_loop (fun n ρ st => ∃ k, n = μ k ∧ I k ∧ hasR ρ (R k) ∧ st = S k) (μ k) ⟨k, rfl, hI, h0, hS⟩ ?_
  rintro n ρ st ⟨k, rfl, hI, hρ, rfl⟩
  refine tri_weak (hasR_le hρ) (tri_mono (hr k hI) ?_)
  intro ex ρ st h
  cases ex with
  | normal =>
    obtain ⟨k', h1, h2, h3, h4⟩ := h
    exact ⟨μ k', h1, k', rfl, h2, h3, h4⟩
  | exit id => exact h
  | ret => exact h
section
variable {C : Cx} {ops : Array Oper} {Wr ds : List Nat} {p q : Plan} {i j : Nat} {o : Oper} {dst : Option Nat} {op : Op} {ty : Nat} {pos : String} {aft : Array Edge} {g : Option (Nat × Bool)} {ρ : Rg} {st : St} {Q : Rg → St → Prop}
theorem d_nil (h : Q ρ st) : TriP C ops Wr ds .nil ρ st Q := h
theorem tV {b : BV} (ho : ops[i]? = some ⟨dst, op, ty, pos, aft, g⟩) (hg : gB ops ρ g = some true) (h : stepV C.P st ρ op = some b) (hs : stabB Wr ρ op = true) (k : TriP C ops Wr ds p (updO ρ dst b) st Q) : TriP C ops Wr ds (.take i p) ρ st Q := ⟨_, ho, .inl ⟨hg, b, h, hs, k⟩⟩
theorem tVd {pr : Prop} {_ : Decidable pr} (ho : ops[i]? = some ⟨dst, op, ty, pos, aft, g⟩) (hg : gB ops ρ g = some true) (h : stepV C.P st ρ op = some (vB (decide pr))) (hs : stabB Wr ρ op = true) (k1 : pr → TriP C ops Wr ds p (updO ρ dst (vB true)) st Q) (k2 : ¬ pr → TriP C ops Wr ds p (updO ρ dst (vB false)) st Q) : TriP C ops Wr ds (.take i p) ρ st Q := by
  by_cases hp : pr
  · exact tV ho hg (h.trans (by rw [decide_eq_true hp])) hs (k1 hp)
  · exact tV ho hg (h.trans (by rw [decide_eq_false hp])) hs (k2 hp)
theorem tVo (ho : ops[i]? = some ⟨dst, op, ty, pos, aft, g⟩) (hg : gB ops ρ g = some false) (k : TriP C ops Wr ds p (updO ρ dst (.tup [])) st Q) : TriP C ops Wr ds (.take i p) ρ st Q := ⟨_, ho, .inr ⟨hg, k⟩⟩
theorem oV {b : BV} (ho : ops[i]? = some ⟨dst, op, ty, pos, aft, g⟩) (hg : gB ops ρ g = some true) (h : stepV C.P st ρ op = some b) (k : TriP C ops Wr ds p (updO ρ dst b) st Q) : TriP C ops Wr ds (.one i p) ρ st Q := ⟨_, ho, .inl ⟨hg, opR_V b h k⟩⟩
theorem oVd {pr : Prop} {_ : Decidable pr} (ho : ops[i]? = some ⟨dst, op, ty, pos, aft, g⟩) (hg : gB ops ρ g = some true) (h : stepV C.P st ρ op = some (vB (decide pr))) (k1 : pr → TriP C ops Wr ds p (updO ρ dst (vB true)) st Q) (k2 : ¬ pr → TriP C ops Wr ds p (updO ρ dst (vB false)) st Q) : TriP C ops Wr ds (.one i p) ρ st Q := by
  by_cases hp : pr
  · exact oV ho hg (h.trans (by rw [decide_eq_true hp])) (k1 hp)
  · exact oV ho hg (h.trans (by rw [decide_eq_false hp])) (k2 hp)
theorem oVo (ho : ops[i]? = some ⟨dst, op, ty, pos, aft, g⟩) (hg : gB ops ρ g = some false) (k : TriP C ops Wr ds p (updO ρ dst (.tup [])) st Q) : TriP C ops Wr ds (.one i p) ρ st Q := ⟨_, ho, .inr ⟨hg, k⟩⟩
theorem oW {b : BV} {st' : St} (ho : ops[i]? = some ⟨dst, op, ty, pos, aft, g⟩) (hg : gB ops ρ g = some true) (h : stepW C.P (okD C Wr ds i) st ρ op = some (st', some b)) (k : TriP C ops Wr ds p (updO ρ dst b) st' Q) : TriP C ops Wr ds (.one i p) ρ st Q := ⟨_, ho, .inl ⟨hg, opR_W st' b h k⟩⟩
theorem oS {st' : St} (ho : ops[i]? = some ⟨dst, op, ty, pos, aft, g⟩) (hg : gB ops ρ g = some true) (h : stepW C.P (okD C Wr ds i) st ρ op = some (st', none)) (k : TriP C ops Wr ds p (updO ρ dst (.tup [])) st' Q) : TriP C ops Wr ds (.one i p) ρ st Q := ⟨_, ho, .inl ⟨hg, opR_S st' h k⟩⟩
theorem oC {c : Call} {f : Nat} {ars : List BV} {Wr' Wm' : List Nat} {R : BV → St → Prop} (ho : ops[i]? = some ⟨dst, .call c, ty, pos, aft, g⟩) (hg : gB ops ρ g = some true) (hc : callB ρ c = some (f, ars)) (hf : fnOK C.P f = true) (h : CallT C.P Wr' Wm' f ars st R) (h1 : ∀ k ∈ Wr', k < st.S.length → okD C Wr ds i k = true) (h2 : ∀ k ∈ Wm', k < st.M.length → okM C k = true)
    (k : ∀ r st', R r st' → TriP C ops Wr ds p (updO ρ dst r) st' Q) : TriP C ops Wr ds (.one i p) ρ st Q := ⟨_, ho, .inl ⟨hg, opR_call c f ars Wr' Wm' R rfl hc hf h h1 h2 k⟩⟩
theorem oP {c : Call} {f : Nat} {ars : List BV} {R : BV → Prop} (ho : ops[i]? = some ⟨dst, .call c, ty, pos, aft, g⟩) (hg : gB ops ρ g = some true) (hc : callB ρ c = some (f, ars)) (hf : fnOK C.P f = true) (h : CallT C.P [] [] f ars st (fun r s => s = st ∧ R r))
    (k : ∀ r, R r → TriP C ops Wr ds p (updO ρ dst r) st Q) : TriP C ops Wr ds (.one i p) ρ st Q := oC ho hg hc hf h (by simp) (by simp) (fun r st' ⟨e, hr⟩ => e ▸ k r hr)
theorem d_fork (h1 : TriP C ops Wr ds (.one i p) ρ st Q) (h2 : TriP C ops Wr ds (.one j q) ρ st Q) : TriP C ops Wr ds (.fork i p j q) ρ st Q := ⟨h1, h2⟩
end
/-- What all worlds of a state have. -/
theorem tri_fact {C : Cx} {c : Code} {ρ : Rg} {st : St} {Q : Post} (F : Prop) (hF : ∀ (nt : Nat) (y : Full) (a : Act), y.st = st → Good y → Regs nt y ρ a → F) (h : F → Tri C c ρ st Q) : Tri C c ρ st Q :=
  fun x y a h1 h1m h2 h3 h4 h5 K hK => h (hF _ y a h3 h4 h5) x y a h1 h1m h2 h3 h4 h5 K hK
theorem repD_le {x : Full} {cs : List DV} {n : Nat} {v : Value} (h : RepD x (.sl cs n) v) : n ≤ 9223372036854775807 := by
  cases h with
  | nil => omega
  | emp => omega
  | sl b off n cap cs vs hc hm => simp only [maxLen] at hm; omega
theorem rowB_le {x : Full} {b : BV} {cs : List DV} {n : Nat} {v : Value} (h : RepB x b v) (hr : rowB b = some (cs, n)) : n ≤ 9223372036854775807 := repD_le (rowB_rep hr h)
theorem call_fact {P : Program} {Wr Wm : List Nat} {f : Nat} {ars : List BV} {st : St} {R : BV → St → Prop} (F : Prop) (hF : ∀ (x : Full) (vs : List Value), x.st = st → Good x → RepBs x ars vs → F) (h : F → CallT P Wr Wm f ars st R) : CallT P Wr Wm f ars st R :=
  fun x vs h1 h2 h3 => h (hF x vs h1 h2 h3) x vs h1 h2 h3
/-- A register's empty row without room is owned, by a new tag. -/
theorem tri_own {C : Cx} {c : Code} {ρ : Rg} {S : List (List BV × Nat)} {T : List Nat} {M : List (List (Value × DV))} {Q : Post} (d e sz : Nat) (hd : ρ d = some (.tight [] 0)) (h : Tri C c (upd ρ d (.own e sz T.length [] 0)) ⟨S, T ++ [0], M⟩ Q) : Tri C c ρ ⟨S, T, M⟩ Q := by
  intro x y a h1 h1m h2 h3 h4 h5 K hK
  have hT : y.st.T = T := by rw [h3]
  refine h x (tagged y) a h1 h1m (h2.trans' (tagged_step y) (fun i hi _ => by cases hi) (fun i hi _ => by cases hi)) (by simp only [tagged]; rw [h3]) (tagged_good h4) ⟨h5.defers, h5.size, fun t v ht => ?_⟩ K hK
  simp only [upd] at ht
  split at ht
  · rename_i e0
    subst e0
    obtain rfl := Option.some.inj ht
    rw [← hT]
    exact tagged_rep e sz (h5.reg _ _ hd)
  · exact (h5.reg t v ht).mono (tagged_step y)
theorem tri_ownX {C : Cx} {c : Code} {ρ : Rg} {S : List (List BV × Nat)} {T X : List Nat} {M : List (List (Value × DV))} {Q : Post} {nt : Nat} (d e sz : Nat) (hT : T.length = nt) (hd : ρ d = some (.tight [] 0)) (h : Tri C c (upd ρ d (.own e sz (nt + X.length) [] 0)) ⟨S, T ++ (X ++ [0]), M⟩ Q) : Tri C c ρ ⟨S, T ++ X, M⟩ Q := by
  refine tri_own d e sz hd ?_
  rw [len_at hT, List.append_assoc]
  exact h
theorem okC_new {P : Program} {nt nb nm k : Nat} {Wr Wm : List Nat} : okC ⟨P, nt, Wr, Wm, nb, nm⟩ (nb + k) = true := by simp [okC]
theorem okC_in {P : Program} {nt nb nm id : Nat} {Wr Wm : List Nat} (h : id ∈ Wr) : okC ⟨P, nt, Wr, Wm, nb, nm⟩ id = true := by simp [okC, h]
theorem okD_new {P : Program} {nt nb nm k i : Nat} {Wr Wm Wr' ds : List Nat} (h : ds.contains i = true) : okD ⟨P, nt, Wr, Wm, nb, nm⟩ Wr' ds i (nb + k) = true := by
  simp only [okD, okC_new, h, Bool.true_or, Bool.and_self]
theorem okD_in {P : Program} {nt nb nm id i : Nat} {Wr Wm Wr' ds : List Nat} (h : id ∈ Wr) (h' : ds.contains i = true ∨ id ∈ Wr') : okD ⟨P, nt, Wr, Wm, nb, nm⟩ Wr' ds i id = true := by
  rcases h' with h' | h'
  · simp only [okD, okC_in h, h', Bool.true_or, Bool.and_self]
  · simp [okD, okC_in h, h']
theorem okC_ge {P : Program} {nt nb nm k m : Nat} {Wr Wm : List Nat} (h : nb ≤ m) : okC ⟨P, nt, Wr, Wm, nb, nm⟩ (m + k) = true := by
  have : nb ≤ m + k := by omega
  simp [okC, this]
theorem okD_ge {P : Program} {nt nb nm k i m : Nat} {Wr Wm Wr' ds : List Nat} (h : nb ≤ m) (h' : ds.contains i = true) : okD ⟨P, nt, Wr, Wm, nb, nm⟩ Wr' ds i (m + k) = true := by
  simp only [okD, okC_ge h, h', Bool.true_or, Bool.and_self]
/-- A call, by its body. -/
theorem callT_go {P : Program} {f : Nat} {fn : Func} {c : Code} {args : List BV} {S : List (List BV × Nat)} {T : List Nat} {M : List (List (Value × DV))} {Q : BV → St → Prop} (Wr Wm : List Nat) (hf : P.funcs[f]? = some fn) (hb : fn.body = some c) {nt : Nat} (hn : fn.ntmps = nt) {rs : Array ResultVar} (hr : fn.results = rs)
    (h : Tri ⟨P, nt, Wr, Wm, S.length, M.length⟩ c (regsOf args) ⟨S ++ [], T ++ [], M⟩ (endQ P rs.toList Wr ⟨S, T, M⟩ Q)) : CallT P Wr Wm f args ⟨S, T, M⟩ Q := by
  subst hn hr
  rw [List.append_nil, List.append_nil] at h
  exact callT_body Wr Wm hf hb h
theorem R_nil {P : Program} {ρ : Rg} {st : St} : resB P ρ st [] = some [] := rfl
theorem R_tmp {P : Program} {ρ : Rg} {st : St} {t : Nat} {l : List ResultVar} {b : BV} {bs : List BV} (h : ρ t = some b) (hs : resB P ρ st l = some bs) : resB P ρ st (.tmp t :: l) = some (b :: bs) := by
  simp [resB, h, hs]
theorem R_cell {P : Program} {ρ : Rg} {S L : List (List BV × Nat)} {T : List Nat} {M : List (List (Value × DV))} {t ty ty' sz k nb : Nat} {z cs : List BV} {l : List ResultVar} {bs : List BV} (hS : S.length = nb) (h : ρ t = some (.ptr (nb + k) 0)) (ht : tyOf P ty = some (true, sz, z)) (hb : L[k]? = some (cs, ty')) (hl : cs.length = sz) (hs : resB P ρ ⟨S ++ L, T, M⟩ l = some bs) : resB P ρ ⟨S ++ L, T, M⟩ (.cell t ty :: l) = some (.agg cs :: bs) := by
  subst hl
  simp [resB, h, ht, hs, at_ hS hb, part]
theorem R_cellO {P : Program} {ρ : Rg} {S L : List (List BV × Nat)} {T : List Nat} {M : List (List (Value × DV))} {t ty ty' sz id : Nat} {z cs : List BV} {l : List ResultVar} {bs : List BV} (h : ρ t = some (.ptr id 0)) (ht : tyOf P ty = some (true, sz, z)) (hb : S[id]? = some (cs, ty')) (hl : cs.length = sz) (hs : resB P ρ ⟨S ++ L, T, M⟩ l = some bs) : resB P ρ ⟨S ++ L, T, M⟩ (.cell t ty :: l) = some (.agg cs :: bs) := by
  subst hl
  simp [resB, h, ht, hs, at_old hb, part]
theorem end_q {P : Program} {rs : List ResultVar} {S S1 : List (List BV × Nat)} {T T1 : List Nat} {M : List (List (Value × DV))} {R : BV → Prop} {ρ : Rg} {l l' : List BV} (ex : AX) (hex : ex = .normal ∨ ex = .ret) (hT : T <+: T1) (h1 : resB P ρ ⟨S1, T1, M⟩ rs = some l) (h2 : lows S.length T.length (wks l) = some l') (h : R (retB l')) :
    endQ P rs [] ⟨S, T, M⟩ (fun r s => s = ⟨S, T, M⟩ ∧ R r) ex ρ ⟨S1, T1, M⟩ := ⟨hex, wks l, l', S, T, .inr (by rw [h1]; rfl), h2, rfl, hT, Nat.le_refl _, rfl, h⟩
/-- A loop whose rounds leave the state. -/
theorem tri_fix {C : Cx} {c : Code} {ρ : Rg} {st : St} {Q : Post} {κ : Type} (μ : κ → Nat) (R : κ → List (Nat × BV)) (I : κ → Prop) (k : κ) (hI : I k) (h0 : hasR ρ (R k))
    (hr : ∀ k, I k → Tri C c (rg (R k)) st (thenQ (fun ρ' st' => ∃ k', μ k' < μ k ∧ I k' ∧ hasR ρ' (R k') ∧ st' = st) Q)) : Tri C (.loop c) ρ st Q := tri_rounds μ R (fun _ => st) I k hI h0 rfl hr
/-- A loop whose rounds leave boxes and tags behind. -/
theorem tri_grow {C : Cx} {c : Code} {ρ : Rg} {S : List (List BV × Nat)} {T : List Nat} {M : List (List (Value × DV))} {Q : Post} {κ : Type} (μ : κ → Nat) (R : κ → List (Nat × BV)) (I : κ → List (List BV × Nat) → List Nat → Prop) (k : κ) (hI : I k S T) (h0 : hasR ρ (R k))
    (hr : ∀ k S1 T1, I k S1 T1 → Tri C c (rg (R k)) ⟨S1 ++ [], T1 ++ [], M⟩ (thenQ (fun ρ' st' => ∃ k' S2 T2, μ k' < μ k ∧ I k' S2 T2 ∧ hasR ρ' (R k') ∧ st' = ⟨S2, T2, M⟩) Q)) : Tri C (.loop c) ρ ⟨S, T, M⟩ Q := by
  refine tri_rounds (κ := κ × List (List BV × Nat) × List Nat) (fun k => μ k.1) (fun k => R k.1) (fun k => ⟨k.2.1, k.2.2, M⟩) (fun k => I k.1 k.2.1 k.2.2) (k, S, T) hI h0 rfl ?_
  rintro ⟨k, S1, T1⟩ hk
  have := hr k S1 T1 hk
  rw [List.append_nil, List.append_nil] at this
  refine tri_mono this fun ex ρ' st' h => ?_
  cases ex with
  | normal =>
    obtain ⟨k', S2, T2, h1, h2, h3, h4⟩ := h
    exact ⟨(k', S2, T2), h1, h2, h3, h4⟩
  | exit id => exact h
  | ret => exact h
/-- The end of a call that writes one box. -/
theorem end_w {P : Program} {rs : List ResultVar} {S S1 : List (List BV × Nat)} {T T1 : List Nat} {M : List (List (Value × DV))} {Q : BV → St → Prop} {ρ : Rg} {l l' cs cs' : List BV} {id ty : Nat} (ex : AX) (hex : ex = .normal ∨ ex = .ret) (hT : T <+: T1) (h1 : resB P ρ ⟨S1, T1, M⟩ rs = some l) (h2 : lows S.length T.length (wks l) = some l')
    (hS : S1[id]? = some (cs, ty)) (h3 : lows S.length T.length (wks cs) = some cs') (h4 : lows S.length T.length cs = lows S.length T.length (wks cs)) (h : Q (retB l') ⟨S.set id (cs', ty), T, M⟩) : endQ P rs [id] ⟨S, T, M⟩ Q ex ρ ⟨S1, T1, M⟩ :=
  ⟨hex, wks l, l', S.set id (cs', ty), T, .inr (by rw [h1]; rfl), h2, by simp only [popS, hS, h4, h3], hT, Nat.le_refl _, h⟩
theorem W_stO2 {P : Program} {ok : Nat → Bool} {S L : List (List BV × Nat)} {T : List Nat} {M : List (List (Value × DV))} {ρ : Rg} {x y : Operand} {t id off sz ty : Nat} {b : BV} {ag : Bool} {z cs : List BV} (ht : tyOf P t = some (ag, sz, z)) (hx : evB ρ x = some (.ptr id off)) (hy : evB ρ y = some b) (hb : id < S.length) (hk : ok id = true) (hc : cellOK b = true) (hl : (cellsOfB b).length = sz) (hf : off + sz ≤ cs.length) :
    stepW P ok ⟨S.set id (cs, ty) ++ L, T, M⟩ ρ (.store t x y) = some (⟨S.set id (putL off (cellsOfB b) cs, ty) ++ L, T, M⟩, none) := by
  rw [W_stO (S := S.set id (cs, ty)) ht hx hy (List.getElem?_set_self hb) hk hc hl hf, List.set_set]
theorem set_call {S L : List (List BV × Nat)} {id : Nat} {c : List BV × Nat} (h : id < S.length) : (S ++ L).set id c = S.set id c ++ L := set_old h
theorem set_call2 {S L : List (List BV × Nat)} {id : Nat} {c d : List BV × Nat} (h : id < S.length) : (S.set id d ++ L).set id c = S.set id c ++ L := by
  rw [set_old (by simpa using h), List.set_set]
end Go.Proofs.YtinffhimfoicdaaGreat.Calc

/- The program's data as plain Lean types, and as the calculus holds them. No conditions. -/
namespace Go.Proofs.YtinffhimfoicdaaGreat
open Go Go.RowKit Go.Proofs.YtinffhimfoicdaaGreat.Calc
set_option linter.unusedVariables false
set_option linter.unusedSimpArgs false

inductive Ex where
  | mk (kind num : Int) (text name typ : ByteArray) (l : List Ex) (own : ByteArray) (nth : Int)
inductive Sm where
  | mk (kind num : Int) (typ name : ByteArray) (e : List Ex) (a b c : List Sm) (nth : Int)
structure Pa where
  typ : ByteArray
  name : ByteArray
structure Fi where
  static : Bool
  typ : ByteArray
  name : ByteArray
  init : List Ex
structure Me where
  static : Bool
  ctor : Bool
  typ : ByteArray
  name : ByteArray
  params : List Pa
  body : List Sm
structure Cl where
  name : ByteArray
  super : ByteArray
  fields : List Fi
  methods : List Me
abbrev dI (n : Int) : DV := .flat (.int .i64 n)
abbrev dN (n : Int) : DV := .flat (.int .i32 n)
abbrev dB (b : Bool) : DV := .flat (.bool b)
abbrev dS (s : ByteArray) : DV := .flat (.string s)
mutual
def encEx : Ex → List DV
  | .mk k n t nm ty l o nth => [dI k, dN n, dS t, dS nm, dS ty, .sl (encExs l) l.length, dS o, dI nth]
def encExs : List Ex → List DV
  | [] => []
  | e :: l => encEx e ++ encExs l
end
mutual
def encSm : Sm → List DV
  | .mk k n ty nm e a b c nth => [dI k, dN n, dS ty, dS nm, .sl (encExs e) e.length, .sl (encSms a) a.length, .sl (encSms b) b.length, .sl (encSms c) c.length, dI nth]
def encSms : List Sm → List DV
  | [] => []
  | e :: l => encSm e ++ encSms l
end
theorem encExs_eq : ∀ l : List Ex, encExs l = l.flatMap encEx
  | [] => by rw [encExs]; rfl
  | e :: l => by rw [encExs, encExs_eq l]; rfl
theorem encSms_eq : ∀ l : List Sm, encSms l = l.flatMap encSm
  | [] => by rw [encSms]; rfl
  | e :: l => by rw [encSms, encSms_eq l]; rfl
abbrev rowEx (l : List Ex) : DV := .sl (encExs l) l.length
abbrev rowSm (l : List Sm) : DV := .sl (encSms l) l.length
def encStr (s : ByteArray) : List DV := [dS s]
def encPa (p : Pa) : List DV := [dS p.typ, dS p.name]
def encFi (f : Fi) : List DV := [dB f.static, dS f.typ, dS f.name, rowEx f.init]
def encMe (m : Me) : List DV := [dB m.static, dB m.ctor, dS m.typ, dS m.name, encL encPa m.params, rowSm m.body]
def encCl (c : Cl) : List DV := [dS c.name, dS c.super, encL encFi c.fields, encL encMe c.methods]
def vEx (e : Ex) : BV := .agg ((encEx e).map .d)
def vSm (e : Sm) : BV := .agg ((encSm e).map .d)
mutual
def szEx : Ex → Nat
  | .mk _ _ _ _ _ l _ _ => 1 + szExs l
def szExs : List Ex → Nat
  | [] => 0
  | e :: l => szEx e + szExs l
end
mutual
def szSm : Sm → Nat
  | .mk _ _ _ _ e a b c _ => 1 + szExs e + szSms a + szSms b + szSms c
def szSms : List Sm → Nat
  | [] => 0
  | e :: l => szSm e + szSms l
end
/-- How many parts an expression of a kind has, of so many. -/
def arity (kd : Int) (len : Nat) : Nat := if kd = 7 ∨ kd = 15 ∨ kd = 16 ∨ kd = 18 then 1 else if kd = 17 then 2 else if kd = 10 then max 1 len else if 11 ≤ kd ∧ kd ≤ 14 then len else 0
theorem arity_spec (kd : Int) (n : Nat) : ((kd = 7 ∨ kd = 15 ∨ kd = 16 ∨ kd = 18) → arity kd n = 1) ∧ (kd = 17 → arity kd n = 2) ∧ (kd = 10 → arity kd n = max 1 n) ∧ ((11 ≤ kd ∧ kd ≤ 14) → arity kd n = n) ∧ ((1 ≤ kd ∧ kd ≤ 6) ∨ kd = 8 ∨ kd = 9 → arity kd n = 0) := by
  unfold arity
  refine ⟨fun h => if_pos h, fun h => ?_, fun h => ?_, fun h => ?_, fun h => ?_⟩
  · rw [if_neg (by omega), if_pos h]
  · rw [if_neg (by omega), if_neg (by omega), if_pos h]
  · rw [if_neg (by omega), if_neg (by omega), if_neg (by omega), if_pos h]
  · rw [if_neg (by omega), if_neg (by omega), if_neg (by omega), if_neg (by omega)]
mutual
def OKEx : Ex → Prop
  | .mk kd _ _ _ _ l _ _ => 1 ≤ kd ∧ kd ≤ 18 ∧ l.length = arity kd l.length ∧ OKExs l
def OKExs : List Ex → Prop
  | [] => True
  | e :: l => OKEx e ∧ OKExs l
end
mutual
def BEx : Ex → Prop
  | .mk _ _ t na ty l _ _ => t.size ≤ 1000000 ∧ na.size ≤ 1000000 ∧ ty.size ≤ 1000000 ∧ BExs l
def BExs : List Ex → Prop
  | [] => True
  | e :: l => BEx e ∧ BExs l
end
theorem OKExs_all : ∀ {l : List Ex}, (∀ (k : Nat) (c : Ex), l[k]? = some c → OKEx c) → OKExs l
  | [], _ => by rw [OKExs]; trivial
  | e :: l, h => by
    rw [OKExs]
    exact ⟨h 0 e rfl, OKExs_all fun k c hk => h (k + 1) c (by simpa using hk)⟩
theorem BExs_at : ∀ {l : List Ex} {k : Nat} {c : Ex}, BExs l → l[k]? = some c → BEx c
  | [], k, c, _, h => by simp at h
  | e :: l, 0, c, hb, h => by
    rw [BExs] at hb
    simp only [List.getElem?_cons_zero, Option.some.injEq] at h
    exact h ▸ hb.1
  | e :: l, k + 1, c, hb, h => by
    rw [BExs] at hb
    exact BExs_at hb.2 (by simpa using h)
theorem OKExs_at : ∀ {l : List Ex} {k : Nat} {c : Ex}, OKExs l → l[k]? = some c → OKEx c
  | [], k, c, _, h => by simp at h
  | e :: l, 0, c, hb, h => by
    rw [OKExs] at hb
    simp only [List.getElem?_cons_zero, Option.some.injEq] at h
    exact h ▸ hb.1
  | e :: l, k + 1, c, hb, h => by
    rw [OKExs] at hb
    exact OKExs_at hb.2 (by simpa using h)
theorem szEx_at : ∀ {l : List Ex} {k : Nat} {c : Ex}, l[k]? = some c → szEx c ≤ szExs l
  | [], k, c, h => by simp at h
  | e :: l, 0, c, h => by
    simp only [List.getElem?_cons_zero, Option.some.injEq] at h
    subst h
    rw [szExs]
    omega
  | e :: l, k + 1, c, h => by
    rw [szExs]
    have := szEx_at (l := l) (k := k) (c := c) (by simpa using h)
    omega
theorem szSm_at : ∀ {l : List Sm} {k : Nat} {c : Sm}, l[k]? = some c → szSm c ≤ szSms l
  | [], k, c, h => by simp at h
  | e :: l, 0, c, h => by
    simp only [List.getElem?_cons_zero, Option.some.injEq] at h
    subst h
    rw [szSms]
    omega
  | e :: l, k + 1, c, h => by
    rw [szSms]
    have := szSm_at (l := l) (k := k) (c := c) (by simpa using h)
    omega
theorem encEx_len : ∀ e : Ex, (encEx e).length = 8
  | .mk _ _ _ _ _ _ _ _ => by rw [encEx]; rfl
theorem encSm_len : ∀ e : Sm, (encSm e).length = 9
  | .mk _ _ _ _ _ _ _ _ _ => by rw [encSm]; rfl
def szFi (f : Fi) : Nat := 1 + szExs f.init
def szMe (m : Me) : Nat := 1 + m.params.length + szSms m.body
def szCl (c : Cl) : Nat := 1 + (c.fields.map szFi).sum + (c.methods.map szMe).sum
def szP (p : List Cl) : Nat := (p.map szCl).sum
theorem sum_at {α : Type} {f : α → Nat} : ∀ {l : List α} {k : Nat} {c : α}, l[k]? = some c → f c ≤ (l.map f).sum
  | [], k, c, h => by simp at h
  | e :: l, 0, c, h => by
    simp only [List.getElem?_cons_zero, Option.some.injEq] at h
    subst h
    rw [List.map_cons, List.sum_cons]
    omega
  | e :: l, k + 1, c, h => by
    rw [List.map_cons, List.sum_cons]
    have := sum_at (f := f) (l := l) (k := k) (c := c) (by simpa using h)
    omega
theorem len_sum {α : Type} {f : α → Nat} (h : ∀ c, 1 ≤ f c) : ∀ l : List α, l.length ≤ (l.map f).sum
  | [] => by simp
  | e :: l => by
    rw [List.map_cons, List.sum_cons, List.length_cons]
    have := h e
    have := len_sum h l
    omega
theorem szEx_pos : ∀ e, 1 ≤ szEx e
  | .mk _ _ _ _ _ _ _ _ => by rw [szEx]; omega
theorem szSm_pos : ∀ e, 1 ≤ szSm e
  | .mk _ _ _ _ _ _ _ _ _ => by rw [szSm]; omega
theorem szExs_len : ∀ l : List Ex, l.length ≤ szExs l
  | [] => by simp
  | e :: l => by
    rw [szExs, List.length_cons]
    have := szEx_pos e
    have := szExs_len l
    omega
theorem szSms_len : ∀ l : List Sm, l.length ≤ szSms l
  | [] => by simp
  | e :: l => by
    rw [szSms, List.length_cons]
    have := szSm_pos e
    have := szSms_len l
    omega
theorem fields_len (c : Cl) : c.fields.length ≤ szCl c := by
  have := len_sum (f := szFi) (fun c => by simp only [szFi]; omega) c.fields
  simp only [szCl]
  omega
theorem methods_len (c : Cl) : c.methods.length ≤ szCl c := by
  have := len_sum (f := szMe) (fun c => by simp only [szMe]; omega) c.methods
  simp only [szCl]
  omega
theorem classes_len (p : List Cl) : p.length ≤ szP p := len_sum (fun c => by simp only [szCl]; omega) p
/-- A program, as it is handed on. -/
def vP (p : List Cl) : BV := .agg [.d (encL encCl p)]
/-- A call that only reads: what it yields. -/
abbrev isB (r : BV) : Prop := ∃ b, r = vB b
def findI (p : List Cl) (name : ByteArray) : Int :=
  match p.findIdx? (fun c => decide (c.name = name)) with
  | some i => i
  | none => -1
end Go.Proofs.YtinffhimfoicdaaGreat

/- The small ones: letters, names. No conditions. -/
namespace Go.Proofs.YtinffhimfoicdaaGreat
open Go Go.RowKit Go.Proofs.YtinffhimfoicdaaGreat.Calc
set_option linter.unusedVariables false
set_option linter.unusedSimpArgs false
set_option maxRecDepth 100000
set_option maxHeartbeats 4000000
attribute [local irreducible] Tri TriL TriP CallT stepV stepW thenQ inQ endQ

/-- A call that only reads. -/
abbrev PC (f : Nat) (args : List BV) (R : BV → Prop) : Prop := ∀ S T M, CallT Tryz.prog [] [] f args ⟨S, T, M⟩ (fun r s => s = ⟨S, T, M⟩ ∧ R r)
theorem vI_of {a b : Int} (h : a = b) : (some (vI a) : Option BV) = some (vI b) := by rw [h]
theorem encStr_len (c : ByteArray) : (encStr c).length = 1 := rfl
theorem sp113 (n : Int) : PC 113 [.d (dN n)] isB := by
  intro S T M
  refine callT_go [] [] Tryz.func113 rfl Tryz.ntmps113 Tryz.results113 ?_
  repeat' (first | apply triL_nil | (apply V; apply rfl; (first | (apply E_mv; apply rfl) | (apply E_as; apply rfl) | (apply E_pkT; apply rfl; apply rfl) | (apply E_pkF; apply rfl; apply rfl))) | (apply Vd; apply rfl; (first | (apply E_leq; apply rfl; apply rfl) | (apply E_geq; apply rfl; apply rfl)); all_goals intro h_) | (apply Vo; apply rfl) | (apply s_region; apply rfl) | apply tri_ret | (apply end_q _ (.inr rfl); (exact List.prefix_append _ _); (focus repeat (first | apply R_nil | (apply R_tmp; apply rfl))); apply rfl))
  all_goals exact ⟨_, rfl⟩
theorem sp112 (n : Int) : PC 112 [.d (dN n)] isB := by
  intro S T M
  refine callT_go [] [] Tryz.func112 rfl Tryz.ntmps112 Tryz.results112 ?_
  repeat' (first | apply triL_nil | (apply V; apply rfl; (first | (apply E_mv; apply rfl) | (apply E_as; apply rfl) | (apply E_pkT; apply rfl; apply rfl) | (apply E_pkF; apply rfl; apply rfl))) | (apply Vd; apply rfl; (first | (apply E_leq; apply rfl; apply rfl) | (apply E_geq; apply rfl; apply rfl)); all_goals intro h_) | (apply Vo; apply rfl) | (apply s_region; apply rfl) | apply tri_ret | (apply end_q _ (.inr rfl); (exact List.prefix_append _ _); (focus repeat (first | apply R_nil | (apply R_tmp; apply rfl))); apply rfl))
  all_goals exact ⟨_, rfl⟩
theorem sp98 (n : Int) : PC 98 [.d (dN n)] isB := by
  intro S T M
  refine callT_go [] [] Tryz.func98 rfl Tryz.ntmps98 Tryz.results98 ?_
  repeat' (first | apply triL_nil | (apply V; apply rfl; (first | (apply E_mv; apply rfl) | (apply E_as; apply rfl) | (apply E_pkT; apply rfl; apply rfl) | (apply E_pkF; apply rfl; apply rfl))) | (apply Vd; apply rfl; (first | (apply E_leq; apply rfl; apply rfl) | (apply E_geq; apply rfl; apply rfl)); all_goals intro h_) | (apply Vo; apply rfl) | (apply s_region; apply rfl) | apply tri_ret | (apply end_q _ (.inr rfl); (exact List.prefix_append _ _); (focus repeat (first | apply R_nil | (apply R_tmp; apply rfl))); apply rfl))
  all_goals exact ⟨_, rfl⟩
theorem sp99 (n : Int) : PC 99 [.d (.flat (.int .u8 n))] isB := by
  intro S T M
  refine callT_go [] [] Tryz.func99 rfl Tryz.ntmps99 Tryz.results99 ?_
  repeat' (first | apply triL_nil | (apply V; apply rfl; (first | (apply E_mv; apply rfl) | (apply E_as; apply rfl) | (apply E_pkT; apply rfl; apply rfl) | (apply E_pkF; apply rfl; apply rfl) | (apply E_cvt; apply rfl; (apply udT; apply rfl); (apply udT; apply rfl)))) | (apply Vp; apply rfl; apply rfl; apply fnT; apply rfl; apply sp113; rintro _ ⟨(_ | _), rfl⟩) | (apply Vp; apply rfl; apply rfl; apply fnT; apply rfl; apply sp112; rintro _ ⟨(_ | _), rfl⟩) | (apply Vp; apply rfl; apply rfl; apply fnT; apply rfl; apply sp98; rintro _ ⟨(_ | _), rfl⟩) | (apply Vo; apply rfl) | (apply s_region; apply rfl) | apply tri_ret | (apply end_q _ (.inr rfl); (exact List.prefix_append _ _); (focus repeat (first | apply R_nil | (apply R_tmp; apply rfl))); apply rfl))
  all_goals exact ⟨_, rfl⟩
theorem sp95 (l : List ByteArray) (s : ByteArray) : PC 95 [.d (encL encStr l), vS s] (fun r => ∃ b, r = vB b ∧ (b = true ↔ s ∈ l)) := by
  intro S T M
  refine call_fact (l.length ≤ 9223372036854775807) (fun x vs _ _ h => ?_) (fun hl => ?_)
  · cases h with
    | cons _ _ _ _ h _ => exact rowB_le h rfl
  refine callT_go [] [] Tryz.func95 rfl Tryz.ntmps95 Tryz.results95 ?_
  repeat' (first | apply triL_nil | (apply V; apply rfl; (apply E_as; apply rfl)) | (apply s_region; apply rfl) | apply tri_seq | apply tri_block)
  refine tri_rounds (fun k : Nat => l.length - k) (fun k => [(0, .d (encL encStr l)), (1, vS s), (5, vI k)]) (fun _ => ⟨S ++ [], T ++ [], M⟩) (fun k => k ≤ l.length ∧ s ∉ l.take k) 0 ⟨Nat.zero_le _, by simp⟩ ⟨rfl, rfl, rfl, trivial⟩ rfl ?_
  rintro k ⟨hk, hpre⟩
  repeat' (first | apply triL_nil | (apply V; apply rfl; (first | (apply E_mv; apply rfl) | (apply E_as; apply rfl) | (apply E_len; (apply elT; apply rfl); apply rfl; apply rfl))) | (apply Vd; apply rfl; (apply E_lss; apply rfl; apply rfl); all_goals intro h_) | (apply s_region; apply rfl) | apply tri_seq | apply tri_block | apply tri_skip | apply tri_exit | apply tri_ret | (apply tri_condT; apply rfl) | (apply tri_condF; apply rfl) | (apply end_q _ (.inr rfl); (exact List.prefix_append _ _); (focus repeat (first | apply R_nil | (apply R_tmp; apply rfl))); apply rfl) | apply p_then | apply p_in | apply p_thenE)
  · have hlt : k < l.length := by omega
    obtain ⟨c, hc⟩ : ∃ c, l[k]? = some c := ⟨_, List.getElem?_eq_getElem hlt⟩
    repeat' (first | apply triL_nil | (apply V; apply rfl; (first | (apply E_mv; apply rfl) | (apply E_as; apply rfl) | (apply E_le; (apply tyT; apply rfl); apply rfl; apply rfl) | (apply E_add64; apply rfl; apply rfl; apply rfl; omega) | exact E_ial (c := c) (elT rfl) rfl rfl rfl encStr_len (by omega) (by simpa using hc))) | (apply Vd; apply rfl; (apply E_seql; apply rfl; apply rfl); all_goals intro h_) | (apply s_region; apply rfl) | (apply tri_region; apply rfl) | apply tri_skip | apply tri_ret | (apply tri_condT; apply rfl) | (apply tri_condF; apply rfl) | (apply end_q _ (.inr rfl); (exact List.prefix_append _ _); (focus repeat (first | apply R_nil | (apply R_tmp; apply rfl))); apply rfl) | apply p_then | apply p_inN | apply p_inR | apply p_thenR)
    · exact ⟨true, rfl, fun _ => by rw [← h_]; exact List.mem_of_getElem? hc, fun _ => rfl⟩
    · refine ⟨k + 1, by omega, ⟨by omega, ?_⟩, ⟨rfl, rfl, rfl, trivial⟩, rfl⟩
      rw [List.take_add_one, hc]
      simp only [Option.toList_some, List.mem_append, List.mem_singleton, not_or]
      exact ⟨hpre, fun e => h_ e.symm⟩
  · rw [List.take_of_length_le (by omega)] at hpre
    exact ⟨false, rfl, ⟨nofun, fun h => absurd h hpre⟩⟩
/-- The strings of a row. -/
def strsOf : List DV → Option (List ByteArray)
  | [] => some []
  | .flat (.string s) :: l => match strsOf l with
    | some l => some (s :: l)
    | none => none
  | _ => none
theorem strsOf_eq : ∀ {ds : List DV} {l : List ByteArray}, strsOf ds = some l → ds = l.flatMap encStr
  | [], l, h => by
    rw [strsOf] at h
    obtain rfl := Option.some.inj h
    rfl
  | d :: ds, l, h => by
    unfold strsOf at h
    split at h
    · rename_i e; cases e
    · rename_i s l0 e
      injection e with e1 e2
      subst e1 e2
      split at h
      · rename_i l1 h1
        obtain rfl := Option.some.inj h
        rw [strsOf_eq h1]
        rfl
      · cases h
    · cases h
theorem sp95d {ds : List DV} {n : Nat} {l : List ByteArray} {s : ByteArray} (h : strsOf ds = some l) (hn : l.length = n) : PC 95 [.d (.sl ds n), vS s] (fun r => ∃ b, r = vB b ∧ (b = true ↔ s ∈ l)) := by
  subst hn
  rw [strsOf_eq h]
  exact sp95 l s
theorem sp114 (s : ByteArray) : PC 114 [vS s] isB := by
  intro S T M
  refine callT_go [] [] Tryz.func114 rfl Tryz.ntmps114 Tryz.results114 ?_
  repeat' (first | apply triL_nil | (apply V; apply rfl; (first | (apply E_mv; apply rfl) | (apply E_as; apply rfl))) | (apply Vp; apply rfl; apply rfl; apply fnT; apply rfl; apply call_wk; apply rfl; apply sp95d; apply rfl; apply rfl; rintro _ ⟨(_ | _), rfl, hin_⟩) | (apply Vw; apply rfl; (apply W_bsL; apply rfl; (apply elT; apply rfl); (apply tyT; apply rfl); apply rfl; decide; apply rfl; apply rfl)) | (apply s_region; apply rfl) | apply tri_ret | (apply end_q _ (.inr rfl); (exact List.prefix_append _ _); (focus repeat (first | apply R_nil | (apply R_tmp; apply rfl))); apply rfl))
  all_goals exact ⟨_, rfl⟩
theorem sp115 (s : ByteArray) : PC 115 [vS s] isB := by
  intro S T M
  refine callT_go [] [] Tryz.func115 rfl Tryz.ntmps115 Tryz.results115 ?_
  repeat' (first | apply triL_nil | (apply V; apply rfl; (first | (apply E_mv; apply rfl) | (apply E_as; apply rfl))) | (apply Vp; apply rfl; apply rfl; apply fnT; apply rfl; apply call_wk; apply rfl; apply sp95d; apply rfl; apply rfl; rintro _ ⟨(_ | _), rfl, hin_⟩) | (apply Vw; apply rfl; (apply W_bsL; apply rfl; (apply elT; apply rfl); (apply tyT; apply rfl); apply rfl; decide; apply rfl; apply rfl)) | (apply s_region; apply rfl) | apply tri_ret | (apply end_q _ (.inr rfl); (exact List.prefix_append _ _); (focus repeat (first | apply R_nil | (apply R_tmp; apply rfl))); apply rfl))
  all_goals exact ⟨_, rfl⟩
theorem sp117 (n : Int) : PC 117 [vI n] isB := by
  intro S T M
  refine callT_go [] [] Tryz.func117 rfl Tryz.ntmps117 Tryz.results117 ?_
  repeat' (first | apply triL_nil | (apply V; apply rfl; (first | (apply E_mv; apply rfl) | (apply E_as; apply rfl) | (apply E_pkT; apply rfl; apply rfl) | (apply E_pkF; apply rfl; apply rfl))) | (apply Vd; apply rfl; (first | (apply E_leq; apply rfl; apply rfl) | (apply E_geq; apply rfl; apply rfl) | (apply E_eql; apply rfl; apply rfl)); all_goals intro h_) | (apply Vo; apply rfl) | (apply s_region; apply rfl) | apply tri_ret | (apply end_q _ (.inr rfl); (exact List.prefix_append _ _); (focus repeat (first | apply R_nil | (apply R_tmp; apply rfl))); apply rfl))
  all_goals exact ⟨_, rfl⟩
theorem sp118 (n : Int) : PC 118 [vI n] isB := by
  intro S T M
  refine callT_go [] [] Tryz.func118 rfl Tryz.ntmps118 Tryz.results118 ?_
  repeat' (first | apply triL_nil | (apply V; apply rfl; (first | (apply E_mv; apply rfl) | (apply E_as; apply rfl) | (apply E_pkT; apply rfl; apply rfl) | (apply E_pkF; apply rfl; apply rfl))) | (apply Vd; apply rfl; (apply E_eql; apply rfl; apply rfl); all_goals intro h_) | (apply Vo; apply rfl) | (apply s_region; apply rfl) | apply tri_ret | (apply end_q _ (.inr rfl); (exact List.prefix_append _ _); (focus repeat (first | apply R_nil | (apply R_tmp; apply rfl))); apply rfl))
  all_goals exact ⟨_, rfl⟩
theorem sp133 (n : Int) : PC 133 [vI n] isB := by
  intro S T M
  refine callT_go [] [] Tryz.func133 rfl Tryz.ntmps133 Tryz.results133 ?_
  repeat' (first | apply triL_nil | (apply V; apply rfl; (first | (apply E_mv; apply rfl) | (apply E_as; apply rfl) | (apply E_pkT; apply rfl; apply rfl) | (apply E_pkF; apply rfl; apply rfl))) | (apply Vd; apply rfl; (apply E_eql; apply rfl; apply rfl); all_goals intro h_) | (apply Vo; apply rfl) | (apply s_region; apply rfl) | apply tri_ret | (apply end_q _ (.inr rfl); (exact List.prefix_append _ _); (focus repeat (first | apply R_nil | (apply R_tmp; apply rfl))); apply rfl))
  all_goals exact ⟨_, rfl⟩
theorem sp134 (n : Int) : PC 134 [vI n] isB := by
  intro S T M
  refine callT_go [] [] Tryz.func134 rfl Tryz.ntmps134 Tryz.results134 ?_
  repeat' (first | apply triL_nil | (apply V; apply rfl; (first | (apply E_mv; apply rfl) | (apply E_as; apply rfl) | (apply E_pkT; apply rfl; apply rfl) | (apply E_pkF; apply rfl; apply rfl))) | (apply Vd; apply rfl; (apply E_eql; apply rfl; apply rfl); all_goals intro h_) | (apply Vo; apply rfl) | (apply s_region; apply rfl) | apply tri_ret | (apply end_q _ (.inr rfl); (exact List.prefix_append _ _); (focus repeat (first | apply R_nil | (apply R_tmp; apply rfl))); apply rfl))
  all_goals exact ⟨_, rfl⟩
theorem sp116 (s : ByteArray) : PC 116 [vS s] isB := by
  intro S T M
  refine callT_go [] [] Tryz.func116 rfl Tryz.ntmps116 Tryz.results116 ?_
  repeat' (first | apply triL_nil | (apply V; apply rfl; (first | (apply E_mv; apply rfl) | (apply E_as; apply rfl) | (apply E_pkT; apply rfl; apply rfl) | (apply E_pkF; apply rfl; apply rfl))) | (apply Vd; apply rfl; (apply E_seql; apply rfl; apply rfl); all_goals intro h_) | (apply Vo; apply rfl) | (apply s_region; apply rfl) | apply tri_ret | (apply end_q _ (.inr rfl); (exact List.prefix_append _ _); (focus repeat (first | apply R_nil | (apply R_tmp; apply rfl))); apply rfl))
  all_goals exact ⟨_, rfl⟩
end Go.Proofs.YtinffhimfoicdaaGreat

/- Names. No conditions. -/
namespace Go.Proofs.YtinffhimfoicdaaGreat
open Go Go.RowKit Go.Proofs.YtinffhimfoicdaaGreat.Calc
set_option linter.unusedVariables false
set_option linter.unusedSimpArgs false
set_option maxRecDepth 100000
set_option maxHeartbeats 4000000
attribute [local irreducible] Tri TriL TriP CallT stepV stepW thenQ inQ endQ

theorem sp111 (s : ByteArray) (m : Int) (hs : s.size < 4611686018427387904) : PC 111 [vS s, vI m] (fun r => ∃ b, r = vB b ∧ (b = true → 0 < s.size)) := by
  intro S T M
  refine callT_go [] [] Tryz.func111 rfl Tryz.ntmps111 Tryz.results111 ?_
  repeat' (first | apply triL_nil | (apply V; apply rfl; (apply E_as; apply rfl)) | (apply s_region; apply rfl) | apply tri_seq | apply tri_block)
  refine tri_rounds (fun k : Nat => s.size - k) (fun k => [(0, vS s), (1, vI m), (5, vI k)]) (fun _ => ⟨S ++ [], T ++ [], M⟩) (fun k => k ≤ s.size) 0 (Nat.zero_le _) ⟨rfl, rfl, rfl, trivial⟩ rfl ?_
  intro k hk
  repeat' (first | apply triL_nil | (apply V; apply rfl; (first | (apply E_mv; apply rfl) | (apply E_as; apply rfl) | (apply E_lens; (apply udT; apply rfl); apply rfl) | (apply E_pkT; apply rfl; apply rfl) | (apply E_pkF; apply rfl; apply rfl) | (apply E_cvt; apply rfl; (apply udT; apply rfl); (apply udT; apply rfl)) | (apply E_idx; (apply udT; apply rfl); apply rfl; apply rfl; omega))) | (apply Vd; apply rfl; (first | (apply E_lss; apply rfl; apply rfl) | (apply E_leq; apply rfl; apply rfl) | (apply E_geq; apply rfl; apply rfl)); all_goals intro h_) | (apply Vo; apply rfl) | (apply s_region; apply rfl) | apply tri_seq | apply tri_block | apply tri_skip | apply tri_exit | apply tri_ret | (apply tri_condT; apply rfl) | (apply tri_condF; apply rfl) | (apply end_q _ (.inr rfl); (exact List.prefix_append _ _); (focus repeat (first | apply R_nil | (apply R_tmp; apply rfl))); apply rfl) | apply p_then | apply p_in | apply p_thenE)
  · have hlt : k < s.size := by omega
    repeat' (first | apply triL_nil | (apply V; apply rfl; (first | (apply E_mv; apply rfl) | (apply E_as; apply rfl) | (apply E_pkT; apply rfl; apply rfl) | (apply E_pkF; apply rfl; apply rfl) | (apply E_not; apply rfl) | (apply E_add64; apply rfl; apply rfl; apply rfl; omega))) | (apply Vp; apply rfl; apply rfl; apply fnT; apply rfl; apply sp113; rintro _ ⟨(_ | _), rfl⟩) | (apply Vp; apply rfl; apply rfl; apply fnT; apply rfl; apply sp112; rintro _ ⟨(_ | _), rfl⟩) | (apply Vp; apply rfl; apply rfl; apply fnT; apply rfl; apply sp98; rintro _ ⟨(_ | _), rfl⟩) | (apply Vo; apply rfl) | (apply s_region; apply rfl) | (apply tri_region; apply rfl) | apply tri_skip | apply tri_ret | (apply tri_condT; apply rfl) | (apply tri_condF; apply rfl) | (apply end_q _ (.inr rfl); (exact List.prefix_append _ _); (focus repeat (first | apply R_nil | (apply R_tmp; apply rfl))); apply rfl) | apply p_then | apply p_inN | apply p_inR | apply p_thenR)
    all_goals first | exact ⟨false, rfl, nofun⟩ | exact ⟨k + 1, by omega, by omega, ⟨rfl, rfl, rfl, trivial⟩, rfl⟩
  · exact ⟨_, rfl, fun _ => by omega⟩
  · exact ⟨_, rfl, fun _ => by omega⟩
  · exact ⟨_, rfl, nofun⟩
theorem sp85 (s : ByteArray) (hs : s.size < 4611686018427387904) : PC 85 [vS s] isB := by
  intro S T M
  refine callT_go [] [] Tryz.func85 rfl Tryz.ntmps85 Tryz.results85 ?_
  repeat' (first | apply triL_nil | (apply V; apply rfl; (first | (apply E_mv; apply rfl) | (apply E_as; apply rfl) | (apply E_pkT; apply rfl; apply rfl) | (apply E_pkF; apply rfl; apply rfl) | (apply E_not; apply rfl) | (apply E_cvt; apply rfl; (apply udT; apply rfl); (apply udT; apply rfl)) | (apply E_idx; (apply udT; apply rfl); apply rfl; apply rfl; omega))) | (apply Vp; apply rfl; apply rfl; apply fnT; apply rfl; apply sp111; assumption; rintro _ ⟨(_ | _), rfl, hb_⟩) | replace hb_ := hb_ rfl | (apply Vp; apply rfl; apply rfl; apply fnT; apply rfl; apply sp113; rintro _ ⟨(_ | _), rfl⟩) | (apply Vp; apply rfl; apply rfl; apply fnT; apply rfl; apply sp114; rintro _ ⟨(_ | _), rfl⟩) | (apply Vo; apply rfl) | (apply s_region; apply rfl) | apply tri_ret | (apply end_q _ (.inr rfl); (exact List.prefix_append _ _); (focus repeat (first | apply R_nil | (apply R_tmp; apply rfl))); apply rfl))
  all_goals exact ⟨_, rfl⟩
theorem sp83 (s : ByteArray) (hs : s.size < 4611686018427387904) : PC 83 [vS s] isB := by
  intro S T M
  refine callT_go [] [] Tryz.func83 rfl Tryz.ntmps83 Tryz.results83 ?_
  repeat' (first | apply triL_nil | (apply V; apply rfl; (first | (apply E_mv; apply rfl) | (apply E_as; apply rfl) | (apply E_pkT; apply rfl; apply rfl) | (apply E_pkF; apply rfl; apply rfl) | (apply E_cvt; apply rfl; (apply udT; apply rfl); (apply udT; apply rfl)) | (apply E_idx; (apply udT; apply rfl); apply rfl; apply rfl; omega))) | (apply Vp; apply rfl; apply rfl; apply fnT; apply rfl; apply sp111; assumption; rintro _ ⟨(_ | _), rfl, hb_⟩) | replace hb_ := hb_ rfl | (apply Vp; apply rfl; apply rfl; apply fnT; apply rfl; apply sp112; rintro _ ⟨(_ | _), rfl⟩) | (apply Vd; apply rfl; (apply E_sneq; apply rfl; apply rfl); all_goals intro h_) | (apply Vo; apply rfl) | (apply s_region; apply rfl) | apply tri_ret | (apply end_q _ (.inr rfl); (exact List.prefix_append _ _); (focus repeat (first | apply R_nil | (apply R_tmp; apply rfl))); apply rfl))
  all_goals exact ⟨_, rfl⟩
theorem sp84 (s : ByteArray) (hs : s.size < 4611686018427387904) : PC 84 [vS s] isB := by
  intro S T M
  refine callT_go [] [] Tryz.func84 rfl Tryz.ntmps84 Tryz.results84 ?_
  repeat' (first | apply triL_nil | (apply V; apply rfl; (first | (apply E_mv; apply rfl) | (apply E_as; apply rfl) | (apply E_pkT; apply rfl; apply rfl) | (apply E_pkF; apply rfl; apply rfl))) | (apply Vp; apply rfl; apply rfl; apply fnT; apply rfl; apply sp83; assumption; rintro _ ⟨(_ | _), rfl⟩) | (apply Vd; apply rfl; (apply E_seql; apply rfl; apply rfl); all_goals intro h_) | (apply Vo; apply rfl) | (apply s_region; apply rfl) | apply tri_ret | (apply end_q _ (.inr rfl); (exact List.prefix_append _ _); (focus repeat (first | apply R_nil | (apply R_tmp; apply rfl))); apply rfl))
  all_goals exact ⟨_, rfl⟩
end Go.Proofs.YtinffhimfoicdaaGreat

/- Texts: runes, words. No conditions. -/
namespace Go.Proofs.YtinffhimfoicdaaGreat
open Go Go.RowKit Go.Proofs.YtinffhimfoicdaaGreat.Calc
set_option linter.unusedVariables false
set_option linter.unusedSimpArgs false
set_option maxRecDepth 100000
set_option maxHeartbeats 4000000
attribute [local irreducible] Tri TriL TriP CallT stepV stepW thenQ inQ endQ

/-- A rune: its number, its bytes, is it bad. -/
def vRune (r n : Int) (b : Bool) : BV := .agg [.d (dN r), vI n, vB b]
theorem sp97 (s : ByteArray) (k : Nat) (hs : s.size ≤ 1000000) (hk : k < s.size) : PC 97 [vS s, vI k] (fun r => ∃ (c : Int) (n : Nat) (b : Bool), r = vRune c n b ∧ 1 ≤ n ∧ k + n ≤ s.size) := by
  intro S T M
  refine callT_go [] [] Tryz.func97 rfl Tryz.ntmps97 Tryz.results97 ?_
  repeat' (first | apply triL_nil | (apply V; apply rfl; (first | (apply E_mv; apply rfl) | (apply E_as; apply rfl) | (apply E_idx; (apply udT; apply rfl); apply rfl; apply rfl; omega))) | (apply Vw; apply rfl; (apply W_alL; apply rfl; (apply tyT; apply rfl))) | (apply s_region; apply rfl))
  refine s_mid (fun ρ st => st = ⟨S ++ [([.d (dN 0), vI 0, vB false], 147)], T ++ [], M⟩ ∧ ∃ (b n lo hi : Nat), hasR ρ [(0, vS s), (1, vI k), (4, .ptr (S.length + 0) 0), (5, .d (.flat (.int .u8 b))), (6, vI n), (7, vI lo), (8, vI hi)] ∧ n ≤ 4 ∧ n ≠ 1) ?_ ?_
  · repeat' (first | apply triL_nil | (apply V; apply rfl; (first | (apply E_mv; apply rfl) | (apply E_as; apply rfl) | (apply E_pkT; apply rfl; apply rfl) | (apply E_pkF; apply rfl; apply rfl) | (apply E_bd; (apply plT; apply rfl); apply rfl) | (apply E_cvt; apply rfl; (apply udT; apply rfl); (apply udT; apply rfl)))) | (apply Vd; apply rfl; (first | (apply E_lss; apply rfl; apply rfl) | (apply E_leq; apply rfl; apply rfl) | (apply E_geq; apply rfl; apply rfl) | (apply E_eql; apply rfl; apply rfl)); all_goals intro h_) | (apply Vo; apply rfl) | (apply Vs; apply rfl; (apply W_stL; apply rfl; (apply tyT; apply rfl); apply rfl; apply rfl; apply rfl; (first | apply okC_new | (apply okC_ge; omega)); apply rfl; apply rfl; (first | decide | (apply Nat.le_of_ble_eq_true; rfl)))) | (apply s_region; apply rfl) | apply tri_seq | (apply tri_region; apply rfl) | apply tri_block | apply tri_skip | apply tri_ret | (apply tri_condT; apply rfl) | (apply tri_condF; apply rfl) | (apply end_q _ (.inr rfl); (exact List.prefix_append _ _); (focus repeat (first | apply R_nil | (apply R_cell; apply rfl; apply rfl; apply tyT; apply rfl; apply rfl; apply rfl))); apply rfl) | apply p_then | apply p_inN | apply p_inR | apply p_thenR)
    all_goals first | exact ⟨_, 1, _, rfl, by omega, by omega⟩ | exact ⟨rfl, _, _, _, _, ⟨rfl, rfl, rfl, rfl, rfl, rfl, rfl, trivial⟩, by decide, by decide⟩
  · rintro ρ _ ⟨rfl, b, n, lo, hi, hρ, hn, hn1⟩
    refine tri_weak (hasR_le hρ) ?_
    repeat' (first | apply triL_nil | (apply V; apply rfl; (first | (apply E_mv; apply rfl) | (apply E_as; apply rfl) | (apply E_lens; (apply udT; apply rfl); apply rfl) | (apply E_pkT; apply rfl; apply rfl) | (apply E_pkF; apply rfl; apply rfl) | (apply E_bd; (apply plT; apply rfl); apply rfl) | (apply E_cvt; apply rfl; (apply udT; apply rfl); (apply udT; apply rfl)) | (apply E_add64; apply rfl; apply rfl; apply rfl; omega) | (apply E_sub64; apply rfl; apply rfl; apply rfl; omega) | (apply E_sub; apply rfl; apply rfl) | (apply E_and; apply rfl; apply rfl) | (apply E_shl; apply rfl; apply rfl; (first | decide | apply u64_nn | omega)))) | (apply Vd; apply rfl; (first | (apply E_gtr; apply rfl; apply rfl) | (apply E_eql; apply rfl; apply rfl)); all_goals intro h_) | (apply Vo; apply rfl) | (apply Vs; apply rfl; (apply W_stL; apply rfl; (apply tyT; apply rfl); apply rfl; apply rfl; apply rfl; (first | apply okC_new | (apply okC_ge; omega)); apply rfl; apply rfl; (first | decide | (apply Nat.le_of_ble_eq_true; rfl)))) | (apply s_region; apply rfl) | apply tri_seq | apply tri_block | apply tri_skip | apply tri_ret | (apply tri_condT; apply rfl) | (apply tri_condF; apply rfl) | (apply end_q _ (.inr rfl); (exact List.prefix_append _ _); (focus repeat (first | apply R_nil | (apply R_cell; apply rfl; apply rfl; apply tyT; apply rfl; apply rfl; apply rfl))); apply rfl) | apply p_then | apply p_thenR)
    · exact ⟨_, 1, _, rfl, by omega, by omega⟩
    · exact ⟨_, 1, _, rfl, by omega, by omega⟩
    · refine tri_rounds (fun j : Nat × Int => n - j.1) (fun j => [(0, vS s), (1, vI k), (4, .ptr (S.length + 0) 0), (6, vI n), (7, vI lo), (8, vI hi), (9, .d (dN j.2)), (10, vI j.1)]) (fun _ => ⟨S ++ [([.d (dN 0), vI 0, vB false], 147)], T ++ [], M⟩) (fun j => 1 ≤ j.1 ∧ j.1 ≤ n) (1, _) (by omega) ⟨rfl, rfl, rfl, rfl, rfl, rfl, rfl, rfl, trivial⟩ rfl ?_
      rintro ⟨j, r⟩ ⟨hj, hjn⟩
      repeat' (first | apply triL_nil | (apply V; apply rfl; (first | (apply E_mv; apply rfl) | (apply E_as; apply rfl) | (apply E_pkT; apply rfl; apply rfl) | (apply E_pkF; apply rfl; apply rfl) | (apply E_bd; (apply plT; apply rfl); apply rfl) | (apply E_cvt; apply rfl; (apply udT; apply rfl); (apply udT; apply rfl)) | (apply E_idx; (apply udT; apply rfl); apply rfl; apply rfl; omega) | (apply E_add64; apply rfl; apply rfl; apply rfl; omega) | (apply E_and; apply rfl; apply rfl) | (apply E_or; apply rfl; apply rfl) | (apply E_shl; apply rfl; apply rfl; (first | decide | apply u64_nn | omega)))) | (apply Vd; apply rfl; (first | (apply E_lss; apply rfl; apply rfl) | (apply E_gtr; apply rfl; apply rfl) | (apply E_eql; apply rfl; apply rfl)); all_goals intro h_) | (apply Vo; apply rfl) | (apply Vs; apply rfl; (apply W_stL; apply rfl; (apply tyT; apply rfl); apply rfl; apply rfl; apply rfl; (first | apply okC_new | (apply okC_ge; omega)); apply rfl; apply rfl; (first | decide | (apply Nat.le_of_ble_eq_true; rfl)))) | (apply s_region; apply rfl) | apply tri_seq | (apply tri_region; apply rfl) | apply tri_block | apply tri_skip | apply tri_exit | apply tri_ret | (apply tri_condT; apply rfl) | (apply tri_condF; apply rfl) | (apply end_q _ (.inr rfl); (exact List.prefix_append _ _); (focus repeat (first | apply R_nil | (apply R_cell; apply rfl; apply rfl; apply tyT; apply rfl; apply rfl; apply rfl))); apply rfl) | apply p_then | apply p_in | apply p_inN | apply p_inR | apply p_thenR | apply p_thenE)
      all_goals first | exact ⟨_, 1, _, rfl, by omega, by omega⟩ | exact ⟨_, n, _, rfl, by omega, by omega⟩ | exact ⟨(j + 1, _), by simp only; omega, by simp only; omega, ⟨rfl, rfl, rfl, rfl, rfl, rfl, rfl, rfl, trivial⟩, rfl⟩
theorem sp70 (s : ByteArray) (hs : s.size ≤ 1000000) : PC 70 [vS s] (fun r => ∃ n : Int, r = vI n ∧ -1 ≤ n ∧ n ≤ s.size) := by
  intro S T M
  refine callT_go [] [] Tryz.func70 rfl Tryz.ntmps70 Tryz.results70 ?_
  repeat' (first | apply triL_nil | (apply V; apply rfl; (apply E_as; apply rfl)) | (apply s_region; apply rfl) | apply tri_seq | apply tri_block)
  refine tri_grow (fun k : Nat => s.size - k) (fun k => [(0, vS s), (3, vI k)]) (fun k S1 T1 => k ≤ s.size ∧ S.length ≤ S1.length ∧ T <+: T1) 0 ⟨Nat.zero_le _, by simp, by simp⟩ ⟨rfl, rfl, trivial⟩ ?_
  rintro k S1 T1 ⟨hk, hS, hT⟩
  repeat' (first | apply triL_nil | (apply V; apply rfl; (first | (apply E_mv; apply rfl) | (apply E_as; apply rfl) | (apply E_fa; (apply plT; apply rfl); apply rfl; apply rfl; decide) | (apply E_ld; (apply tyT; apply rfl); apply rfl; (apply at_; apply rfl; apply rfl); apply rfl) | (apply E_lens; (apply udT; apply rfl); apply rfl) | (apply E_add64; apply rfl; apply rfl; apply rfl; omega))) | (apply Vp; apply rfl; apply rfl; apply fnT; apply rfl; apply sp97; assumption; omega; rintro _ ⟨c_, n_, (_ | _), rfl, hn_, hm_⟩) | (apply Vd; apply rfl; (apply E_lss; apply rfl; apply rfl); all_goals intro h_) | (apply Vw; apply rfl; (apply W_alL; apply rfl; (apply tyT; apply rfl))) | (apply Vs; apply rfl; (apply W_stL; apply rfl; (apply tyT; apply rfl); apply rfl; apply rfl; apply rfl; (first | apply okC_new | (apply okC_ge; omega)); apply rfl; apply rfl; (first | decide | (apply Nat.le_of_ble_eq_true; rfl)))) | (apply s_region; apply rfl) | apply tri_seq | (apply tri_region; apply rfl) | apply tri_block | apply tri_skip | apply tri_exit | apply tri_ret | (apply tri_condT; apply rfl) | (apply tri_condF; apply rfl) | (apply end_q _ (.inr rfl); (apply pre_app; assumption); (focus repeat (first | apply R_nil | (apply R_tmp; apply rfl))); apply rfl) | apply p_then | apply p_in | apply p_inN | apply p_inR | apply p_thenR | apply p_thenE)
  · exact ⟨k + n_, _, _, by omega, ⟨by omega, by simp; omega, by simpa using hT⟩, ⟨rfl, vI_of (by omega), trivial⟩, rfl⟩
  · exact ⟨k, rfl, by omega, by omega⟩
  · exact ⟨-1, rfl, by omega, by omega⟩
theorem sp101 (s : ByteArray) (hs : s.size ≤ 1000000) : PC 101 [vS s] (fun r => ∃ t b, r = .tup [vS t, vB b] ∧ t.size ≤ s.size) := by
  intro S T M
  refine callT_go [] [] Tryz.func101 rfl Tryz.ntmps101 Tryz.results101 ?_
  repeat' (first | apply triL_nil | (apply V; apply rfl; (apply E_as; apply rfl)) | (apply s_region; apply rfl) | apply tri_seq | apply tri_block)
  refine tri_grow (fun k : Nat × ByteArray => s.size - k.1) (fun k => [(0, vS s), (4, vS k.2), (5, vI k.1)]) (fun k S1 T1 => k.1 ≤ s.size ∧ k.2.size ≤ k.1 ∧ S.length ≤ S1.length ∧ T <+: T1) (0, _) ⟨Nat.zero_le _, Nat.le_refl _, by simp, by simp⟩ ⟨rfl, rfl, rfl, trivial⟩ ?_
  rintro ⟨k, out⟩ S1 T1 ⟨hk, ho, hS, hT⟩
  simp only at hk ho
  repeat' (first | apply triL_nil | (apply V; apply rfl; (first | (apply E_mv; apply rfl) | (apply E_as; apply rfl) | (apply E_fa; (apply plT; apply rfl); apply rfl; apply rfl; decide) | (apply E_ld; (apply tyT; apply rfl); apply rfl; (apply at_; apply rfl; apply rfl); apply rfl) | (apply E_lens; (apply udT; apply rfl); apply rfl) | (apply E_pkT; apply rfl; apply rfl) | (apply E_pkF; apply rfl; apply rfl) | (apply E_idx; (apply udT; apply rfl); apply rfl; apply rfl; omega) | (apply E_add64; apply rfl; apply rfl; apply rfl; omega) | (apply E_sls; (apply udT; apply rfl); apply rfl; apply rfl; apply rfl; (first | exact .inr ⟨_, _, rfl, by omega, rfl⟩ | exact .inl ⟨rfl, rfl⟩); (first | exact .inr ⟨_, _, rfl, by omega, rfl⟩ | exact .inl ⟨rfl, rfl⟩); (first | omega | (simp only [ByteArray.size_append, ByteArray.size_extract, size_mk, List.size_toArray, List.length_cons, List.length_nil, List.length_append] at *; omega)); (first | omega | (simp only [ByteArray.size_append, ByteArray.size_extract, size_mk, List.size_toArray, List.length_cons, List.length_nil, List.length_append] at *; omega))) | (apply E_cat; apply rfl; apply rfl; (first | omega | (simp only [ByteArray.size_append, ByteArray.size_extract, size_mk, List.size_toArray, List.length_cons, List.length_nil, List.length_append] at *; omega))))) | (apply Vp; apply rfl; apply rfl; apply fnT; apply rfl; apply sp97; assumption; omega; rintro _ ⟨c_, n_, (_ | _), rfl, hn_, hm_⟩) | (apply Vd; apply rfl; (first | (apply E_lss; apply rfl; apply rfl) | (apply E_geq; apply rfl; apply rfl) | (apply E_eql; apply rfl; apply rfl) | (apply E_neq; apply rfl; apply rfl)); all_goals intro h_) | (apply Vo; apply rfl) | (apply Vw; apply rfl; (apply W_alL; apply rfl; (apply tyT; apply rfl))) | (apply Vs; apply rfl; (apply W_stL; apply rfl; (apply tyT; apply rfl); apply rfl; apply rfl; apply rfl; (first | apply okC_new | (apply okC_ge; omega)); apply rfl; apply rfl; (first | decide | (apply Nat.le_of_ble_eq_true; rfl)))) | (apply s_region; apply rfl) | apply tri_seq | (apply tri_region; apply rfl) | apply tri_block | apply tri_skip | apply tri_exit | apply tri_ret | (apply tri_condT; apply rfl) | (apply tri_condF; apply rfl) | (apply end_q _ (.inr rfl); (apply pre_app; assumption); (focus repeat (first | apply R_nil | (apply R_tmp; apply rfl))); apply rfl) | apply p_then | apply p_in | apply p_inN | apply p_inR | apply p_thenR | (apply p_ne; apply rfl) | apply p_thenE)
  all_goals simp only at *
  all_goals first
    | exact ⟨⟨#[]⟩, _, rfl, Nat.zero_le _⟩
    | exact ⟨out, _, rfl, by omega⟩
    | (refine ⟨(k + n_, _), _, _, ?_, ⟨?_, ?_, ?_, ?_⟩, ⟨rfl, rfl, vI_of ?_, trivial⟩, rfl⟩ <;> first | (first | omega | (simp only [ByteArray.size_append, ByteArray.size_extract, size_mk, List.size_toArray, List.length_cons, List.length_nil, List.length_append] at *; omega)) | simpa using hT)
    | (refine ⟨(k + 2, _), _, _, ?_, ⟨?_, ?_, ?_, ?_⟩, ⟨rfl, rfl, vI_of ?_, trivial⟩, rfl⟩ <;> first | (first | omega | (simp only [ByteArray.size_append, ByteArray.size_extract, size_mk, List.size_toArray, List.length_cons, List.length_nil, List.length_append] at *; omega)) | simpa using hT)
theorem sp100 (s : ByteArray) (k : Nat) (hs : s.size ≤ 1000000) (hk : k < s.size) : PC 100 [vS s, vI k] (fun r => ∃ n : Nat, r = vI n ∧ (n = 0 ∨ 2 ≤ n ∧ k + n ≤ s.size)) := by
  intro S T M
  refine callT_go [] [] Tryz.func100 rfl Tryz.ntmps100 Tryz.results100 ?_
  repeat' (first | apply triL_nil | (apply V; apply rfl; (first | (apply E_mv; apply rfl) | (apply E_as; apply rfl) | (apply E_add64; apply rfl; apply rfl; apply rfl; omega))) | (apply s_region; apply rfl) | apply tri_seq | apply tri_block)
  refine tri_rounds (fun j : Nat => s.size - j) (fun j => [(0, vS s), (1, vI k), (5, vI j)]) (fun _ => ⟨S ++ [], T ++ [], M⟩) (fun j => k + 1 ≤ j ∧ j ≤ s.size) (k + 1) ⟨by omega, by omega⟩ ⟨rfl, rfl, vI_of (by omega), trivial⟩ rfl ?_
  rintro j ⟨hj, hjs⟩
  repeat' (first | apply triL_nil | (apply V; apply rfl; (first | (apply E_mv; apply rfl) | (apply E_as; apply rfl) | (apply E_lens; (apply udT; apply rfl); apply rfl) | (apply E_pkT; apply rfl; apply rfl) | (apply E_pkF; apply rfl; apply rfl) | (apply E_ex; apply rfl; apply rfl) | (apply E_not; apply rfl) | (apply E_idx; (apply udT; apply rfl); apply rfl; apply rfl; omega) | (apply E_add64; apply rfl; apply rfl; apply rfl; omega) | (apply E_sub64; apply rfl; apply rfl; apply rfl; omega) | (apply E_sls; (apply udT; apply rfl); apply rfl; apply rfl; apply rfl; (first | exact .inr ⟨_, _, rfl, by omega, rfl⟩ | exact .inl ⟨rfl, rfl⟩); (first | exact .inr ⟨_, _, rfl, by omega, rfl⟩ | exact .inl ⟨rfl, rfl⟩); (first | omega | (simp only [ByteArray.size_append, ByteArray.size_extract, size_mk, List.size_toArray, List.length_cons, List.length_nil, List.length_append] at *; omega)); (first | omega | (simp only [ByteArray.size_append, ByteArray.size_extract, size_mk, List.size_toArray, List.length_cons, List.length_nil, List.length_append] at *; omega))))) | (apply Vp; apply rfl; apply rfl; apply fnT; apply rfl; apply sp101; (first | omega | (simp only [ByteArray.size_append, ByteArray.size_extract, size_mk, List.size_toArray, List.length_cons, List.length_nil, List.length_append] at *; omega)); rintro _ ⟨t_, (_ | _), rfl, ht_⟩) | (apply Vd; apply rfl; (first | (apply E_lss; apply rfl; apply rfl) | (apply E_geq; apply rfl; apply rfl) | (apply E_eql; apply rfl; apply rfl) | (apply E_neq; apply rfl; apply rfl)); all_goals intro h_) | (apply Vo; apply rfl) | (apply s_region; apply rfl) | apply tri_seq | (apply tri_region; apply rfl) | apply tri_block | apply tri_skip | apply tri_exit | apply tri_ret | (apply tri_condT; apply rfl) | (apply tri_condF; apply rfl) | (apply end_q _ (.inr rfl); (exact List.prefix_append _ _); (focus repeat (first | apply R_nil | (apply R_tmp; apply rfl))); apply rfl) | apply p_then | apply p_in | apply p_inN | apply p_inR | apply p_thenR | apply p_thenE)
  all_goals first
    | exact ⟨0, rfl, .inl rfl⟩
    | exact ⟨j + 1, by omega, ⟨by omega, by omega⟩, ⟨rfl, rfl, vI_of (by omega), trivial⟩, rfl⟩
    | exact ⟨j + 2, by omega, ⟨by omega, by omega⟩, ⟨rfl, rfl, vI_of (by omega), trivial⟩, rfl⟩
    | exact ⟨j + 1 - k, Option.some.inj (vI_of (by omega)), .inr ⟨by omega, by omega⟩⟩
/-- A word: its kind, its text, its place. -/
structure Wd where
  kind : Int
  text : ByteArray
  loc : Int
def encWd (w : Wd) : List DV := [dI w.kind, dS w.text, dI w.loc]
def vWd (a : Int) (t : ByteArray) (b : Int) : BV := .agg [vI a, vS t, vI b]
theorem sp71 (s : ByteArray) (k : Nat) (hs : s.size ≤ 1000000) (hk : k < s.size) : PC 71 [vS s, vI k] (fun r => ∃ (a b : Int) (t : ByteArray) (n : Nat), r = .tup [vWd a t b, vI n] ∧ k + n ≤ s.size ∧ t.size ≤ s.size) := by
  intro S T M
  refine callT_go [] [] Tryz.func71 rfl Tryz.ntmps71 Tryz.results71 ?_
  repeat' (first | apply triL_nil | (apply V; apply rfl; (first | (apply E_mv; apply rfl) | (apply E_as; apply rfl) | (apply E_idx; (apply udT; apply rfl); apply rfl; apply rfl; omega))) | (apply Vw; apply rfl; (apply W_alL; apply rfl; (apply tyT; apply rfl))) | (apply s_region; apply rfl))
  apply tri_seq
  apply tri_block
  repeat' (first | apply triL_nil | (apply V; apply rfl; (first | (apply E_mv; apply rfl) | (apply E_as; apply rfl) | (apply E_pkT; apply rfl; apply rfl) | (apply E_pkF; apply rfl; apply rfl))) | (apply Vd; apply rfl; (apply E_eql; apply rfl; apply rfl); all_goals intro h_) | (apply Vo; apply rfl) | (apply s_region; apply rfl))
  iterate 4
    focus
      repeat' (first | apply triL_nil | (apply V; apply rfl; (first | (apply E_as; apply rfl) | (apply E_bd; (apply plT; apply rfl); apply rfl))) | (apply Vs; apply rfl; (apply W_stL; apply rfl; (apply tyT; apply rfl); apply rfl; apply rfl; apply rfl; (first | apply okC_new | (apply okC_ge; omega)); apply rfl; apply rfl; (first | decide | (apply Nat.le_of_ble_eq_true; rfl)))) | (apply s_region; apply rfl) | apply tri_ret | (apply tri_condT; apply rfl) | (apply end_q _ (.inr rfl); (exact List.prefix_append _ _); (focus repeat (first | apply R_nil | (apply R_tmp; apply rfl) | (apply R_cell; apply rfl; apply rfl; apply tyT; apply rfl; apply rfl; apply rfl))); apply rfl) | apply p_inR | apply p_thenR)
      exact ⟨_, _, ⟨#[]⟩, 1, rfl, by omega, Nat.zero_le _⟩
  apply tri_condF
  · rfl
  generalize (s.data.toList.getD (k : Int).toNat 0) = c
  refine s_mid (fun ρ st => st = ⟨S ++ [([vI 0, vS ⟨#[]⟩, vI 0], 129)], T ++ [], M⟩ ∧ ∃ b, hasR ρ [(0, vS s), (1, vI k), (4, .ptr (S.length + 0) 0), (6, .d (.flat (.int .u8 c.toNat))), (7, vI 1), (29, vB b)]) ?_ ?_
  · repeat' (first | apply triL_nil | (apply V; apply rfl; (first | (apply E_mv; apply rfl) | (apply E_as; apply rfl) | (apply E_lens; (apply udT; apply rfl); apply rfl) | (apply E_pkT; apply rfl; apply rfl) | (apply E_pkF; apply rfl; apply rfl) | (apply E_idx; (apply udT; apply rfl); apply rfl; apply rfl; omega) | (apply E_add64; apply rfl; apply rfl; apply rfl; omega))) | (apply Vd; apply rfl; (first | (apply E_lss; apply rfl; apply rfl) | (apply E_eql; apply rfl; apply rfl)); all_goals intro h_) | (apply Vo; apply rfl) | (apply tri_region; apply rfl) | apply p_then)
    all_goals exact ⟨rfl, _, rfl, rfl, rfl, rfl, rfl, rfl, trivial⟩
  rintro ρ _ ⟨rfl, b, hρ⟩
  refine tri_weak (hasR_le hρ) ?_
  cases b
  · repeat' (first | apply triL_nil | (apply V; apply rfl; (first | (apply E_mv; apply rfl) | (apply E_as; apply rfl) | (apply E_lens; (apply udT; apply rfl); apply rfl) | (apply E_pkT; apply rfl; apply rfl) | (apply E_pkF; apply rfl; apply rfl) | (apply E_ex; apply rfl; apply rfl) | (apply E_bd; (apply plT; apply rfl); apply rfl) | (apply E_cvt; apply rfl; (apply udT; apply rfl); (apply udT; apply rfl)) | (apply E_add64; apply rfl; apply rfl; apply rfl; omega) | (apply E_sub64; apply rfl; apply rfl; apply rfl; omega) | (apply E_sls; (apply udT; apply rfl); apply rfl; apply rfl; apply rfl; (first | exact .inr ⟨_, _, rfl, by omega, rfl⟩ | exact .inl ⟨rfl, rfl⟩); (first | exact .inr ⟨_, _, rfl, by omega, rfl⟩ | exact .inl ⟨rfl, rfl⟩); (first | omega | (simp only [ByteArray.size_append, ByteArray.size_extract, size_mk, List.size_toArray, List.length_cons, List.length_nil, List.length_append] at *; omega)); (first | omega | (simp only [ByteArray.size_append, ByteArray.size_extract, size_mk, List.size_toArray, List.length_cons, List.length_nil, List.length_append] at *; omega))))) | (apply Vp; apply rfl; apply rfl; apply fnT; apply rfl; apply sp98; rintro _ ⟨(_ | _), rfl⟩) | (apply Vp; apply rfl; apply rfl; apply fnT; apply rfl; apply sp99; rintro _ ⟨(_ | _), rfl⟩) | (apply Vp; apply rfl; apply rfl; apply fnT; apply rfl; apply call_wk; apply rfl; apply sp95d; apply rfl; apply rfl; rintro _ ⟨(_ | _), rfl, hin_⟩) | (apply Vp; apply rfl; apply rfl; apply fnT; apply rfl; apply sp100; assumption; assumption; rintro _ ⟨m_, rfl, hm_⟩) | (apply Vp; apply rfl; apply rfl; apply fnT; apply rfl; apply sp101; (first | omega | (simp only [ByteArray.size_append, ByteArray.size_extract, size_mk, List.size_toArray, List.length_cons, List.length_nil, List.length_append] at *; omega)); rintro _ ⟨t_, (_ | _), rfl, ht_⟩) | (apply Vd; apply rfl; (first | (apply E_leq; apply rfl; apply rfl) | (apply E_eql; apply rfl; apply rfl)); all_goals intro h_) | (apply Vo; apply rfl) | (apply Vw; apply rfl; (apply W_bsL; apply rfl; (apply elT; apply rfl); (apply tyT; apply rfl); apply rfl; decide; apply rfl; apply rfl)) | (apply Vs; apply rfl; (apply W_stL; apply rfl; (apply tyT; apply rfl); apply rfl; apply rfl; apply rfl; (first | apply okC_new | (apply okC_ge; omega)); apply rfl; apply rfl; (first | decide | (apply Nat.le_of_ble_eq_true; rfl)))) | (apply s_region; apply rfl) | apply tri_seq | apply tri_block | apply tri_skip | apply tri_ret | (apply tri_condT; apply rfl) | (apply tri_condF; apply rfl) | (apply end_q _ (.inr rfl); (exact List.prefix_append _ _); (focus repeat (first | apply R_nil | (apply R_tmp; apply rfl) | (apply R_cell; apply rfl; apply rfl; apply tyT; apply rfl; apply rfl; apply rfl))); apply rfl) | apply p_then | apply p_inN | apply p_inR | apply p_thenR)
    all_goals first | exact ⟨_, _, _, 0, rfl, by omega, by (first | omega | (simp only [ByteArray.size_append, ByteArray.size_extract, size_mk, List.size_toArray, List.length_cons, List.length_nil, List.length_append] at *; omega))⟩ | exact ⟨_, _, _, 1, rfl, by omega, by (first | omega | (simp only [ByteArray.size_append, ByteArray.size_extract, size_mk, List.size_toArray, List.length_cons, List.length_nil, List.length_append] at *; omega))⟩ | exact ⟨_, _, _, 2, rfl, by omega, by (first | omega | (simp only [ByteArray.size_append, ByteArray.size_extract, size_mk, List.size_toArray, List.length_cons, List.length_nil, List.length_append] at *; omega))⟩ | exact ⟨_, _, _, m_, rfl, by omega, by (first | omega | (simp only [ByteArray.size_append, ByteArray.size_extract, size_mk, List.size_toArray, List.length_cons, List.length_nil, List.length_append] at *; omega))⟩ | skip
    all_goals
      refine tri_rounds (fun n : Nat => s.size - (k + n)) (fun n => [(0, vS s), (1, vI k), (4, .ptr (S.length + 0) 0), (7, vI n)]) (fun _ => ⟨S ++ [([vI 0, vS ⟨#[]⟩, vI 0], 129)], T ++ [], M⟩) (fun n => 1 ≤ n ∧ k + n ≤ s.size) 1 ⟨by omega, by omega⟩ ⟨rfl, rfl, rfl, rfl, trivial⟩ rfl ?_
      rintro n ⟨hn1, hn2⟩
      repeat' (first | apply triL_nil | (apply V; apply rfl; (first | (apply E_mv; apply rfl) | (apply E_as; apply rfl) | (apply E_lens; (apply udT; apply rfl); apply rfl) | (apply E_pkT; apply rfl; apply rfl) | (apply E_pkF; apply rfl; apply rfl) | (apply E_bd; (apply plT; apply rfl); apply rfl) | (apply E_cvt; apply rfl; (apply udT; apply rfl); (apply udT; apply rfl)) | (apply E_idx; (apply udT; apply rfl); apply rfl; apply rfl; omega) | (apply E_add64; apply rfl; apply rfl; apply rfl; omega) | (apply E_sls; (apply udT; apply rfl); apply rfl; apply rfl; apply rfl; (first | exact .inr ⟨_, _, rfl, by omega, rfl⟩ | exact .inl ⟨rfl, rfl⟩); (first | exact .inr ⟨_, _, rfl, by omega, rfl⟩ | exact .inl ⟨rfl, rfl⟩); (first | omega | (simp only [ByteArray.size_append, ByteArray.size_extract, size_mk, List.size_toArray, List.length_cons, List.length_nil, List.length_append] at *; omega)); (first | omega | (simp only [ByteArray.size_append, ByteArray.size_extract, size_mk, List.size_toArray, List.length_cons, List.length_nil, List.length_append] at *; omega))))) | (apply Vp; apply rfl; apply rfl; apply fnT; apply rfl; apply sp98; rintro _ ⟨(_ | _), rfl⟩) | (apply Vp; apply rfl; apply rfl; apply fnT; apply rfl; apply sp99; rintro _ ⟨(_ | _), rfl⟩) | (apply Vd; apply rfl; (apply E_lss; apply rfl; apply rfl); all_goals intro h_) | (apply Vo; apply rfl) | (apply Vs; apply rfl; (apply W_stL; apply rfl; (apply tyT; apply rfl); apply rfl; apply rfl; apply rfl; (first | apply okC_new | (apply okC_ge; omega)); apply rfl; apply rfl; (first | decide | (apply Nat.le_of_ble_eq_true; rfl)))) | (apply s_region; apply rfl) | apply tri_seq | (apply tri_region; apply rfl) | apply tri_block | apply tri_skip | apply tri_exit | apply tri_ret | (apply tri_condT; apply rfl) | (apply tri_condF; apply rfl) | (apply end_q _ (.inr rfl); (exact List.prefix_append _ _); (focus repeat (first | apply R_nil | (apply R_tmp; apply rfl) | (apply R_cell; apply rfl; apply rfl; apply tyT; apply rfl; apply rfl; apply rfl))); apply rfl) | apply p_then | apply p_in | apply p_inN | apply p_inR | apply p_thenR | apply p_thenE)
      all_goals first | exact ⟨_, _, _, n, rfl, by omega, by (first | omega | (simp only [ByteArray.size_append, ByteArray.size_extract, size_mk, List.size_toArray, List.length_cons, List.length_nil, List.length_append] at *; omega))⟩ | exact ⟨n + 1, by omega, ⟨by omega, by omega⟩, ⟨rfl, rfl, rfl, vI_of (by omega), trivial⟩, rfl⟩
  · repeat' (first | apply tri_seq | apply tri_block | (apply tri_condT; apply rfl))
    refine tri_rounds (fun n : Nat => s.size - (k + n)) (fun n => [(0, vS s), (1, vI k), (4, .ptr (S.length + 0) 0), (7, vI n)]) (fun _ => ⟨S ++ [([vI 0, vS ⟨#[]⟩, vI 0], 129)], T ++ [], M⟩) (fun n => 1 ≤ n ∧ k + n ≤ s.size) 1 ⟨by omega, by omega⟩ ⟨rfl, rfl, rfl, rfl, trivial⟩ rfl ?_
    rintro n ⟨hn1, hn2⟩
    repeat' (first | apply triL_nil | (apply V; apply rfl; (first | (apply E_mv; apply rfl) | (apply E_as; apply rfl) | (apply E_lens; (apply udT; apply rfl); apply rfl) | (apply E_pkT; apply rfl; apply rfl) | (apply E_pkF; apply rfl; apply rfl) | (apply E_bd; (apply plT; apply rfl); apply rfl) | (apply E_idx; (apply udT; apply rfl); apply rfl; apply rfl; omega) | (apply E_add64; apply rfl; apply rfl; apply rfl; omega))) | (apply Vd; apply rfl; (first | (apply E_lss; apply rfl; apply rfl) | (apply E_neq; apply rfl; apply rfl)); all_goals intro h_) | (apply Vo; apply rfl) | (apply Vs; apply rfl; (apply W_stL; apply rfl; (apply tyT; apply rfl); apply rfl; apply rfl; apply rfl; (first | apply okC_new | (apply okC_ge; omega)); apply rfl; apply rfl; (first | decide | (apply Nat.le_of_ble_eq_true; rfl)))) | (apply s_region; apply rfl) | apply tri_seq | (apply tri_region; apply rfl) | apply tri_block | apply tri_skip | apply tri_exit | apply tri_ret | (apply tri_condT; apply rfl) | (apply tri_condF; apply rfl) | (apply end_q _ (.inr rfl); (exact List.prefix_append _ _); (focus repeat (first | apply R_nil | (apply R_tmp; apply rfl) | (apply R_cell; apply rfl; apply rfl; apply tyT; apply rfl; apply rfl; apply rfl))); apply rfl) | apply p_then | apply p_in | apply p_inN | apply p_inR | apply p_thenR | apply p_thenE)
    all_goals first | exact ⟨_, _, _, n, rfl, by omega, by (first | omega | (simp only [ByteArray.size_append, ByteArray.size_extract, size_mk, List.size_toArray, List.length_cons, List.length_nil, List.length_append] at *; omega))⟩ | exact ⟨n + 1, by omega, ⟨by omega, by omega⟩, ⟨rfl, rfl, rfl, vI_of (by omega), trivial⟩, rfl⟩
end Go.Proofs.YtinffhimfoicdaaGreat

/- Words. No conditions. -/
namespace Go.Proofs.YtinffhimfoicdaaGreat
open Go Go.RowKit Go.Proofs.YtinffhimfoicdaaGreat.Calc
set_option linter.unusedVariables false
set_option linter.unusedSimpArgs false
set_option maxRecDepth 100000
set_option maxHeartbeats 4000000
attribute [local irreducible] Tri TriL TriP CallT stepV stepW thenQ inQ endQ

theorem sp44 (s : ByteArray) (hs : s.size ≤ 1000000) : PC 44 [vS s] (fun r => ∃ (l : List Wd) (e a : Int), r = .tup [.d (encL encWd l), vI e, vI a] ∧ l.length ≤ 8000 ∧ ∀ w ∈ l, w.text.size ≤ s.size) := by
  intro S T M
  refine callT_go [] [] Tryz.func44 rfl Tryz.ntmps44 Tryz.results44 ?_
  repeat' (first | apply triL_nil | (apply V; apply rfl; (first | (apply E_mv; apply rfl) | (apply E_as; apply rfl) | (apply E_lens; (apply udT; apply rfl); apply rfl))) | (apply Vp; apply rfl; apply rfl; apply fnT; apply rfl; apply sp70; assumption; rintro _ ⟨b_, rfl, hb1_, hb2_⟩) | (apply Vd; apply rfl; (apply E_gtr; apply rfl; apply rfl); all_goals intro h_) | (apply s_region; apply rfl) | apply tri_seq | apply tri_block | apply tri_skip | apply tri_ret | (apply tri_condT; apply rfl) | (apply tri_condF; apply rfl) | (apply end_q _ (.inr rfl); (exact List.prefix_append _ _); (focus repeat (first | apply R_nil | (apply R_tmp; apply rfl))); apply rfl) | apply p_then | apply p_thenR)
  · exact ⟨[], _, _, rfl, by decide, by simp⟩
  · refine tri_ownX 6 129 3 rfl rfl ?_
    refine tri_grow (fun k : Nat × List Wd => s.size - k.1) (fun k => [(0, vS s), (5, vI b_), (6, .own 129 3 (T.length + 0) (k.2.flatMap encWd) k.2.length), (7, vI k.1)]) (fun k S1 T1 => k.1 ≤ s.size ∧ k.2.length ≤ k.1 ∧ S.length ≤ S1.length ∧ T <+: T1 ∧ T1[T.length + 0]? = some (k.2.flatMap encWd).length ∧ ∀ w ∈ k.2, w.text.size ≤ s.size) (0, []) ⟨Nat.zero_le _, Nat.le_refl _, by simp, by simp, by simp, by simp⟩ ⟨rfl, rfl, rfl, rfl, trivial⟩ ?_
    rintro ⟨k, l⟩ S1 T1 ⟨hk, hl, hS, hT, hTg, hW⟩
    dsimp only at hk hl hTg hW ⊢
    repeat' (first | apply triL_nil | (apply V; apply rfl; (first | (apply E_mv; apply rfl) | (apply E_as; apply rfl) | (apply E_fa; (apply plT; apply rfl); apply rfl; apply rfl; decide) | (apply E_lda; (apply tyT; apply rfl); apply rfl; (apply at_; apply rfl; apply rfl); apply rfl) | (apply E_ld; (apply tyT; apply rfl); apply rfl; (apply at_; apply rfl; apply rfl); apply rfl) | (apply E_lens; (apply udT; apply rfl); apply rfl) | (apply E_pkT; apply rfl; apply rfl) | (apply E_pkF; apply rfl; apply rfl) | (apply E_ex; apply rfl; apply rfl) | (apply E_add64; apply rfl; apply rfl; apply rfl; omega))) | (apply Vp; apply rfl; apply rfl; apply fnT; apply rfl; apply sp71; assumption; omega; rintro _ ⟨a_, b2_, t_, n_, rfl, hn_, ht_⟩) | (apply Vd; apply rfl; (first | (apply E_lss; apply rfl; apply rfl) | (apply E_gtr; apply rfl; apply rfl) | (apply E_geq; apply rfl; apply rfl) | (apply E_eql; apply rfl; apply rfl)); all_goals intro h_) | (apply Vo; apply rfl) | (apply Vw; apply rfl; (first | (apply W_alL; apply rfl; (apply tyT; apply rfl)) | (apply W_bsL; apply rfl; (apply elT; apply rfl); (apply tyT; apply rfl); apply rfl; decide; apply rfl; apply rfl) | (apply W_ap; (apply elT; apply rfl); (apply tyT; apply rfl); (apply byT; apply rfl); apply rfl; apply rfl; apply rfl; decide; apply rfl; (apply A_ownLO (c := (⟨a_, t_, b2_⟩ : Wd)); omega; omega; assumption)))) | (apply Vs; apply rfl; (apply W_stL; apply rfl; (apply tyT; apply rfl); apply rfl; apply rfl; apply rfl; (first | apply okC_new | (apply okC_ge; omega)); apply rfl; apply rfl; (first | decide | (apply Nat.le_of_ble_eq_true; rfl)))) | (apply s_region; apply rfl) | apply tri_seq | (apply tri_region; apply rfl) | apply tri_block | apply tri_skip | apply tri_exit | apply tri_ret | (apply tri_condT; apply rfl) | (apply tri_condF; apply rfl) | (apply end_q _ (.inr rfl); (apply pre_app; assumption); (focus repeat (first | apply R_nil | (apply R_tmp; apply rfl))); apply rfl) | apply p_then | apply p_in | apply p_inN | apply p_inR | apply p_thenR | apply p_thenE)
    all_goals first
      | exact ⟨[], _, _, rfl, by decide, by simp⟩
      | exact ⟨l, _, _, rfl, by omega, hW⟩
      | exact ⟨(k + n_, l), _, _, by dsimp only; omega, ⟨by dsimp only; omega, by dsimp only; omega, by simp only [List.length_append]; omega, pre_app hT, at_old hTg, hW⟩, ⟨rfl, rfl, rfl, vI_of (by omega), trivial⟩, rfl⟩
      | exact ⟨(k + n_, l ++ [⟨a_, t_, b2_⟩]), _, _, by dsimp only; omega, ⟨by dsimp only; omega, by simp only [List.length_append, List.length_singleton]; omega, by simp only [List.length_append]; omega, pre_app (pre_set hT (by omega)), at_set (List.getElem?_eq_some_iff.1 hTg).1, fun w hw => by rcases List.mem_append.1 hw with hw | hw; exact hW w hw; rw [List.mem_singleton.1 hw]; exact ht_⟩, ⟨rfl, rfl, rfl, vI_of (by omega), trivial⟩, rfl⟩
end Go.Proofs.YtinffhimfoicdaaGreat

/- How many nodes. No conditions. -/
namespace Go.Proofs.YtinffhimfoicdaaGreat
open Go Go.RowKit Go.Proofs.YtinffhimfoicdaaGreat.Calc
set_option linter.unusedVariables false
set_option linter.unusedSimpArgs false
set_option maxRecDepth 100000
set_option maxHeartbeats 4000000
attribute [local irreducible] Tri TriL TriP CallT stepV stepW thenQ inQ endQ

abbrev isI (r : BV) : Prop := ∃ n, r = vI n
theorem encCl_len (c : Cl) : (encCl c).length = 4 := rfl
theorem encFi_len (c : Fi) : (encFi c).length = 4 := rfl
theorem encMe_len (c : Me) : (encMe c).length = 6 := rfl
theorem encPa_len (c : Pa) : (encPa c).length = 2 := rfl
theorem row_le {f : Nat} {d : DV} {cs : List DV} {n : Nat} {args : List BV} {R : BV → Prop} (h : n ≤ 9223372036854775807 → PC f (.d (.sl cs n) :: args) R) : PC f (.d (.sl cs n) :: args) R := fun S T M =>
  call_fact (n ≤ 9223372036854775807) (fun x vs _ _ h => by cases h with | cons _ _ _ _ h _ => exact rowB_le h rfl) (fun hl => h hl S T M)
theorem nodesEx : ∀ n, (∀ e, 2 * szEx e ≤ n → PC 138 [vEx e] isI) ∧ (∀ l, 2 * szExs l + 1 ≤ n → PC 109 [.d (rowEx l)] isI) := by
  intro n
  induction n using Nat.strongRecOn with
  | _ n ih => ?_
  refine ⟨fun e he => ?_, fun l hl => ?_⟩
  · obtain ⟨k, nm, t, na, ty, l, o, nth⟩ := e
    rw [szEx] at he
    have h98 := (ih (2 * szExs l + 1) (by omega)).2 l (Nat.le_refl _)
    unfold vEx
    rw [encEx]
    intro S T M
    refine callT_go [] [] Tryz.func138 rfl Tryz.ntmps138 Tryz.results138 ?_
    repeat' (first | apply triL_nil | (apply V; apply rfl; (first | (apply E_as; apply rfl) | (apply E_fa; (apply plT; apply rfl); apply rfl; apply rfl; decide) | (apply E_ld; (apply tyT; apply rfl); apply rfl; (apply at_; apply rfl; apply rfl); apply rfl) | (apply E_add; apply rfl; apply rfl))) | (apply Vp; apply rfl; apply rfl; apply fnT; apply rfl; apply h98; rintro _ ⟨n_, rfl⟩) | (apply Vw; apply rfl; (apply W_bxL; apply rfl; apply rfl; apply rfl)) | (apply s_region; apply rfl) | apply tri_ret | (apply end_q _ (.inr rfl); (exact List.prefix_append _ _); (focus repeat (first | apply R_nil | (apply R_tmp; apply rfl))); apply rfl))
    all_goals exact ⟨_, rfl⟩
  · refine row_le (d := .map 0) (fun hlen => ?_)
    intro S T M
    refine callT_go [] [] Tryz.func109 rfl Tryz.ntmps109 Tryz.results109 ?_
    repeat' (first | apply triL_nil | (apply V; apply rfl; (apply E_as; apply rfl)) | (apply s_region; apply rfl) | apply tri_seq | apply tri_block)
    refine tri_rounds (fun k : Nat × Int => l.length - k.1) (fun k => [(0, .d (rowEx l)), (3, vI k.2), (4, vI k.1)]) (fun _ => ⟨S ++ [], T ++ [], M⟩) (fun k => k.1 ≤ l.length) (0, 0) (Nat.zero_le _) ⟨rfl, rfl, rfl, trivial⟩ rfl ?_
    rintro ⟨k, sum⟩ hk
    dsimp only at hk ⊢
    repeat' (first | apply triL_nil | (apply V; apply rfl; (first | (apply E_mv; apply rfl) | (apply E_as; apply rfl) | (apply E_len; (apply elT; apply rfl); apply rfl; apply rfl))) | (apply Vd; apply rfl; (apply E_lss; apply rfl; apply rfl); all_goals intro h_) | (apply s_region; apply rfl) | apply tri_seq | (apply tri_region; apply rfl) | apply tri_block | apply tri_skip | apply tri_exit | apply tri_ret | (apply tri_condT; apply rfl) | (apply tri_condF; apply rfl) | (apply end_q _ (.inr rfl); (exact List.prefix_append _ _); (focus repeat (first | apply R_nil | (apply R_tmp; apply rfl))); apply rfl) | apply p_then | apply p_in | apply p_thenE)
    · have hlt : k < l.length := by omega
      obtain ⟨c, hc⟩ : ∃ c, l[k]? = some c := ⟨_, List.getElem?_eq_getElem hlt⟩
      have hsz := szEx_at hc
      have h126 := (ih (2 * szEx c) (by omega)).1 c (Nat.le_refl _)
      repeat' (first | apply triL_nil | (apply V; apply rfl; (first | (apply E_mv; apply rfl) | (apply E_as; apply rfl) | (apply E_lea; (apply tyT; apply rfl); apply rfl; (first | apply rfl | apply encEx_len | apply encSm_len)) | (apply E_add64; apply rfl; apply rfl; apply rfl; omega) | (apply E_add; apply rfl; apply rfl) | (apply E_iae (c := c) (encExs_eq l) encEx_len; apply elT; apply rfl; apply rfl; apply rfl; apply rfl; omega; simpa using hc))) | (apply Vp; apply rfl; apply rfl; apply fnT; apply rfl; apply h126; rintro _ ⟨n_, rfl⟩) | (apply tri_region; apply rfl) | apply p_then | apply p_inN)
      all_goals exact ⟨(k + 1, _), by dsimp only; omega, by dsimp only; omega, ⟨rfl, rfl, vI_of (by omega), trivial⟩, rfl⟩
    · exact ⟨_, rfl⟩
theorem sp109 (l : List Ex) : PC 109 [.d (rowEx l)] isI := (nodesEx _).2 l (Nat.le_refl _)
theorem nodesSm : ∀ n, ∀ l, szSms l ≤ n → PC 110 [.d (rowSm l)] isI := by
  intro n
  induction n using Nat.strongRecOn with
  | _ n ih => ?_
  intro l hl
  refine row_le (d := .map 0) (fun hlen => ?_)
  intro S T M
  refine callT_go [] [] Tryz.func110 rfl Tryz.ntmps110 Tryz.results110 ?_
  repeat' (first | apply triL_nil | (apply V; apply rfl; (apply E_as; apply rfl)) | (apply s_region; apply rfl) | apply tri_seq | apply tri_block)
  refine tri_rounds (fun k : Nat × Int => l.length - k.1) (fun k => [(0, .d (rowSm l)), (3, vI k.2), (4, vI k.1)]) (fun _ => ⟨S ++ [], T ++ [], M⟩) (fun k => k.1 ≤ l.length) (0, 0) (Nat.zero_le _) ⟨rfl, rfl, rfl, trivial⟩ rfl ?_
  rintro ⟨k, sum⟩ hk
  dsimp only at hk ⊢
  repeat' (first | apply triL_nil | (apply V; apply rfl; (first | (apply E_mv; apply rfl) | (apply E_as; apply rfl) | (apply E_len; (apply elT; apply rfl); apply rfl; apply rfl))) | (apply Vd; apply rfl; (apply E_lss; apply rfl; apply rfl); all_goals intro h_) | (apply s_region; apply rfl) | apply tri_seq | apply tri_block | apply tri_skip | apply tri_exit | apply tri_ret | (apply tri_condT; apply rfl) | (apply tri_condF; apply rfl) | (apply end_q _ (.inr rfl); (exact List.prefix_append _ _); (focus repeat (first | apply R_nil | (apply R_tmp; apply rfl))); apply rfl) | apply p_then | apply p_in | apply p_thenE)
  · have hlt : k < l.length := by omega
    obtain ⟨⟨kd, num, ty, nm, e, a, b, c, nth⟩, hc⟩ : ∃ c, l[k]? = some c := ⟨_, List.getElem?_eq_getElem hlt⟩
    have hsz := szSm_at hc
    rw [szSm] at hsz
    have ha := ih (szSms a) (by omega) a (Nat.le_refl _)
    have hb := ih (szSms b) (by omega) b (Nat.le_refl _)
    have hcc := ih (szSms c) (by omega) c (Nat.le_refl _)
    repeat' (first | apply triL_nil | (apply V; apply rfl; (first | (apply E_mv; apply rfl) | (apply E_as; apply rfl) | (apply E_fe; (apply plT; apply rfl); apply rfl; apply rfl; decide) | (apply E_le; (apply tyT; apply rfl); apply rfl; apply rfl) | (apply E_add64; apply rfl; apply rfl; apply rfl; omega) | (apply E_add; apply rfl; apply rfl) | (apply E_iae (encSms_eq l) encSm_len; apply elT; apply rfl; apply rfl; apply rfl; apply rfl; omega; simpa using hc))) | (apply t_drawn (nt := 42) (.take 0 (.take 1 (.take 2 (.take 3 (.take 4 (.take 5 (.take 6 (.take 9 (.take 10 (.take 11 (.take 12 (.take 13 (.take 16 (.take 17 (.take 18 (.take 19 (.take 20 (.take 23 (.take 24 (.take 25 (.take 26 (.take 27 (.one 7 (.take 8 (.one 14 (.take 15 (.one 21 (.take 22 (.one 28 (.take 29 (.take 30 .nil))))))))))))))))))))))))))))))) [] []; exact mixed; rfl; decide +kernel) | (apply oP; apply rfl; apply rfl; apply rfl; apply fnT; apply rfl; apply sp109; rintro _ ⟨n_, rfl⟩) | (apply oP; apply rfl; apply rfl; apply rfl; apply fnT; apply rfl; apply ha; rintro _ ⟨n_, rfl⟩) | (apply oP; apply rfl; apply rfl; apply rfl; apply fnT; apply rfl; apply hb; rintro _ ⟨n_, rfl⟩) | (apply oP; apply rfl; apply rfl; apply rfl; apply fnT; apply rfl; apply hcc; rintro _ ⟨n_, rfl⟩) | (apply tri_region; apply rfl) | apply p_then | apply p_inN | apply d_nil | (apply tV; apply rfl; apply rfl; (first | (apply E_mv; apply rfl) | (apply E_as; apply rfl) | (apply E_fe; (apply plT; apply rfl); apply rfl; apply rfl; decide) | (apply E_le; (apply tyT; apply rfl); apply rfl; apply rfl) | (apply E_add64; apply rfl; apply rfl; apply rfl; omega) | (apply E_add; apply rfl; apply rfl) | (apply E_iae (encSms_eq l) encSm_len; apply elT; apply rfl; apply rfl; apply rfl; apply rfl; omega; simpa using hc)); apply rfl))
    all_goals exact ⟨(k + 1, _), by dsimp only; omega, by dsimp only; omega, ⟨rfl, rfl, vI_of (by omega), trivial⟩, rfl⟩
  · exact ⟨_, rfl⟩
theorem sp110 (l : List Sm) : PC 110 [.d (rowSm l)] isI := nodesSm _ l (Nat.le_refl _)
theorem sp82 (p : List Cl) (hp : szP p ≤ 1000000) : PC 82 [vP p] isI := by
  have hlen := classes_len p
  intro S T M
  refine callT_go [] [] Tryz.func82 rfl Tryz.ntmps82 Tryz.results82 ?_
  repeat' (first | apply triL_nil | (apply V; apply rfl; (apply E_as; apply rfl)) | (apply Vw; apply rfl; (apply W_bxL; apply rfl; apply rfl; apply rfl)) | (apply s_region; apply rfl) | apply tri_seq | apply tri_block)
  refine tri_grow (fun k : Nat × Int => p.length - k.1) (fun k => [(1, .ptr (S.length + 0) 0), (3, vI k.2), (4, vI k.1)]) (fun k S1 T1 => k.1 ≤ p.length ∧ S.length ≤ S1.length ∧ T <+: T1 ∧ S1[S.length + 0]? = some ([.d (encL encCl p)], 26)) (0, 0) ⟨Nat.zero_le _, by simp, by simp, at_ rfl rfl⟩ ⟨rfl, rfl, rfl, trivial⟩ ?_
  rintro ⟨k, sum⟩ S1 T1 ⟨hk, hS, hT, hb⟩
  dsimp only at hk ⊢
  repeat' (first | apply triL_nil | (apply V; apply rfl; (first | (apply E_mv; apply rfl) | (apply E_as; apply rfl) | (apply E_fa; (apply plT; apply rfl); apply rfl; apply rfl; decide) | (apply E_ld; (apply tyT; apply rfl); apply rfl; (apply at_old; assumption); apply rfl) | (apply E_len; (apply elT; apply rfl); apply rfl; apply rfl))) | (apply Vd; apply rfl; (apply E_lss; apply rfl; apply rfl); all_goals intro h_) | (apply s_region; apply rfl) | apply tri_seq | apply tri_block | apply tri_skip | apply tri_exit | apply tri_ret | (apply tri_condT; apply rfl) | (apply tri_condF; apply rfl) | (apply end_q _ (.inr rfl); (apply pre_app; assumption); (focus repeat (first | apply R_nil | (apply R_tmp; apply rfl))); apply rfl) | apply p_then | apply p_in | apply p_thenE)
  · have hlt : k < p.length := by omega
    obtain ⟨c, hc⟩ : ∃ c, p[k]? = some c := ⟨_, List.getElem?_eq_getElem hlt⟩
    have hcs := sum_at (f := szCl) hc
    have hfl := fields_len c
    have hml := methods_len c
    unfold szP at hp hlen
    repeat' (first | apply triL_nil | (apply V; apply rfl; (first | (apply E_mv; apply rfl) | (apply E_as; apply rfl) | (apply E_lea; (apply tyT; apply rfl); apply rfl; (first | apply rfl | apply encEx_len | apply encSm_len)) | (apply E_add; apply rfl; apply rfl) | (apply E_ial (c := c); apply elT; apply rfl; apply rfl; apply rfl; apply rfl; exact encCl_len; omega; simpa using hc))) | (apply Vw; apply rfl; (apply W_alL; apply rfl; (apply tyT; apply rfl))) | (apply Vs; apply rfl; (apply W_stL; apply rfl; (apply tyT; apply rfl); apply rfl; apply rfl; apply rfl; (first | apply okC_new | (apply okC_ge; omega)); apply rfl; apply rfl; (first | decide | (apply Nat.le_of_ble_eq_true; rfl)))) | (apply s_region; apply rfl) | apply tri_seq | apply tri_block)
    refine tri_fix (fun j : Nat × Int => c.fields.length - j.1) (fun j => [(1, .ptr (S.length + 0) 0), (3, vI j.2), (4, vI k), (5, .ptr (S1.length + 0) 0), (6, vI j.1)]) (fun j => j.1 ≤ c.fields.length) (0, _) (Nat.zero_le _) ⟨rfl, rfl, rfl, rfl, rfl, trivial⟩ ?_
    rintro ⟨j, s1⟩ hj
    dsimp only at hj ⊢
    repeat' (first | apply triL_nil | (apply V; apply rfl; (first | (apply E_mv; apply rfl) | (apply E_as; apply rfl) | (apply E_fa; (apply plT; apply rfl); apply rfl; apply rfl; decide) | (apply E_ld; (apply tyT; apply rfl); apply rfl; (apply at_; apply rfl; apply rfl); apply rfl) | (apply E_len; (apply elT; apply rfl); apply rfl; apply rfl) | (apply E_add; apply rfl; apply rfl))) | (apply Vd; apply rfl; (apply E_lss; apply rfl; apply rfl); all_goals intro h_) | (apply s_region; apply rfl) | apply tri_seq | (apply tri_region; apply rfl) | apply tri_block | apply tri_skip | apply tri_exit | (apply tri_condT; apply rfl) | (apply tri_condF; apply rfl) | apply p_then | apply p_in | apply p_thenE)
    · obtain ⟨f, hf⟩ : ∃ f, c.fields[j]? = some f := ⟨_, List.getElem?_eq_getElem (by omega)⟩
      repeat' (first | apply triL_nil | (apply V; apply rfl; (first | (apply E_mv; apply rfl) | (apply E_as; apply rfl) | (apply E_fe; (apply plT; apply rfl); apply rfl; apply rfl; decide) | (apply E_le; (apply tyT; apply rfl); apply rfl; apply rfl) | (apply E_add64; apply rfl; apply rfl; apply rfl; omega) | (apply E_add; apply rfl; apply rfl) | (apply E_ial (c := f); apply elT; apply rfl; apply rfl; apply rfl; apply rfl; exact encFi_len; omega; simpa using hf))) | (apply Vp; apply rfl; apply rfl; apply fnT; apply rfl; apply sp109; rintro _ ⟨n_, rfl⟩) | (apply tri_region; apply rfl) | apply p_then | apply p_inN)
      exact ⟨(j + 1, _), by dsimp only; omega, by dsimp only; omega, ⟨rfl, rfl, rfl, rfl, vI_of (by omega), trivial⟩, rfl⟩
    · refine tri_fix (fun j : Nat × Int => c.methods.length - j.1) (fun j => [(1, .ptr (S.length + 0) 0), (3, vI j.2), (4, vI k), (5, .ptr (S1.length + 0) 0), (7, vI j.1)]) (fun j => j.1 ≤ c.methods.length) (0, _) (Nat.zero_le _) ⟨rfl, rfl, rfl, rfl, rfl, trivial⟩ ?_
      rintro ⟨j, s1⟩ hj
      dsimp only at hj ⊢
      repeat' (first | apply triL_nil | (apply V; apply rfl; (first | (apply E_mv; apply rfl) | (apply E_as; apply rfl) | (apply E_fa; (apply plT; apply rfl); apply rfl; apply rfl; decide) | (apply E_ld; (apply tyT; apply rfl); apply rfl; (apply at_; apply rfl; apply rfl); apply rfl) | (apply E_len; (apply elT; apply rfl); apply rfl; apply rfl) | (apply E_add64; apply rfl; apply rfl; apply rfl; omega) | (apply E_add; apply rfl; apply rfl))) | (apply Vd; apply rfl; (apply E_lss; apply rfl; apply rfl); all_goals intro h_) | (apply s_region; apply rfl) | apply tri_seq | (apply tri_region; apply rfl) | apply tri_block | apply tri_skip | apply tri_exit | (apply tri_condT; apply rfl) | (apply tri_condF; apply rfl) | apply p_then | apply p_in | apply p_inN | apply p_thenE)
      · obtain ⟨f, hf⟩ : ∃ f, c.methods[j]? = some f := ⟨_, List.getElem?_eq_getElem (by omega)⟩
        repeat' (first | apply triL_nil | (apply V; apply rfl; (first | (apply E_mv; apply rfl) | (apply E_as; apply rfl) | (apply E_fe; (apply plT; apply rfl); apply rfl; apply rfl; decide) | (apply E_le; (apply tyT; apply rfl); apply rfl; apply rfl) | (apply E_add64; apply rfl; apply rfl; apply rfl; omega) | (apply E_add; apply rfl; apply rfl) | (apply E_ial (c := f); apply elT; apply rfl; apply rfl; apply rfl; apply rfl; exact encMe_len; omega; simpa using hf))) | (apply Vp; apply rfl; apply rfl; apply fnT; apply rfl; apply sp110; rintro _ ⟨n_, rfl⟩) | (apply tri_region; apply rfl) | apply p_then | apply p_inN)
        exact ⟨(j + 1, _), by dsimp only; omega, by dsimp only; omega, ⟨rfl, rfl, rfl, rfl, vI_of (by omega), trivial⟩, rfl⟩
      · exact ⟨(k + 1, _), _, _, by dsimp only; omega, ⟨by dsimp only; omega, by simp only [List.length_append]; omega, pre_app hT, at_old hb⟩, ⟨rfl, rfl, vI_of (by omega), trivial⟩, rfl⟩
  · exact ⟨_, rfl⟩
end Go.Proofs.YtinffhimfoicdaaGreat

/- A calculus over the model's wp rules, part 12: a call, where there are more boxes, rows and maps. No conditions. -/
namespace Go.Proofs.YtinffhimfoicdaaGreat.Calc
open Go Go.RowKit
set_option linter.unusedVariables false
set_option linter.unusedSimpArgs false

-- Only boxes below nb, rows below nt, maps below nm.
mutual
def inD (nm : Nat) : DV → Bool
  | .flat _ => true
  | .sl cs _ => inDs nm cs
  | .agg l => inDs nm l
  | .iface _ y => inD nm y
  | .map id => Nat.blt id nm
def inDs (nm : Nat) : List DV → Bool
  | [] => true
  | d :: l => inD nm d && inDs nm l
end
mutual
def inB (nb nt nm : Nat) : BV → Bool
  | .d y => inD nm y
  | .agg l => inBs nb nt nm l
  | .own _ _ t cs _ => Nat.blt t nt && inDs nm cs
  | .tight cs _ => inDs nm cs
  | .ptr id _ => Nat.blt id nb
  | .eptr cs => inDs nm cs
  | .fn _ cap => inBs nb nt nm cap
  | .tup l => inBs nb nt nm l
def inBs (nb nt nm : Nat) : List BV → Bool
  | [] => true
  | b :: l => inB nb nt nm b && inBs nb nt nm l
end
/-- z' is z, with fewer boxes, rows, maps told of. -/
structure Fewer (z z' : Full) (nb nt nm : Nat) : Prop where
  w : z'.w = z.w
  F : z'.F = z.F
  pb : ∀ i, i < nb → z'.pb i = z.pb i
  pt : ∀ i, i < nt → z'.pt i = z.pt i
  pm : ∀ i, i < nm → z'.pm i = z.pm i
  S : nb ≤ z'.st.S.length
  T : ∀ t k, t < nt → z.st.T[t]? = some k → z'.st.T[t]? = some k
  M : nm ≤ z'.st.M.length
theorem blt_of {a b : Nat} (h : Nat.blt a b = true) : a < b := Nat.le_of_ble_eq_true h
mutual
theorem few_repD {z z' : Full} {nb nt nm : Nat} (h : Fewer z z' nb nt nm) : ∀ {d : DV} {v : Value}, RepD z d v → inD nm d = true → RepD z' d v
  | _, _, .flat v hf, hi => .flat v hf
  | _, _, .nil, hi => .nil
  | _, _, .emp a cap hm, hi => .emp a cap hm
  | _, _, .sl b off n cap cs vs hc hm h1 hv hr, hi => by
    rw [inD] at hi
    refine .sl b off n cap cs vs hc hm h1 (fun i u hu => ?_) (few_repDs h hr hi)
    rw [h.F, h.w]
    exact hv i u hu
  | _, _, .agg l vs hr, hi => by
    rw [inD] at hi
    exact .agg l vs (few_repDs h hr hi)
  | _, _, .iface t y v hr, hi => by
    rw [inD] at hi
    exact .iface t y v (few_repD h hr hi)
  | _, _, .map id hl, hi => by
    rw [inD] at hi
    have hlt := blt_of hi
    rw [← h.pm id hlt]
    exact .map id (Nat.lt_of_lt_of_le hlt h.M)
theorem few_repDs {z z' : Full} {nb nt nm : Nat} (h : Fewer z z' nb nt nm) : ∀ {l : List DV} {vs : List Value}, RepDs z l vs → inDs nm l = true → RepDs z' l vs
  | _, _, .nil, hi => .nil
  | _, _, .cons y v l vs h1 h2, hi => by
    rw [inDs, Bool.and_eq_true] at hi
    exact .cons y v l vs (few_repD h h1 hi.1) (few_repDs h h2 hi.2)
end
mutual
theorem few_rep {z z' : Full} {nb nt nm : Nat} (h : Fewer z z' nb nt nm) : ∀ {b : BV} {v : Value}, RepB z b v → inB nb nt nm b = true → RepB z' b v
  | _, _, .d y v hr, hi => by
    rw [inB] at hi
    exact .d y v (few_repD h hr hi)
  | _, _, .agg l vs hr, hi => by
    rw [inB] at hi
    exact .agg l vs (few_reps h hr hi)
  | _, _, .own e sz t cs n k v hr hk hle ho, hi => by
    rw [inB, Bool.and_eq_true] at hi
    have hlt := blt_of hi.1
    have hD : inD nm (.sl cs n) = true := by rw [inD]; exact hi.2
    refine .own e sz t cs n k v (few_repD h hr hD) (h.T t k hlt hk) hle (fun e1 => ?_)
    rcases ho e1 with ⟨a1, vs, a2, a3⟩ | a
    · exact .inl ⟨a1.trans (h.pt t hlt).symm, vs, by rw [h.w]; exact a2, few_repDs h a3 hi.2⟩
    · exact .inr ⟨(h.pt t hlt).trans a.1, a.2⟩
  | _, _, .tight cs n base hr, hi => by
    rw [inB] at hi
    exact .tight cs n base (few_repD h hr (by rw [inD]; exact hi))
  | _, _, .ptr id off hl, hi => by
    rw [inB] at hi
    have hlt := blt_of hi
    rw [← h.pb id hlt]
    exact .ptr id off (Nat.lt_of_lt_of_le hlt h.S)
  | _, _, .eptr b off cs vs hv hr, hi => by
    rw [inB] at hi
    refine .eptr b off cs vs (fun i u hu => ?_) (few_repDs h hr hi)
    rw [h.F, h.w]
    exact hv i u hu
  | _, _, .fn f cap vs hr, hi => by
    rw [inB] at hi
    exact .fn f cap vs (few_reps h hr hi)
  | _, _, .tup l vs hr, hi => by
    rw [inB] at hi
    exact .tup l vs (few_reps h hr hi)
theorem few_reps {z z' : Full} {nb nt nm : Nat} (h : Fewer z z' nb nt nm) : ∀ {l : List BV} {vs : List Value}, RepBs z l vs → inBs nb nt nm l = true → RepBs z' l vs
  | _, _, .nil, hi => .nil
  | _, _, .cons y v l vs h1 h2, hi => by
    rw [inBs, Bool.and_eq_true] at hi
    exact .cons y v l vs (few_rep h h1 hi.1) (few_reps h h2 hi.2)
end
/-- What stands in a state's boxes and maps is of that state. -/
def inSt (st : St) : Bool := st.S.all (fun c => inBs st.S.length st.T.length st.M.length c.1) && st.M.all (fun es => es.all fun e => inD st.M.length e.2)
def plus (st : St) (B : List (List BV × Nat)) (U : List Nat) (N : List (List (Value × DV))) : St := ⟨st.S ++ B, st.T ++ U, st.M ++ N⟩
mutual
theorem inD_rep {z : Full} : ∀ {d : DV} {v : Value}, RepD z d v → inD z.st.M.length d = true
  | _, _, .flat v hf => rfl
  | _, _, .nil => rfl
  | _, _, .emp a cap hm => by rw [inD]; rfl
  | _, _, .sl b off n cap cs vs hc hm h1 hv hr => by rw [inD]; exact inDs_rep hr
  | _, _, .agg l vs hr => by rw [inD]; exact inDs_rep hr
  | _, _, .iface t y v hr => by rw [inD]; exact inD_rep hr
  | _, _, .map id hl => by rw [inD]; exact Nat.ble_eq_true_of_le hl
theorem inDs_rep {z : Full} : ∀ {l : List DV} {vs : List Value}, RepDs z l vs → inDs z.st.M.length l = true
  | _, _, .nil => rfl
  | _, _, .cons y v l vs h1 h2 => by rw [inDs, inD_rep h1, inDs_rep h2]; rfl
end
mutual
theorem inB_rep {z : Full} : ∀ {b : BV} {v : Value}, RepB z b v → inB z.st.S.length z.st.T.length z.st.M.length b = true
  | _, _, .d y v hr => by rw [inB]; exact inD_rep hr
  | _, _, .agg l vs hr => by rw [inB]; exact inBs_rep hr
  | _, _, .own e sz t cs n k v hr hk hle ho => by
    have hD := inD_rep hr
    rw [inD] at hD
    rw [inB, hD, Bool.and_true]
    exact Nat.ble_eq_true_of_le (List.getElem?_eq_some_iff.1 hk).1
  | _, _, .tight cs n base hr => by
    have hD := inD_rep hr
    rw [inD] at hD
    rw [inB]
    exact hD
  | _, _, .ptr id off hl => by rw [inB]; exact Nat.ble_eq_true_of_le hl
  | _, _, .eptr b off cs vs hv hr => by rw [inB]; exact inDs_rep hr
  | _, _, .fn f cap vs hr => by rw [inB]; exact inBs_rep hr
  | _, _, .tup l vs hr => by rw [inB]; exact inBs_rep hr
theorem inBs_rep {z : Full} : ∀ {l : List BV} {vs : List Value}, RepBs z l vs → inBs z.st.S.length z.st.T.length z.st.M.length l = true
  | _, _, .nil => rfl
  | _, _, .cons y v l vs h1 h2 => by rw [inBs, inB_rep h1, inBs_rep h2]; rfl
end
-- Only boxes below nb, rows below nt, whatever the data.
mutual
def okB (nb nt : Nat) : BV → Bool
  | .d _ => true
  | .agg l => okBs nb nt l
  | .own _ _ t _ _ => Nat.blt t nt
  | .tight _ _ => true
  | .ptr id _ => Nat.blt id nb
  | .eptr _ => true
  | .fn _ cap => okBs nb nt cap
  | .tup l => okBs nb nt l
def okBs (nb nt : Nat) : List BV → Bool
  | [] => true
  | b :: l => okB nb nt b && okBs nb nt l
end
mutual
theorem ok_in {nb nt nb' nt' nm : Nat} : ∀ {b : BV}, okB nb nt b = true → inB nb' nt' nm b = true → inB nb nt nm b = true
  | .d _, h, k => by rw [inB] at k ⊢; exact k
  | .agg l, h, k => by rw [inB] at k ⊢; rw [okB] at h; exact ok_ins h k
  | .own _ _ t cs _, h, k => by
    rw [inB, Bool.and_eq_true] at k ⊢
    rw [okB] at h
    exact ⟨h, k.2⟩
  | .tight _ _, h, k => by rw [inB] at k ⊢; exact k
  | .ptr id _, h, k => by rw [inB]; rw [okB] at h; exact h
  | .eptr _, h, k => by rw [inB] at k ⊢; exact k
  | .fn _ cap, h, k => by rw [inB] at k ⊢; rw [okB] at h; exact ok_ins h k
  | .tup l, h, k => by rw [inB] at k ⊢; rw [okB] at h; exact ok_ins h k
theorem ok_ins {nb nt nb' nt' nm : Nat} : ∀ {l : List BV}, okBs nb nt l = true → inBs nb' nt' nm l = true → inBs nb nt nm l = true
  | [], h, k => rfl
  | b :: l, h, k => by
    rw [inBs, Bool.and_eq_true] at k ⊢
    rw [okBs, Bool.and_eq_true] at h
    exact ⟨ok_in h.1 k.1, ok_ins h.2 k.2⟩
end
def okSt (st : St) : Bool := st.S.all (fun c => okBs st.S.length st.T.length c.1)
theorem getElem?_left {α : Type} {l m : List α} {i : Nat} (h : i < l.length) : (l ++ m)[i]? = l[i]? := List.getElem?_append_left h
theorem getElem?_right {α : Type} {l m : List α} {i : Nat} (h : l.length ≤ i) : (l ++ m)[i]? = m[i - l.length]? := List.getElem?_append_right h
/-- A call yields the same where there are more boxes, rows and maps; these stay. -/
theorem call_frame {P : Program} {Wr : List Nat} {f : Nat} {ars : List BV} {st : St} {Q : BV → St → Prop} (B : List (List BV × Nat)) (U : List Nat) (N : List (List (Value × DV)))
    (h : CallT P Wr [] f ars st (fun r s => s.S.length = st.S.length ∧ s.T.length = st.T.length ∧ s.M.length = st.M.length ∧ Q r s))
    (hi : okSt st = true) (ha : okBs st.S.length st.T.length ars = true) (hN : N = [] ∨ (inSt st = true ∧ inBs st.S.length st.T.length st.M.length ars = true)) (hWr : ∀ i ∈ Wr, i < st.S.length) : CallT P Wr [] f ars (plus st B U N) (fun r s => ∃ s', s = plus s' B U N ∧ Q r s') := by
  intro x vs hx hg hargs
  have hxS : x.st.S = st.S ++ B := by rw [hx]; rfl
  have hxT : x.st.T = st.T ++ U := by rw [hx]; rfl
  have hxM : x.st.M = st.M ++ N := by rw [hx]; rfl
  have lS : x.st.S.length = st.S.length + B.length := by rw [hxS, List.length_append]
  have lT : x.st.T.length = st.T.length + U.length := by rw [hxT, List.length_append]
  have lM : x.st.M.length = st.M.length + N.length := by rw [hxM, List.length_append]
  let x' : Full := ⟨st, x.pb, x.pt, x.pm, x.F, x.w⟩
  have hf : Fewer x x' st.S.length st.T.length st.M.length := ⟨rfl, rfl, fun _ _ => rfl, fun _ _ => rfl, fun _ _ => rfl, Nat.le_refl _, fun t k ht hk => by
    rw [hxT, getElem?_left ht] at hk
    exact hk, Nat.le_refl _⟩
  have inMs : ∀ {cs : List BV} {us : List Value}, okBs st.S.length st.T.length cs = true → (N ≠ [] → inBs st.S.length st.T.length st.M.length cs = true) → RepBs x cs us → inBs st.S.length st.T.length st.M.length cs = true := fun {cs us} h1 h2 h3 => by
    rcases hN with hN | hN
    · have := inBs_rep h3
      rw [lM, hN, List.length_nil, Nat.add_zero] at this
      exact ok_ins h1 this
    · by_cases hne : N = []
      · have := inBs_rep h3
        rw [lM, hne, List.length_nil, Nat.add_zero] at this
        exact ok_ins h1 this
      · exact h2 hne
  have inSt' : N ≠ [] → inSt st = true ∧ inBs st.S.length st.T.length st.M.length ars = true := fun hne => hN.resolve_left hne
  have inMD : ∀ {d : DV} {v : Value}, (N ≠ [] → inD st.M.length d = true) → RepD x d v → inD st.M.length d = true := fun {d v} h2 h3 => by
    by_cases hne : N = []
    · have := inD_rep h3
      rwa [lM, hne, List.length_nil, Nat.add_zero] at this
    · exact h2 hne
  have hg' : Good x' := by
    constructor
    · intro id cs t hid
      have hlt := (List.getElem?_eq_some_iff.1 hid).1
      obtain ⟨us, h1, h2, h3⟩ := hg.box id cs t (by rw [hxS, getElem?_left hlt]; exact hid)
      refine ⟨us, h1, few_reps hf h2 (inMs (List.all_eq_true.1 hi _ (List.mem_of_getElem? hid)) (fun hne => ?_) h2), h3⟩
      have := (inSt' hne).1
      rw [inSt, Bool.and_eq_true] at this
      exact List.all_eq_true.1 this.1 _ (List.mem_of_getElem? hid)
    · exact fun i j h1 h2 e => hg.inj i j (by have : i < st.S.length := h1; omega) (by have : j < st.S.length := h2; omega) e
    · intro t k b ht hb
      have hlt := (List.getElem?_eq_some_iff.1 ht).1
      obtain ⟨h1, h2, h3, h4⟩ := hg.tag t k b (by rw [hxT, getElem?_left hlt]; exact ht) hb
      exact ⟨h1, h2, fun i hi => h3 i (by have : i < st.S.length := hi; omega), fun u hu he => h4 u (by have : u < st.T.length := hu; omega) he⟩
    · intro id es hid
      have hlt := (List.getElem?_eq_some_iff.1 hid).1
      obtain ⟨us, c, h1, h2, h3⟩ := hg.map id es (by rw [hxM, getElem?_left hlt]; exact hid)
      refine ⟨us, c, h1, h2, fun i e k y he hk => ?_⟩
      obtain ⟨h4, h5⟩ := h3 i e k y he hk
      refine ⟨h4, few_repD hf h5 (inMD (fun hne => ?_) h5)⟩
      have := (inSt' hne).1
      rw [inSt, Bool.and_eq_true] at this
      exact List.all_eq_true.1 (List.all_eq_true.1 this.2 _ (List.mem_of_getElem? hid)) _ (List.mem_of_getElem? hk)
    · exact fun i j h1 h2 e => hg.mapinj i j (by have : i < st.M.length := h1; omega) (by have : j < st.M.length := h2; omega) e
    · exact fun t b i h1 h2 h3 => hg.tmap t b i (by have : t < st.T.length := h1; omega) h2 (by have : i < st.M.length := h3; omega)
  refine (h x' vs rfl hg' (few_reps hf hargs (inMs ha (fun hne => (inSt' hne).2) hargs))).mono fun e w' ⟨r, v, z, he, ⟨l1, l2, l3, hq⟩, hv, hgz, hs, hw⟩ => ?_
  subst hw
  let y : Full := ⟨plus z.st B U N, fun i => if i < st.S.length then z.pb i else x.pb i, fun t => if t < st.T.length then z.pt t else x.pt t, fun i => if i < st.M.length then z.pm i else x.pm i, z.F, z.w⟩
  have yS : y.st.S.length = st.S.length + B.length := by show (z.st.S ++ B).length = _; rw [List.length_append, l1]
  have yT : y.st.T.length = st.T.length + U.length := by show (z.st.T ++ U).length = _; rw [List.length_append, l2]
  have yM : y.st.M.length = st.M.length + N.length := by show (z.st.M ++ N).length = _; rw [List.length_append, l3]
  -- an elder block that is none of st's boxes, rows, maps stays
  have old : ∀ b, b < x.w.heap.size → (∀ i, i < st.S.length → x.pb i ≠ b) → (∀ t, t < st.T.length → x.pt t ≠ some b) → z.w.heap[b]? = x.w.heap[b]? := fun b hb h1 h2 =>
    hs.frame b hb (fun i hi hl => h1 i hl) (by simp) (fun t ht => h2 t ht)
  have pbz : ∀ i, i < st.S.length → z.pb i = x.pb i := fun i hi => hs.ids i hi
  have pmz : ∀ i, i < st.M.length → z.pm i = x.pm i := fun i hi => hs.mids i hi
  have ptz : ∀ t b, t < st.T.length → z.pt t = some b → x.pt t = some b ∨ x.w.heap.size ≤ b := fun t b ht hb => by
    obtain ⟨_, _, _, _, hq⟩ := hs.tags t _ (List.getElem?_eq_getElem (l := x'.st.T) ht)
    rcases hq with hq | ⟨q, hq, hlt⟩
    · exact .inl (hq ▸ hb)
    · rw [hq] at hb
      injection hb with hb
      exact .inr (hb ▸ hlt)
  have yb : ∀ i, i < x.st.S.length → y.pb i = x.pb i := fun i hi => by
    by_cases hlt : i < st.S.length
    · simp only [y, if_pos hlt]; exact pbz i hlt
    · simp only [y, if_neg hlt]
  have ym : ∀ i, i < x.st.M.length → y.pm i = x.pm i := fun i hi => by
    by_cases hlt : i < st.M.length
    · simp only [y, if_pos hlt]; exact pmz i hlt
    · simp only [y, if_neg hlt]
  have ubox : ∀ i b, i < x.st.S.length → x.pb i = b → ∀ t, t < x.st.T.length → x.pt t ≠ some b := fun i b hi hb t ht he =>
    (hg.tag t _ b (List.getElem?_eq_getElem ht) he).2.2.1 i hi hb
  have hstep : Step Wr [] x y := by
    refine ⟨hs.os, hs.tape, hs.output, hs.size, fun b hb h1 h2 h3 => ?_, hs.keep, by omega, fun i hi => yb i hi, fun i h1 h2 => by omega, by omega, fun i hi => ym i hi, fun i h1 h2 => by omega, fun t k ht => ?_, fun t b h1 h2 => by omega, fun b hb h3 => ?_⟩
    · refine hs.frame b hb (fun i hi hl => ?_) (by simp) (fun t ht => ?_)
      · exact h1 i hi (by have : i < st.S.length := hl; omega)
      · exact h3 t (by have : t < st.T.length := ht; omega)
    · by_cases hlt : t < st.T.length
      · have ht' : x'.st.T[t]? = some k := by rw [hxT, getElem?_left hlt] at ht; exact ht
        obtain ⟨k', g1, g2, g3, g4⟩ := hs.tags t k ht'
        refine ⟨k', ?_, g2, fun e => ?_, ?_⟩
        · show (z.st.T ++ U)[t]? = _
          rw [getElem?_left (by omega)]
          exact g1
        · simp only [y, if_pos hlt]
          exact g3 e
        · simp only [y, if_pos hlt]
          exact g4
      · refine ⟨k, ?_, Nat.le_refl _, fun _ => ⟨by simp only [y, if_neg hlt], fun b hb => ?_⟩, .inl (by simp only [y, if_neg hlt])⟩
        · show (z.st.T ++ U)[t]? = _
          rw [hxT, getElem?_right (by omega)] at ht
          rw [getElem?_right (by omega), l2]
          exact ht
        · obtain ⟨g1, _, g3, g4⟩ := hg.tag t k b ht hb
          refine old b g1 (fun i hi => g3 i (by omega)) (fun u hu he => ?_)
          have := g4 u (by omega) he
          omega
    · exact hs.fro b hb (fun t ht => h3 t (by have : t < st.T.length := ht; omega))
  have hmore : Fewer z y z.st.S.length z.st.T.length z.st.M.length := by
    refine ⟨rfl, rfl, fun i hi => ?_, fun t ht => ?_, fun i hi => ?_, by omega, fun t k ht hk => ?_, by omega⟩
    · simp only [y, if_pos (show i < st.S.length by omega)]
    · simp only [y, if_pos (show t < st.T.length by omega)]
    · simp only [y, if_pos (show i < st.M.length by omega)]
    · show (z.st.T ++ U)[t]? = _
      rw [getElem?_left ht]
      exact hk
  refine ⟨r, v, y, he, ⟨z.st, rfl, hq⟩, few_rep hmore hv (inB_rep hv), ?_, hstep, rfl⟩
  constructor
  · intro id cs t hid
    have hlt := (List.getElem?_eq_some_iff.1 hid).1
    by_cases hlt' : id < st.S.length
    · have hid' : z.st.S[id]? = some (cs, t) := by
        have : (z.st.S ++ B)[id]? = some (cs, t) := hid
        rwa [getElem?_left (by omega)] at this
      obtain ⟨us, h1, h2, h3⟩ := hgz.box id cs t hid'
      simp only [y, if_pos hlt']
      exact ⟨us, h1, few_reps hmore h2 (inBs_rep h2), h3⟩
    · have hid' : x.st.S[id]? = some (cs, t) := by
        have : (z.st.S ++ B)[id]? = some (cs, t) := hid
        rw [getElem?_right (by omega), l1] at this
        rw [hxS, getElem?_right (by omega)]
        exact this
      have hxl : id < x.st.S.length := by omega
      obtain ⟨us, h1, h2, h3⟩ := hg.box id cs t hid'
      have hb := hg.box_lt hxl
      have hno : ∀ t, t < st.T.length → x.pt t ≠ some (x.pb id) := fun t ht => ubox id _ hxl rfl t (by omega)
      simp only [y, if_neg hlt']
      refine ⟨us, ?_, h2.mono hstep, ?_⟩
      · rw [old _ hb (fun i hi e => ?_) hno]
        · exact h1
        · have := hg.inj i id (by omega) hxl e
          omega
      · rw [hs.fro _ hb hno]
        exact h3
  · intro i j h1 h2 e
    rw [yb i (by omega), yb j (by omega)] at e
    exact hg.inj i j (by omega) (by omega) e
  · intro t k b ht hb
    have hlt := (List.getElem?_eq_some_iff.1 ht).1
    by_cases hlt' : t < st.T.length
    · have ht' : z.st.T[t]? = some k := by
        have : (z.st.T ++ U)[t]? = some k := ht
        rwa [getElem?_left (by omega)] at this
      simp only [y, if_pos hlt'] at hb
      obtain ⟨g1, g2, g3, g4⟩ := hgz.tag t k b ht' hb
      have hxb := ptz t b hlt' hb
      refine ⟨g1, g2, fun i hi e => ?_, fun u hu he => ?_⟩
      · rw [yb i (by omega)] at e
        rcases hxb with hxb | hxb
        · exact ubox i b (by omega) e t (by omega) hxb
        · have := hg.box_lt (show i < x.st.S.length by omega)
          omega
      · by_cases hu' : u < st.T.length
        · simp only [y, if_pos hu'] at he
          exact g4 u (by omega) he
        · simp only [y, if_neg hu'] at he
          rcases hxb with hxb | hxb
          · exact (hg.tag t _ b (List.getElem?_eq_getElem (show t < x.st.T.length by omega)) hxb).2.2.2 u (by omega) he
          · have := hg.tag_lt (show u < x.st.T.length by omega) he
            omega
    · have ht' : x.st.T[t]? = some k := by
        have : (z.st.T ++ U)[t]? = some k := ht
        rw [getElem?_right (by omega), l2] at this
        rw [hxT, getElem?_right (by omega)]
        exact this
      simp only [y, if_neg hlt'] at hb
      obtain ⟨g1, g2, g3, g4⟩ := hg.tag t k b ht' hb
      have hno : ∀ u, u < st.T.length → x.pt u ≠ some b := fun u hu he => by
        have := g4 u (by omega) he
        omega
      refine ⟨Nat.lt_of_lt_of_le g1 hs.size, ?_, fun i hi e => ?_, fun u hu he => ?_⟩
      · show z.F b ≤ k
        rw [hs.fro b g1 hno]
        exact g2
      · rw [yb i (by omega)] at e
        exact g3 i (by omega) e
      · by_cases hu' : u < st.T.length
        · simp only [y, if_pos hu'] at he
          rcases ptz u b hu' he with hx1 | hx1
          · exact absurd hx1 (hno u hu')
          · omega
        · simp only [y, if_neg hu'] at he
          exact g4 u (by omega) he
  · intro id es hid
    have hlt := (List.getElem?_eq_some_iff.1 hid).1
    by_cases hlt' : id < st.M.length
    · have hid' : z.st.M[id]? = some es := by
        have : (z.st.M ++ N)[id]? = some es := hid
        rwa [getElem?_left (by omega)] at this
      obtain ⟨us, c, h1, h2, h3⟩ := hgz.map id es hid'
      simp only [y, if_pos hlt']
      exact ⟨us, c, h1, h2, fun i e k d he hk => ⟨(h3 i e k d he hk).1, few_repD hmore (h3 i e k d he hk).2 (inD_rep (h3 i e k d he hk).2)⟩⟩
    · have hid' : x.st.M[id]? = some es := by
        have : (z.st.M ++ N)[id]? = some es := hid
        rw [getElem?_right (by omega), l3] at this
        rw [hxM, getElem?_right (by omega)]
        exact this
      have hxl : id < x.st.M.length := by omega
      obtain ⟨us, c, h1, h2, h3⟩ := hg.map id es hid'
      have hb := hg.map_lt hxl
      simp only [y, if_neg hlt']
      refine ⟨us, c, ?_, h2, fun i e k d he hk => ⟨(h3 i e k d he hk).1, (h3 i e k d he hk).2.mono hstep.le⟩⟩
      rw [old _ hb (fun i hi e => hg.map_ne hxl (show i < x.st.S.length by omega) e.symm) (fun t ht he => hg.tmap t _ id (by omega) he hxl rfl)]
      exact h1
  · intro i j h1 h2 e
    rw [ym i (by omega), ym j (by omega)] at e
    exact hg.mapinj i j (by omega) (by omega) e
  · intro t b i h1 h2 h3
    rw [ym i (by omega)]
    by_cases hlt' : t < st.T.length
    · simp only [y, if_pos hlt'] at h2
      rcases ptz t b hlt' h2 with hx1 | hx1
      · exact hg.tmap t b i (by omega) hx1 (by omega)
      · have := hg.map_lt (show i < x.st.M.length by omega)
        omega
    · simp only [y, if_neg hlt'] at h2
      exact hg.tmap t b i (by omega) h2 (by omega)
end Go.Proofs.YtinffhimfoicdaaGreat.Calc

/- A calculus over the model's wp rules, part 18: maps. No conditions. -/
namespace Go.Proofs.YtinffhimfoicdaaGreat.Calc
open Go Go.RowKit
set_option linter.unusedVariables false

/-- A key of plain data. -/
def KeyV (P : Program) (k : TypeId) (v : Value) : Prop := ∃ l, keyOf P k v = some l
/-- A map more. -/
def mapped (x : Full) (w' : World) : Full :=
  ⟨⟨x.st.S, x.st.T, x.st.M ++ [[]]⟩, x.pb, x.pt, fun i => if i = x.st.M.length then x.w.heap.size else x.pm i, fun b => if b = x.w.heap.size then 0 else x.F b, w'⟩
theorem mapped_step {x : Full} {w' : World} {o : Obj} (hg : Good x) (h : Grown x.w w' o) : Step [] [] x (mapped x w') where
  os := h.os
  tape := h.tape
  output := h.output
  size := h.size
  frame := fun b hb _ _ _ => h.old hb
  keep := h.keep 0
  slen := Nat.le_refl _
  ids := fun _ _ => rfl
  fresh := fun i h1 h2 => by simp only [mapped] at h2; omega
  mlen := by simp [mapped]
  mids := fun i hi => if_neg (Nat.ne_of_lt hi)
  mfresh := fun i h1 h2 => by
    simp only [mapped, List.length_append, List.length_singleton] at h2 ⊢
    rw [if_pos (by omega)]
    exact Nat.le_refl _
  tags := fun u k hu => ⟨k, hu, Nat.le_refl _, fun _ => ⟨rfl, fun b hb => h.old (hg.tag u k b hu hb).1⟩, .inl rfl⟩
  tfresh := fun u b h1 h2 => by simp only [mapped] at h2; omega
  fro := fun b hb _ => if_neg (Nat.ne_of_lt hb)
theorem mapped_good {x : Full} {w' : World} {c : Nat} (hg : Good x) (h : Grown x.w w' (.map #[] c)) : Good (mapped x w') := by
  have hs := mapped_step hg h
  constructor
  · intro id cs t hid
    obtain ⟨us, h1, h2, h3⟩ := hg.box id cs t hid
    have hb := (Array.getElem?_eq_some_iff.1 h1).1
    refine ⟨us, (h.old hb).trans h1, h2.mono hs, ?_⟩
    simp only [mapped, if_neg (Nat.ne_of_lt hb)]
    exact h3
  · exact hg.inj
  · intro u k b hu hb
    obtain ⟨h1, h2, h3, h4⟩ := hg.tag u k b hu hb
    refine ⟨Nat.lt_of_lt_of_le h1 h.size, ?_, h3, h4⟩
    simp only [mapped, if_neg (Nat.ne_of_lt h1)]
    exact h2
  · intro id es hid
    simp only [mapped, List.getElem?_append] at hid
    split at hid
    · rename_i hlt
      obtain ⟨us, c, h1, h2, h3⟩ := hg.map id es hid
      refine ⟨us, c, ?_, h2, fun i e k y he hk => ?_⟩
      · simp only [mapped, if_neg (Nat.ne_of_lt hlt)]
        exact (h.old (Array.getElem?_eq_some_iff.1 h1).1).trans h1
      · obtain ⟨h4, h5⟩ := h3 i e k y he hk
        exact ⟨h4, h5.mono hs.le⟩
    · rename_i hlt
      have hid0 : id = x.st.M.length := by
        have := (List.getElem?_eq_some_iff.1 hid).1
        simp at this
        omega
      subst hid0
      simp only [Nat.sub_self, List.getElem?_cons_zero, Option.some.injEq] at hid
      subst hid
      refine ⟨#[], c, ?_, rfl, fun i e k y he hk => by simp at he⟩
      simp only [mapped, if_pos]
      exact h.new
  · intro i j hi hj e
    simp only [mapped, List.length_append, List.length_singleton] at hi hj e
    split at e <;> split at e
    · omega
    · have := hg.map_lt (show j < x.st.M.length by omega)
      omega
    · have := hg.map_lt (show i < x.st.M.length by omega)
      omega
    · exact hg.mapinj i j (by omega) (by omega) e
  · intro t b i ht hb hi
    simp only [mapped, List.length_append, List.length_singleton] at hi ⊢
    split
    · have := hg.tag_lt ht hb
      omega
    · exact hg.tmap t b i ht hb (by omega)
/-- A map is written. -/
structure TurnedM (w w' : World) (g : Nat) (vs : Array MapEntry) (c : Nat) : Prop where
  os : w'.os = w.os
  tape : w'.tape = w.tape
  output : w'.output = w.output
  size : w'.heap.size = w.heap.size
  old : ∀ b, b ≠ g → w'.heap[b]? = w.heap[b]?
  new : w'.heap[g]? = some (.map vs c)
theorem set_turnedM {w : World} {g c c' : Nat} {vs vs' : Array MapEntry} (h : w.heap[g]? = some (.map vs c)) : TurnedM w { w with heap := w.heap.setIfInBounds g (.map vs' c') } g vs' c' where
  os := rfl
  tape := rfl
  output := rfl
  size := by simp
  old := fun b hb => by
    show (w.heap.setIfInBounds g _)[b]? = _
    rw [Array.getElem?_setIfInBounds, if_neg (fun e => hb e.symm)]
  new := by
    show (w.heap.setIfInBounds g _)[g]? = _
    rw [Array.getElem?_setIfInBounds_self, if_pos (Array.getElem?_eq_some_iff.1 h).1]
def wroteM (x : Full) (w' : World) (id : Nat) (es : List (Value × DV)) : Full :=
  ⟨⟨x.st.S, x.st.T, x.st.M.set id es⟩, x.pb, x.pt, x.pm, x.F, w'⟩
theorem writeM_step {x : Full} {w' : World} {id c : Nat} {es : List (Value × DV)} {vs : Array MapEntry} (hg : Good x) (hid : id < x.st.M.length) (h : TurnedM x.w w' (x.pm id) vs c) : Step [] [id] x (wroteM x w' id es) where
  os := h.os
  tape := h.tape
  output := h.output
  size := Nat.le_of_eq h.size.symm
  frame := fun b _ _ h1 _ => h.old b (fun e => h1 id (by simp) hid e.symm)
  keep := fun b i u hi hc => by
    refine ⟨hi, (cell_congr (h.old b (fun e => ?_)) i).trans hc⟩
    subst e
    obtain ⟨_, _, h1, _⟩ := hg.map id _ (List.getElem?_eq_getElem hid)
    simp [World.cell?, h1] at hc
  slen := Nat.le_refl _
  ids := fun _ _ => rfl
  fresh := fun i h1 h2 => by simp only [wroteM] at h2; omega
  mlen := by simp [wroteM]
  mids := fun _ _ => rfl
  mfresh := fun i h1 h2 => by simp only [wroteM, List.length_set] at h2; omega
  tags := fun u k hu => ⟨k, hu, Nat.le_refl _, fun _ => ⟨rfl, fun b hb => h.old b (fun e => hg.tmap u b id (List.getElem?_eq_some_iff.1 hu).1 hb hid e.symm)⟩, .inl rfl⟩
  tfresh := fun u b h1 h2 => by simp only [wroteM] at h2; omega
  fro := fun _ _ _ => rfl
theorem writeM_good {x : Full} {w' : World} {id c : Nat} {es : List (Value × DV)} {vs : Array MapEntry} (hg : Good x) (hid : id < x.st.M.length) (h : TurnedM x.w w' (x.pm id) vs c) (hl : vs.toList.length = es.length)
    (hv : ∀ (i : Nat) (e : MapEntry) k y, vs.toList[i]? = some e → es[i]? = some (k, y) → e.key = k ∧ RepD x y e.val) : Good (wroteM x w' id es) := by
  have hs := writeM_step (es := es) hg hid h
  constructor
  · intro i cs t hi
    obtain ⟨us, h1, h2, h3⟩ := hg.box i cs t hi
    have hi' := (List.getElem?_eq_some_iff.1 hi).1
    exact ⟨us, (h.old _ (fun he => hg.map_ne hid hi' he.symm)).trans h1, h2.mono hs, h3⟩
  · exact hg.inj
  · intro u k b hu hb
    obtain ⟨h1, h2, h3, h4⟩ := hg.tag u k b hu hb
    exact ⟨by simp only [wroteM]; rw [h.size]; exact h1, h2, h3, h4⟩
  · intro i es' hi
    simp only [wroteM, List.getElem?_set] at hi
    split at hi
    · rename_i e
      subst e
      simp only [Option.some.injEq] at hi
      obtain ⟨_, rfl⟩ := hi
      refine ⟨vs, c, h.new, hl, fun i e k y he hk => ?_⟩
      obtain ⟨h4, h5⟩ := hv i e k y he hk
      exact ⟨h4, h5.mono hs.le⟩
    · rename_i e
      obtain ⟨us, c', h1, h2, h3⟩ := hg.map i es' hi
      have hi' := (List.getElem?_eq_some_iff.1 hi).1
      refine ⟨us, c', (h.old _ (fun he => e (hg.mapinj i id hi' hid he).symm)).trans h1, h2, fun j e k y he hk => ?_⟩
      obtain ⟨h4, h5⟩ := h3 j e k y he hk
      exact ⟨h4, h5.mono hs.le⟩
  · intro i j hi hj e
    simp only [wroteM, List.length_set] at hi hj e
    exact hg.mapinj i j hi hj e
  · intro t b i ht hb hi
    simp only [wroteM, List.length_set] at hi
    exact hg.tmap t b i ht hb hi

/-- A key's value. -/
def keysB : List BV → Option (List Value)
  | [] => some []
  | .d (.flat v) :: l => (keysB l).map (v :: ·)
  | _ :: _ => none
def keyB : BV → Option Value
  | .d (.flat v) => some v
  | .agg l => (keysB l).map fun l => .agg l.toArray
  | _ => none
theorem keysB_rep {x : Full} : ∀ {l : List BV} {vs kv : List Value}, RepBs x l vs → keysB l = some kv → vs = kv
  | _, _, _, .nil, hk => Option.some.inj hk
  | _, _, _, .cons y v l vs h hs, hk => by
    unfold keysB at hk
    split at hk
    · rename_i e; cases e
    · rename_i e
      injection e with e1 e2
      subst e1 e2
      obtain ⟨l', h1, h2⟩ := Option.map_eq_some_iff.1 hk
      cases h with
      | d _ _ h => cases h with
        | flat _ _ => rw [← h2, keysB_rep hs h1]
    · cases hk
theorem keyB_rep {x : Full} {b : BV} {v kv : Value} (h : RepB x b v) (hk : keyB b = some kv) : v = kv := by
  unfold keyB at hk
  split at hk
  · cases h with
    | d _ _ h => cases h with
      | flat _ _ => exact Option.some.inj hk
  · obtain ⟨l', h1, h2⟩ := Option.map_eq_some_iff.1 hk
    cases h with
    | agg _ vs h => rw [← h2, keysB_rep h h1]
  · cases hk
theorem find_map {P : Program} {k : TypeId} (K : WideMaps.KeyLaw P k) {y : Full} (hg : Good y) {id : Nat} {es : List (Value × DV)} (hM : y.st.M[id]? = some es) (hks : ∀ p ∈ es, KeyV P k p.1) {kv : Value} (hkv : KeyV P k kv) :
    ∃ vs c, y.w.heap[y.pm id]? = some (.map vs c) ∧ vs.toList.length = es.length ∧ (∀ (i : Nat) (e : MapEntry) k y', vs.toList[i]? = some e → es[i]? = some (k, y') → e.key = k ∧ RepD y y' e.val) ∧
      (((Instr.findKey k kv vs.toList).run P y.w = .ok none y.w ∧ ∀ p ∈ es, p.1 ≠ kv) ∨ ∃ j e d, (Instr.findKey k kv vs.toList).run P y.w = .ok (some (j, e.val)) y.w ∧ vs.toList[j]? = some e ∧ e.key = kv ∧ es[j]? = some (kv, d) ∧ RepD y d e.val) := by
  obtain ⟨vs, c, h1, h2, h3⟩ := hg.map id es hM
  obtain ⟨l, hl⟩ := hkv
  have hall : ∀ e ∈ vs.toList, ∃ l, keyOf P k e.key = some l := fun e he => by
    obtain ⟨i, hi, rfl⟩ := List.getElem_of_mem he
    have hi' : i < es.length := by rw [← h2]; exact hi
    obtain ⟨h4, _⟩ := h3 i _ (es[i]).1 (es[i]).2 (List.getElem?_eq_getElem hi) (List.getElem?_eq_getElem hi')
    rw [h4]
    exact hks _ (List.getElem_mem hi')
  refine ⟨vs, c, h1, h2, h3, ?_⟩
  rcases K.find y.w hl vs.toList hall with ⟨g1, g2⟩ | ⟨j, e, g1, g2, g3⟩
  · refine .inl ⟨g1, fun p hp => ?_⟩
    obtain ⟨i, hi, rfl⟩ := List.getElem_of_mem hp
    have hi' : i < vs.toList.length := by rw [h2]; exact hi
    obtain ⟨h4, _⟩ := h3 i _ (es[i]).1 (es[i]).2 (List.getElem?_eq_getElem hi') (List.getElem?_eq_getElem hi)
    rw [← h4]
    exact g2 _ (List.getElem_mem hi')
  · have hj := (List.getElem?_eq_some_iff.1 g2).1
    have hj' : j < es.length := by rw [← h2]; exact hj
    have he : es[j]? = some ((es[j]).1, (es[j]).2) := List.getElem?_eq_getElem hj'
    obtain ⟨h4, h5⟩ := h3 j e _ _ g2 he
    rw [← h4, g3] at he
    exact .inr ⟨j, e, _, g1, g2, g3, he, h5⟩
/-- What a look into a map yields. -/
def lkB (commaOk : Bool) (b : BV) (ok : Bool) : BV := if commaOk = true then .tup [b, .d (.flat (.bool ok))] else b
theorem lkB_rep {x : Full} {b : BV} {v : Value} (h : RepB x b v) (c ok : Bool) : RepB x (lkB c b ok) (if c = true then .tuple #[v, .bool ok] else v) := by
  unfold lkB
  cases c
  · exact h
  · exact .tup _ [v, .bool ok] (.cons _ _ _ _ h (.cons _ _ _ _ (.d _ _ (.flat _ rfl)) .nil))
section
variable {P : Program} {ok okm : Nat → Bool} {o : Oper} {ρ : Rg} {st : St} {Q : Rg → St → Prop} {t : Nat} {k e : TypeId} {x i v : Operand} {b : Bool}
theorem opR_look {sz id : Nat} {z : List BV} {es : List (Value × DV)} {kv : Value} (ho : o.op = .lookup t x i b) (hm : P.underlying t = some (.map k e)) (K : WideMaps.KeyLaw P k) (ht : tyOf P e = some (true, sz, z)) (hx : evB ρ x = some (.d (.map id)))
    (hi : (evB ρ i).bind keyB = some kv) (hkv : KeyV P k kv) (hM : st.M[id]? = some es) (hks : ∀ p ∈ es, KeyV P k p.1)
    (hN : (∀ p ∈ es, p.1 ≠ kv) → Q (updO ρ o.dst (lkB b (.agg z) false)) st) (hS : ∀ (j : Nat) (d : DV), es[j]? = some (kv, d) → Q (updO ρ o.dst (lkB b (ofD d) true)) st) : OpR P ok okm o ρ st Q := by
  intro nt y a Kx h1 h2 h3 h4
  subst h1
  obtain ⟨bi, hb1, hb2⟩ := Option.bind_eq_some_iff.1 hi
  have hik := keyB_rep (h3.ev hb1) hb2
  have hrx := h3.ev hx
  generalize hw : a.eval x = vx at hrx
  have hkv0 := hkv
  obtain ⟨l, hl⟩ := hkv0
  obtain ⟨dd, ii, zz, g1, g2, g3, _, _, g6, g7⟩ := tyOf_some ht
  obtain ⟨cz, rfl⟩ : ∃ c : Array Value, zz = .agg c := by
    cases zz <;> simp [aggV] at g7
    exact ⟨_, rfl⟩
  have hz : RepB y (.agg z) (.agg cz) := by
    have := RepB.agg _ _ (cellsB_rep (x := y) g6)
    simpa [Value.cells] using this
  cases hrx with
  | d _ _ hd => cases hd with
    | map _ hlt =>
      obtain ⟨vs, c, q1, q2, q3, q4⟩ := find_map K h2 hM hks hkv
      unfold Oper.wp
      rcases q4 with ⟨q4, q5⟩ | ⟨j, en, d, q4, q5, q6, q7, q8⟩
      · have hrun : (execOp a.eval o).run P y.w = .ok (.value (if b = true then .tuple #[.agg cz, .bool false] else .agg cz)) y.w := by
          obtain ⟨dst, op, type, pos, after, guard⟩ := o
          subst ho
          simp only [execOp, hw, hik]
          simp [Instr.lookup, run_underlying hm, MapKept.run_getObj_map q1, K.check y.w _ hl, q4, run_zero g2 g3, Result.andThen]
        rw [hrun]
        exact ⟨_, y, [], [], rfl, hN q5, h2, Step.refl _ _ _, by simp, by simp, h3.put h4 (lkB_rep hz b false)⟩
      · have hrun : (execOp a.eval o).run P y.w = .ok (.value (if b = true then .tuple #[en.val, .bool true] else en.val)) y.w := by
          obtain ⟨dst, op, type, pos, after, guard⟩ := o
          subst ho
          simp only [execOp, hw, hik]
          simp [Instr.lookup, run_underlying hm, MapKept.run_getObj_map q1, K.check y.w _ hl, q4, Result.andThen]
        rw [hrun]
        exact ⟨_, y, [], [], rfl, hS j d q7, h2, Step.refl _ _ _, by simp, by simp, h3.put h4 (lkB_rep (ofD_rep q8) b true)⟩
end
end Go.Proofs.YtinffhimfoicdaaGreat.Calc
