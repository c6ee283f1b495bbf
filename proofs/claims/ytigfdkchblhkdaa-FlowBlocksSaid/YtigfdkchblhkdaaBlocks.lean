/- FlowBlocks walked: so many blocks around a return. No conditions. -/
import Derived.Test.YtigfdkchblhkdaaTold
import Derived.Deep.RegionWith
namespace Go.Proofs.Ytigfdkchblhkdaa
open Go.RowKit Go.Proofs.YtigfdkchblhkdaaW.PrintWords Go.Proofs.YtigfdkchblhkdaaW.PrintLast Go.Proofs.YtigfdkchblhkdaaW.PrintMore Go.Proofs.Ytigfdkchblhkdaa.Q

def aE : S27 := ⟨6, 0, EM, ⟨#[97]⟩, EM, [], EM, 0⟩
/-- What stands around the return behind i blocks. -/
def blkT (both : Bool) : Nat → S29
  | 0 => backS
  | i + 1 => if i % 3 = 2 then ⟨10, 0, ⟨#[69, 120, 99, 101, 112, 116, 105, 111, 110]⟩, ⟨#[101]⟩, [], [blkT both i], [blkT both i], [], 0⟩
    else ⟨4, 0, EM, EM, [aE], [blkT both i], if both = true then [blkT both i] else [], [], 0⟩

theorem few_blocks (n : Int) : ∃ k : Nat, k < 9 ∧ wrap64 (Int.tmod (IntKind.u64.wrap n) 9) = (k : Int) := by
  have u0 : 0 ≤ IntKind.u64.wrap n := by rw [IntKind.wrap_u64]; exact Int.emod_nonneg _ (by decide)
  have p0 := Int.tmod_nonneg 9 u0
  have p1 := Int.tmod_lt_of_pos (IntKind.u64.wrap n) (show (0 : Int) < 9 by decide)
  refine ⟨(Int.tmod (IntKind.u64.wrap n) 9).toNat, ?_, ?_⟩
  · omega
  · rw [IntWalk.wrap64_in _ (by omega)]; omega

theorem row_both {wr : World} {ad : Addr} {x : S29} (hC : k29.C wr (some ad) 1 [x]) :
    k29.C (((wr.alloc (.cells #[.int .i64 6, .int .i32 0, .string { data := #[] }, .string { data := #[97] }, .string { data := #[] }, .slice none 0 0, .string { data := #[] }, .int .i64 0] 27)).alloc (.cells #[.int .i64 4, .int .i32 0, .string { data := #[] }, .string { data := #[] }, .slice (some { block := wr.heap.size, off := 0 }) 1 1, .slice (some ad) 1 1, .slice (some ad) 1 1, .slice none 0 0, .int .i64 0] 29)).alloc (.cells #[.int .i64 4, .int .i32 0, .string { data := #[] }, .string { data := #[] }, .slice (some { block := wr.heap.size, off := 0 }) 1 1, .slice (some ad) 1 1, .slice (some ad) 1 1, .slice none 0 0, .int .i64 0] 29)) (some ⟨wr.heap.size + 1 + 1, 0, none⟩) 1 [⟨4, 0, EM, EM, [aE], [x], [x], [], 0⟩] := by
  have hB : Below wr.heap.size wr (((wr.alloc (.cells #[.int .i64 6, .int .i32 0, .string { data := #[] }, .string { data := #[97] }, .string { data := #[] }, .slice none 0 0, .string { data := #[] }, .int .i64 0] 27)).alloc (.cells #[.int .i64 4, .int .i32 0, .string { data := #[] }, .string { data := #[] }, .slice (some { block := wr.heap.size, off := 0 }) 1 1, .slice (some ad) 1 1, .slice (some ad) 1 1, .slice none 0 0, .int .i64 0] 29)).alloc (.cells #[.int .i64 4, .int .i32 0, .string { data := #[] }, .string { data := #[] }, .slice (some { block := wr.heap.size, off := 0 }) 1 1, .slice (some ad) 1 1, .slice (some ad) 1 1, .slice none 0 0, .int .i64 0] 29)) := below_alloc (below_alloc (below_alloc (Below.refl _ _) _) _) _
  have hE : (((wr.alloc (.cells #[.int .i64 6, .int .i32 0, .string { data := #[] }, .string { data := #[97] }, .string { data := #[] }, .slice none 0 0, .string { data := #[] }, .int .i64 0] 27)).alloc (.cells #[.int .i64 4, .int .i32 0, .string { data := #[] }, .string { data := #[] }, .slice (some { block := wr.heap.size, off := 0 }) 1 1, .slice (some ad) 1 1, .slice (some ad) 1 1, .slice none 0 0, .int .i64 0] 29)).alloc (.cells #[.int .i64 4, .int .i32 0, .string { data := #[] }, .string { data := #[] }, .slice (some { block := wr.heap.size, off := 0 }) 1 1, .slice (some ad) 1 1, .slice (some ad) 1 1, .slice none 0 0, .int .i64 0] 29)).heap[wr.heap.size]? = some (.cells #[.int .i64 6, .int .i32 0, .string { data := #[] }, .string { data := #[97] }, .string { data := #[] }, .slice none 0 0, .string { data := #[] }, .int .i64 0] 27) := blk_alloc (blk_alloc (heap_alloc_new _ _) _) _
  have aK : k27.K (((wr.alloc (.cells #[.int .i64 6, .int .i32 0, .string { data := #[] }, .string { data := #[97] }, .string { data := #[] }, .slice none 0 0, .string { data := #[] }, .int .i64 0] 27)).alloc (.cells #[.int .i64 4, .int .i32 0, .string { data := #[] }, .string { data := #[] }, .slice (some { block := wr.heap.size, off := 0 }) 1 1, .slice (some ad) 1 1, .slice (some ad) 1 1, .slice none 0 0, .int .i64 0] 29)).alloc (.cells #[.int .i64 4, .int .i32 0, .string { data := #[] }, .string { data := #[] }, .slice (some { block := wr.heap.size, off := 0 }) 1 1, .slice (some ad) 1 1, .slice (some ad) 1 1, .slice none 0 0, .int .i64 0] 29)) aE [.int .i64 6, .int .i32 0, .string { data := #[] }, .string { data := #[97] }, .string { data := #[] }, .slice none 0 0, .string { data := #[] }, .int .i64 0] := k27_mk _ aE (A5 := none) (c5 := 0) (Nat.le_refl _) (Kd.C_nil _ _)
  have hL := heap_alloc_new ((wr.alloc (.cells #[.int .i64 6, .int .i32 0, .string { data := #[] }, .string { data := #[97] }, .string { data := #[] }, .slice none 0 0, .string { data := #[] }, .int .i64 0] 27)).alloc (.cells #[.int .i64 4, .int .i32 0, .string { data := #[] }, .string { data := #[] }, .slice (some { block := wr.heap.size, off := 0 }) 1 1, .slice (some ad) 1 1, .slice (some ad) 1 1, .slice none 0 0, .int .i64 0] 29)) (.cells #[.int .i64 4, .int .i32 0, .string { data := #[] }, .string { data := #[] }, .slice (some { block := wr.heap.size, off := 0 }) 1 1, .slice (some ad) 1 1, .slice (some ad) 1 1, .slice none 0 0, .int .i64 0] 29)
  rw [show ((wr.alloc (.cells #[.int .i64 6, .int .i32 0, .string { data := #[] }, .string { data := #[97] }, .string { data := #[] }, .slice none 0 0, .string { data := #[] }, .int .i64 0] 27)).alloc (.cells #[.int .i64 4, .int .i32 0, .string { data := #[] }, .string { data := #[] }, .slice (some { block := wr.heap.size, off := 0 }) 1 1, .slice (some ad) 1 1, .slice (some ad) 1 1, .slice none 0 0, .int .i64 0] 29)).heap.size = wr.heap.size + 1 + 1 by simp] at hL
  exact C_one k29 (k29_mk _ ⟨4, 0, EM, EM, [aE], [x], [x], [], 0⟩ (A4 := some _) (c4 := 1) (Nat.le_refl _) (C_one k27 aK (cells_of hE rfl)) (A5 := some ad) (c5 := 1) (Nat.le_refl _) (Kd.C_below hC hB) (A6 := some ad) (c6 := 1) (Nat.le_refl _) (Kd.C_below hC hB) (A7 := none) (c7 := 0) (Nat.le_refl _) (Kd.C_nil _ _)) (cells_of hL rfl)
theorem row_one {wr : World} {ad : Addr} {x : S29} (hC : k29.C wr (some ad) 1 [x]) :
    k29.C (((wr.alloc (.cells #[.int .i64 6, .int .i32 0, .string { data := #[] }, .string { data := #[97] }, .string { data := #[] }, .slice none 0 0, .string { data := #[] }, .int .i64 0] 27)).alloc (.cells #[.int .i64 4, .int .i32 0, .string { data := #[] }, .string { data := #[] }, .slice (some { block := wr.heap.size, off := 0 }) 1 1, .slice (some ad) 1 1, .slice none 0 0, .slice none 0 0, .int .i64 0] 29)).alloc (.cells #[.int .i64 4, .int .i32 0, .string { data := #[] }, .string { data := #[] }, .slice (some { block := wr.heap.size, off := 0 }) 1 1, .slice (some ad) 1 1, .slice none 0 0, .slice none 0 0, .int .i64 0] 29)) (some ⟨wr.heap.size + 1 + 1, 0, none⟩) 1 [⟨4, 0, EM, EM, [aE], [x], [], [], 0⟩] := by
  have hB : Below wr.heap.size wr (((wr.alloc (.cells #[.int .i64 6, .int .i32 0, .string { data := #[] }, .string { data := #[97] }, .string { data := #[] }, .slice none 0 0, .string { data := #[] }, .int .i64 0] 27)).alloc (.cells #[.int .i64 4, .int .i32 0, .string { data := #[] }, .string { data := #[] }, .slice (some { block := wr.heap.size, off := 0 }) 1 1, .slice (some ad) 1 1, .slice none 0 0, .slice none 0 0, .int .i64 0] 29)).alloc (.cells #[.int .i64 4, .int .i32 0, .string { data := #[] }, .string { data := #[] }, .slice (some { block := wr.heap.size, off := 0 }) 1 1, .slice (some ad) 1 1, .slice none 0 0, .slice none 0 0, .int .i64 0] 29)) := below_alloc (below_alloc (below_alloc (Below.refl _ _) _) _) _
  have hE : (((wr.alloc (.cells #[.int .i64 6, .int .i32 0, .string { data := #[] }, .string { data := #[97] }, .string { data := #[] }, .slice none 0 0, .string { data := #[] }, .int .i64 0] 27)).alloc (.cells #[.int .i64 4, .int .i32 0, .string { data := #[] }, .string { data := #[] }, .slice (some { block := wr.heap.size, off := 0 }) 1 1, .slice (some ad) 1 1, .slice none 0 0, .slice none 0 0, .int .i64 0] 29)).alloc (.cells #[.int .i64 4, .int .i32 0, .string { data := #[] }, .string { data := #[] }, .slice (some { block := wr.heap.size, off := 0 }) 1 1, .slice (some ad) 1 1, .slice none 0 0, .slice none 0 0, .int .i64 0] 29)).heap[wr.heap.size]? = some (.cells #[.int .i64 6, .int .i32 0, .string { data := #[] }, .string { data := #[97] }, .string { data := #[] }, .slice none 0 0, .string { data := #[] }, .int .i64 0] 27) := blk_alloc (blk_alloc (heap_alloc_new _ _) _) _
  have aK : k27.K (((wr.alloc (.cells #[.int .i64 6, .int .i32 0, .string { data := #[] }, .string { data := #[97] }, .string { data := #[] }, .slice none 0 0, .string { data := #[] }, .int .i64 0] 27)).alloc (.cells #[.int .i64 4, .int .i32 0, .string { data := #[] }, .string { data := #[] }, .slice (some { block := wr.heap.size, off := 0 }) 1 1, .slice (some ad) 1 1, .slice none 0 0, .slice none 0 0, .int .i64 0] 29)).alloc (.cells #[.int .i64 4, .int .i32 0, .string { data := #[] }, .string { data := #[] }, .slice (some { block := wr.heap.size, off := 0 }) 1 1, .slice (some ad) 1 1, .slice none 0 0, .slice none 0 0, .int .i64 0] 29)) aE [.int .i64 6, .int .i32 0, .string { data := #[] }, .string { data := #[97] }, .string { data := #[] }, .slice none 0 0, .string { data := #[] }, .int .i64 0] := k27_mk _ aE (A5 := none) (c5 := 0) (Nat.le_refl _) (Kd.C_nil _ _)
  have hL := heap_alloc_new ((wr.alloc (.cells #[.int .i64 6, .int .i32 0, .string { data := #[] }, .string { data := #[97] }, .string { data := #[] }, .slice none 0 0, .string { data := #[] }, .int .i64 0] 27)).alloc (.cells #[.int .i64 4, .int .i32 0, .string { data := #[] }, .string { data := #[] }, .slice (some { block := wr.heap.size, off := 0 }) 1 1, .slice (some ad) 1 1, .slice none 0 0, .slice none 0 0, .int .i64 0] 29)) (.cells #[.int .i64 4, .int .i32 0, .string { data := #[] }, .string { data := #[] }, .slice (some { block := wr.heap.size, off := 0 }) 1 1, .slice (some ad) 1 1, .slice none 0 0, .slice none 0 0, .int .i64 0] 29)
  rw [show ((wr.alloc (.cells #[.int .i64 6, .int .i32 0, .string { data := #[] }, .string { data := #[97] }, .string { data := #[] }, .slice none 0 0, .string { data := #[] }, .int .i64 0] 27)).alloc (.cells #[.int .i64 4, .int .i32 0, .string { data := #[] }, .string { data := #[] }, .slice (some { block := wr.heap.size, off := 0 }) 1 1, .slice (some ad) 1 1, .slice none 0 0, .slice none 0 0, .int .i64 0] 29)).heap.size = wr.heap.size + 1 + 1 by simp] at hL
  exact C_one k29 (k29_mk _ ⟨4, 0, EM, EM, [aE], [x], [], [], 0⟩ (A4 := some _) (c4 := 1) (Nat.le_refl _) (C_one k27 aK (cells_of hE rfl)) (A5 := some ad) (c5 := 1) (Nat.le_refl _) (Kd.C_below hC hB) (A6 := none) (c6 := 0) (Nat.le_refl _) (Kd.C_nil _ _) (A7 := none) (c7 := 0) (Nat.le_refl _) (Kd.C_nil _ _)) (cells_of hL rfl)
theorem row_try {wr : World} {ad : Addr} {x : S29} (hC : k29.C wr (some ad) 1 [x]) :
    k29.C (((wr.alloc (.cells #[.int .i64 6, .int .i32 0, .string { data := #[] }, .string { data := #[97] }, .string { data := #[] }, .slice none 0 0, .string { data := #[] }, .int .i64 0] 27)).alloc (.cells #[.int .i64 10, .int .i32 0, .string { data := #[69, 120, 99, 101, 112, 116, 105, 111, 110] }, .string { data := #[101] }, .slice none 0 0, .slice (some ad) 1 1, .slice (some ad) 1 1, .slice none 0 0, .int .i64 0] 29)).alloc (.cells #[.int .i64 10, .int .i32 0, .string { data := #[69, 120, 99, 101, 112, 116, 105, 111, 110] }, .string { data := #[101] }, .slice none 0 0, .slice (some ad) 1 1, .slice (some ad) 1 1, .slice none 0 0, .int .i64 0] 29)) (some ⟨wr.heap.size + 1 + 1, 0, none⟩) 1 [⟨10, 0, ⟨#[69, 120, 99, 101, 112, 116, 105, 111, 110]⟩, ⟨#[101]⟩, [], [x], [x], [], 0⟩] := by
  have hB : Below wr.heap.size wr (((wr.alloc (.cells #[.int .i64 6, .int .i32 0, .string { data := #[] }, .string { data := #[97] }, .string { data := #[] }, .slice none 0 0, .string { data := #[] }, .int .i64 0] 27)).alloc (.cells #[.int .i64 10, .int .i32 0, .string { data := #[69, 120, 99, 101, 112, 116, 105, 111, 110] }, .string { data := #[101] }, .slice none 0 0, .slice (some ad) 1 1, .slice (some ad) 1 1, .slice none 0 0, .int .i64 0] 29)).alloc (.cells #[.int .i64 10, .int .i32 0, .string { data := #[69, 120, 99, 101, 112, 116, 105, 111, 110] }, .string { data := #[101] }, .slice none 0 0, .slice (some ad) 1 1, .slice (some ad) 1 1, .slice none 0 0, .int .i64 0] 29)) := below_alloc (below_alloc (below_alloc (Below.refl _ _) _) _) _
  have hL := heap_alloc_new ((wr.alloc (.cells #[.int .i64 6, .int .i32 0, .string { data := #[] }, .string { data := #[97] }, .string { data := #[] }, .slice none 0 0, .string { data := #[] }, .int .i64 0] 27)).alloc (.cells #[.int .i64 10, .int .i32 0, .string { data := #[69, 120, 99, 101, 112, 116, 105, 111, 110] }, .string { data := #[101] }, .slice none 0 0, .slice (some ad) 1 1, .slice (some ad) 1 1, .slice none 0 0, .int .i64 0] 29)) (.cells #[.int .i64 10, .int .i32 0, .string { data := #[69, 120, 99, 101, 112, 116, 105, 111, 110] }, .string { data := #[101] }, .slice none 0 0, .slice (some ad) 1 1, .slice (some ad) 1 1, .slice none 0 0, .int .i64 0] 29)
  rw [show ((wr.alloc (.cells #[.int .i64 6, .int .i32 0, .string { data := #[] }, .string { data := #[97] }, .string { data := #[] }, .slice none 0 0, .string { data := #[] }, .int .i64 0] 27)).alloc (.cells #[.int .i64 10, .int .i32 0, .string { data := #[69, 120, 99, 101, 112, 116, 105, 111, 110] }, .string { data := #[101] }, .slice none 0 0, .slice (some ad) 1 1, .slice (some ad) 1 1, .slice none 0 0, .int .i64 0] 29)).heap.size = wr.heap.size + 1 + 1 by simp] at hL
  exact C_one k29 (k29_mk _ ⟨10, 0, ⟨#[69, 120, 99, 101, 112, 116, 105, 111, 110]⟩, ⟨#[101]⟩, [], [x], [x], [], 0⟩ (A4 := none) (c4 := 0) (Nat.le_refl _) (Kd.C_nil _ _) (A5 := some ad) (c5 := 1) (Nat.le_refl _) (Kd.C_below hC hB) (A6 := some ad) (c6 := 1) (Nat.le_refl _) (Kd.C_below hC hB) (A7 := none) (c7 := 0) (Nat.le_refl _) (Kd.C_nil _ _)) (cells_of hL rfl)

theorem blk_pass : ∀ (both : Bool) (j : Fin 9), flow_Passes.f 12 [blkT both j.val] = some (!(both || decide (j.val = 0))) := by decide +kernel
theorem blk_check (both : Bool) (j : Nat) (hj : j < 9) : flow_Check.f 12 false false (⟨#[105, 110, 116]⟩ : ByteArray) (⟨#[]⟩ : ByteArray) [] [blkT both j] = some (both || decide (j = 0)) := by
  unfold flow_Check.f
  rw [if_neg (by decide), if_neg (by decide +kernel), blk_pass both ⟨j, hj⟩]
  simp
set_option maxHeartbeats 40000000 in
set_option maxRecDepth 100000 in
theorem blocks_calls (n : Int) (both : Bool) (w : World) : Calls Try.prog 4 #[.int .i64 n, .bool both] w (RetB true w) := by
  obtain ⟨k, hk, ek⟩ := few_blocks n
  have Ek := Lib.hid ek
  clear ek
  have HB0 : Below w.heap.size w (w.alloc (.cells #[.int .i64 6, .int .i32 0, .string { data := #[] }, .string { data := #[] }, .slice none 0 0, .slice none 0 0, .slice none 0 0, .slice none 0 0, .int .i64 0] 29)) := (Below.refl _ _).alloc (Nat.le_refl _) _
  have C0 : Hid (k29.C (w.alloc (.cells #[.int .i64 6, .int .i32 0, .string { data := #[] }, .string { data := #[] }, .slice none 0 0, .slice none 0 0, .slice none 0 0, .slice none 0 0, .int .i64 0] 29)) (some ⟨w.heap.size, 0, none⟩) 1 [blkT both 0]) := Lib.hid (C_one k29 (backK _) (cells_of (heap_alloc_new _ _) rfl))
  go_enter Try.func4, Try.ntmps4
  go_wp2
  rw [Ek.out]
  go_loopw [6, 7] (fun vl vk wr => ∃ (j : Nat) (ad : Addr), j ≤ k ∧ vk = .int .i64 j ∧ vl = .slice (some ad) 1 1 ∧ Hid (k29.C wr (some ad) 1 [blkT both j]) ∧ Below w.heap.size w wr) (fun _ vk _ => k - (intOf vk).toNat)
  case atStart => exact ⟨0, _, Nat.zero_le _, rfl, rfl, C0, HB0⟩
  case round =>
    obtain ⟨j, ad, hj, rfl, rfl, HC, HB⟩ := hrel
    clear C0 HB0
    by_cases hlt : j < k
    · cases both with
      | true =>
        by_cases h3 : j % 3 = 2
        · have h3' : ((j : Int) % 3 == 2) = true := beq_iff_eq.2 (by omega)
          go_wp2
          refine ⟨⟨j + 1, _, by omega, by go_num, rfl, Lib.hid ?_, below_alloc (below_alloc (below_alloc HB _) _) _⟩, by simp [intOf]; omega⟩
          rw [blkT, if_pos h3]
          exact row_try HC.out
        · have h3' : ((j : Int) % 3 == 2) = false := beq_eq_false_iff_ne.2 (by omega)
          go_wp2
          refine ⟨⟨j + 1, _, by omega, by go_num, rfl, Lib.hid ?_, below_alloc (below_alloc (below_alloc HB _) _) _⟩, by simp [intOf]; omega⟩
          rw [blkT, if_neg h3, if_pos rfl]
          exact row_both HC.out
      | false =>
        by_cases h3 : j % 3 = 2
        · have h3' : ((j : Int) % 3 == 2) = true := beq_iff_eq.2 (by omega)
          go_wp2
          refine ⟨⟨j + 1, _, by omega, by go_num, rfl, Lib.hid ?_, below_alloc (below_alloc (below_alloc HB _) _) _⟩, by simp [intOf]; omega⟩
          rw [blkT, if_pos h3]
          exact row_try HC.out
        · have h3' : ((j : Int) % 3 == 2) = false := beq_eq_false_iff_ne.2 (by omega)
          go_wp2
          refine ⟨⟨j + 1, _, by omega, by go_num, rfl, Lib.hid ?_, below_alloc (below_alloc (below_alloc HB _) _) _⟩, by simp [intOf]; omega⟩
          rw [blkT, if_neg h3, if_neg (by decide)]
          exact row_one HC.out
    · obtain rfl : j = k := by omega
      have HBm := below_alloc HB (.cells #[.bool false, .bool false, .string { data := #[105, 110, 116] }, .string { data := #[] }, .slice none 0 0, .slice (some ad) 1 1] 34)
      have HMm : Hid ((wr.alloc (.cells #[.bool false, .bool false, .string { data := #[105, 110, 116] }, .string { data := #[] }, .slice none 0 0, .slice (some ad) 1 1] 34)).heap[wr.heap.size]? = some (.cells #[.bool false, .bool false, .string { data := #[105, 110, 116] }, .string { data := #[] }, .slice none 0 0, .slice (some ad) 1 1] 34)) := Lib.hid (heap_alloc_new _ _)
      have HCm := Lib.hid (Kd.C_alloc HC.out (.cells #[.bool false, .bool false, .string { data := #[105, 110, 116] }, .string { data := #[] }, .slice none 0 0, .slice (some ad) 1 1] 34))
      have hc := blk_check both j hk
      have hp := blk_pass both ⟨j, hk⟩
      clear HB HC Ek
      go_wp2_with fail
      generalize wr.alloc (.cells #[.bool false, .bool false, .string { data := #[105, 110, 116] }, .string { data := #[] }, .slice none 0 0, .slice (some ad) 1 1] 34) = w0 at *
      generalize wr.heap.size = gm at *
      have HB : Below w.heap.size w w0.drew := below_drew1 HBm
      have HM := Lib.hid (blk_drew HMm.out)
      have HC := Lib.hid (Kd.C_drew HCm.out)
      clear HBm HMm HCm hj hlt
      have m0 := (blk_cell HM.out 0).trans rfl
      have m1 := (blk_cell HM.out 1).trans rfl
      have m2 := (blk_cell HM.out 2).trans rfl
      have m3 := (blk_cell HM.out 3).trans rfl
      have m4 := (blk_cell HM.out 4).trans rfl
      have m5 := (blk_cell HM.out 5).trans rfl
      cases both with
      | true =>
        have Hc : Hid (_ = some true) := Lib.hid hc
        have Hp : Hid (_ = some false) := Lib.hid hp
        clear hc hp
        first | (go_region_with (first | (go_at_call 6; refine (told_calls _).mono ?_; rintro e w1 ⟨rfl, hb⟩; have HB1 := HB.trans (hb.mono HB.size); have HM1 := Lib.hid (blk_below HM.out hb); have HC1 := Lib.hid (Kd.C_below HC.out hb); clear m0 m1 m2 m3 m4 m5 HB HM HC hb; have HB := HB1; have HM := HM1; have HC := HC1; clear HB1 HM1 HC1; have m0 := (blk_cell HM.out 0).trans rfl; have m1 := (blk_cell HM.out 1).trans rfl; have m2 := (blk_cell HM.out 2).trans rfl; have m3 := (blk_cell HM.out 3).trans rfl; have m4 := (blk_cell HM.out 4).trans rfl; have m5 := (blk_cell HM.out 5).trans rfl) | (go_at_call 8; refine (flow_Check.calls 12 false false (⟨#[105, 110, 116]⟩ : ByteArray) (⟨#[]⟩ : ByteArray) none 0 [] (some ad) 1 [blkT _ j] true _ (Kd.C_nil _ _) (Nat.le_refl _) HC.out (Nat.le_refl _) Hc.out).mono ?_; rintro e w1 ⟨rfl, hb⟩; have HB1 := HB.trans (hb.mono HB.size); have HM1 := Lib.hid (blk_below HM.out hb); have HC1 := Lib.hid (Kd.C_below HC.out hb); clear m0 m1 m2 m3 m4 m5 HB HM HC hb; have HB := HB1; have HM := HM1; have HC := HC1; clear HB1 HM1 HC1; have m0 := (blk_cell HM.out 0).trans rfl; have m1 := (blk_cell HM.out 1).trans rfl; have m2 := (blk_cell HM.out 2).trans rfl; have m3 := (blk_cell HM.out 3).trans rfl; have m4 := (blk_cell HM.out 4).trans rfl; have m5 := (blk_cell HM.out 5).trans rfl) | (go_at_call 7; refine (flow_Passes.calls 12 (some ad) 1 [blkT _ j] false _ HC.out (Nat.le_refl _) Hp.out).mono ?_; rintro e w1 ⟨rfl, hb⟩; have HB1 := HB.trans (hb.mono HB.size); have HM1 := Lib.hid (blk_below HM.out hb); have HC1 := Lib.hid (Kd.C_below HC.out hb); clear m0 m1 m2 m3 m4 m5 HB HM HC hb; have HB := HB1; have HM := HM1; have HC := HC1; clear HB1 HM1 HC1; have m0 := (blk_cell HM.out 0).trans rfl; have m1 := (blk_cell HM.out 1).trans rfl; have m2 := (blk_cell HM.out 2).trans rfl; have m3 := (blk_cell HM.out 3).trans rfl; have m4 := (blk_cell HM.out 4).trans rfl; have m5 := (blk_cell HM.out 5).trans rfl))) | done
        all_goals (try go_wp2)
        all_goals go_ret
        all_goals exact ⟨rfl, HB⟩
      | false =>
        by_cases h0 : j = 0
        · subst h0
          have Hc : Hid (_ = some true) := Lib.hid hc
          have Hp : Hid (_ = some false) := Lib.hid hp
          clear hc hp
          have z0 : (((0 : Nat) : Int) == 0) = true := rfl
          first | (go_region_with (first | (go_at_call 6; refine (told_calls _).mono ?_; rintro e w1 ⟨rfl, hb⟩; have HB1 := HB.trans (hb.mono HB.size); have HM1 := Lib.hid (blk_below HM.out hb); have HC1 := Lib.hid (Kd.C_below HC.out hb); clear m0 m1 m2 m3 m4 m5 HB HM HC hb; have HB := HB1; have HM := HM1; have HC := HC1; clear HB1 HM1 HC1; have m0 := (blk_cell HM.out 0).trans rfl; have m1 := (blk_cell HM.out 1).trans rfl; have m2 := (blk_cell HM.out 2).trans rfl; have m3 := (blk_cell HM.out 3).trans rfl; have m4 := (blk_cell HM.out 4).trans rfl; have m5 := (blk_cell HM.out 5).trans rfl) | (go_at_call 8; refine (flow_Check.calls 12 false false (⟨#[105, 110, 116]⟩ : ByteArray) (⟨#[]⟩ : ByteArray) none 0 [] (some ad) 1 [blkT _ 0] true _ (Kd.C_nil _ _) (Nat.le_refl _) HC.out (Nat.le_refl _) Hc.out).mono ?_; rintro e w1 ⟨rfl, hb⟩; have HB1 := HB.trans (hb.mono HB.size); have HM1 := Lib.hid (blk_below HM.out hb); have HC1 := Lib.hid (Kd.C_below HC.out hb); clear m0 m1 m2 m3 m4 m5 HB HM HC hb; have HB := HB1; have HM := HM1; have HC := HC1; clear HB1 HM1 HC1; have m0 := (blk_cell HM.out 0).trans rfl; have m1 := (blk_cell HM.out 1).trans rfl; have m2 := (blk_cell HM.out 2).trans rfl; have m3 := (blk_cell HM.out 3).trans rfl; have m4 := (blk_cell HM.out 4).trans rfl; have m5 := (blk_cell HM.out 5).trans rfl) | (go_at_call 7; refine (flow_Passes.calls 12 (some ad) 1 [blkT _ 0] false _ HC.out (Nat.le_refl _) Hp.out).mono ?_; rintro e w1 ⟨rfl, hb⟩; have HB1 := HB.trans (hb.mono HB.size); have HM1 := Lib.hid (blk_below HM.out hb); have HC1 := Lib.hid (Kd.C_below HC.out hb); clear m0 m1 m2 m3 m4 m5 HB HM HC hb; have HB := HB1; have HM := HM1; have HC := HC1; clear HB1 HM1 HC1; have m0 := (blk_cell HM.out 0).trans rfl; have m1 := (blk_cell HM.out 1).trans rfl; have m2 := (blk_cell HM.out 2).trans rfl; have m3 := (blk_cell HM.out 3).trans rfl; have m4 := (blk_cell HM.out 4).trans rfl; have m5 := (blk_cell HM.out 5).trans rfl))) | done
          all_goals (try go_wp2)
          all_goals go_ret
          all_goals exact ⟨rfl, HB⟩
        · rw [decide_eq_false h0] at hc hp
          have Hc : Hid (_ = some false) := Lib.hid hc
          have Hp : Hid (_ = some true) := Lib.hid hp
          clear hc hp
          have z0 : ((j : Int) == 0) = false := beq_eq_false_iff_ne.2 (by omega)
          have z1 : ¬ ((j : Int) = 0) := by omega
          first | (go_region_with (first | (go_at_call 6; refine (told_calls _).mono ?_; rintro e w1 ⟨rfl, hb⟩; have HB1 := HB.trans (hb.mono HB.size); have HM1 := Lib.hid (blk_below HM.out hb); have HC1 := Lib.hid (Kd.C_below HC.out hb); clear m0 m1 m2 m3 m4 m5 HB HM HC hb; have HB := HB1; have HM := HM1; have HC := HC1; clear HB1 HM1 HC1; have m0 := (blk_cell HM.out 0).trans rfl; have m1 := (blk_cell HM.out 1).trans rfl; have m2 := (blk_cell HM.out 2).trans rfl; have m3 := (blk_cell HM.out 3).trans rfl; have m4 := (blk_cell HM.out 4).trans rfl; have m5 := (blk_cell HM.out 5).trans rfl) | (go_at_call 8; refine (flow_Check.calls 12 false false (⟨#[105, 110, 116]⟩ : ByteArray) (⟨#[]⟩ : ByteArray) none 0 [] (some ad) 1 [blkT _ j] false _ (Kd.C_nil _ _) (Nat.le_refl _) HC.out (Nat.le_refl _) Hc.out).mono ?_; rintro e w1 ⟨rfl, hb⟩; have HB1 := HB.trans (hb.mono HB.size); have HM1 := Lib.hid (blk_below HM.out hb); have HC1 := Lib.hid (Kd.C_below HC.out hb); clear m0 m1 m2 m3 m4 m5 HB HM HC hb; have HB := HB1; have HM := HM1; have HC := HC1; clear HB1 HM1 HC1; have m0 := (blk_cell HM.out 0).trans rfl; have m1 := (blk_cell HM.out 1).trans rfl; have m2 := (blk_cell HM.out 2).trans rfl; have m3 := (blk_cell HM.out 3).trans rfl; have m4 := (blk_cell HM.out 4).trans rfl; have m5 := (blk_cell HM.out 5).trans rfl) | (go_at_call 7; refine (flow_Passes.calls 12 (some ad) 1 [blkT _ j] true _ HC.out (Nat.le_refl _) Hp.out).mono ?_; rintro e w1 ⟨rfl, hb⟩; have HB1 := HB.trans (hb.mono HB.size); have HM1 := Lib.hid (blk_below HM.out hb); have HC1 := Lib.hid (Kd.C_below HC.out hb); clear m0 m1 m2 m3 m4 m5 HB HM HC hb; have HB := HB1; have HM := HM1; have HC := HC1; clear HB1 HM1 HC1; have m0 := (blk_cell HM.out 0).trans rfl; have m1 := (blk_cell HM.out 1).trans rfl; have m2 := (blk_cell HM.out 2).trans rfl; have m3 := (blk_cell HM.out 3).trans rfl; have m4 := (blk_cell HM.out 4).trans rfl; have m5 := (blk_cell HM.out 5).trans rfl))) | done
          all_goals (try go_wp2)
          all_goals go_ret
          all_goals exact ⟨rfl, HB⟩
end Go.Proofs.Ytigfdkchblhkdaa
