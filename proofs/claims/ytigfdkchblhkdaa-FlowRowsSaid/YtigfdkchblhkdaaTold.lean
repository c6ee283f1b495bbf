/- The law's own told, walked: it answers true. No conditions. -/
import Derived.Test.YtigfdkchblhkdaaQx3
import Derived.Lib.Hide
namespace Go.Proofs.Ytigfdkchblhkdaa
open Go.RowKit Go.Proofs.YtigfdkchblhkdaaW.PrintWords Go.Proofs.YtigfdkchblhkdaaW.PrintLast Go.Proofs.YtigfdkchblhkdaaW.PrintMore Go.Proofs.Ytigfdkchblhkdaa.Q

theorem add_at (g n : Nat) : (⟨g, 0, none⟩ : Addr).add n = ⟨g, n, none⟩ := by
  cases n with
  | zero => rfl
  | succ n => simp [Addr.add]
/-- A row of one element, out of its cells. -/
theorem C_one {α : Type} (d : Kd α) {w : World} {g : Nat} {x : α} {c : List Value} (hK : d.K w x c) (hcell : ∀ i u, c[i]? = some u → w.cell? ⟨g, i, none⟩ = some u) : d.C w (some ⟨g, 0, none⟩) 1 [x] := by
  refine ⟨rfl, by decide, fun _ => ⟨_, rfl, fun j p hp => ?_⟩⟩
  have hj : j < 1 := (List.getElem?_eq_some_iff.1 hp).1
  obtain rfl : j = 0 := by omega
  obtain rfl : x = p := by simpa using hp
  refine ⟨c, d.K_len hK, hK, fun i u hu => ?_⟩
  rw [add_at, Nat.zero_mul, Nat.zero_add]
  exact hcell i u hu
/-- A row of two. -/
theorem C_two {α : Type} (d : Kd α) {w : World} {g : Nat} {x y : α} {c c' : List Value} (hK : d.K w x c) (hK' : d.K w y c') (hcell : ∀ i u, (c ++ c')[i]? = some u → w.cell? ⟨g, i, none⟩ = some u) : d.C w (some ⟨g, 0, none⟩) 2 [x, y] := by
  refine ⟨rfl, by decide, fun _ => ⟨_, rfl, fun j p hp => ?_⟩⟩
  have hj : j < 2 := (List.getElem?_eq_some_iff.1 hp).1
  have hl := d.K_len hK
  by_cases e : j = 0
  · subst e
    obtain rfl : x = p := by simpa using hp
    refine ⟨c, hl, hK, fun i u hu => ?_⟩
    have hi := (List.getElem?_eq_some_iff.1 hu).1
    rw [add_at, Nat.zero_mul, Nat.zero_add]
    exact hcell i u (by rw [List.getElem?_append_left hi]; exact hu)
  · obtain rfl : j = 1 := by omega
    obtain rfl : y = p := by simpa using hp
    refine ⟨c', d.K_len hK', hK', fun i u hu => ?_⟩
    rw [add_at, Nat.one_mul]
    exact hcell (d.sz + i) u (by rw [List.getElem?_append_right (by omega), hl, Nat.add_sub_cancel_left]; exact hu)
theorem cells_of {w : World} {g : Nat} {t : TypeId} {cs : Array Value} {c : List Value} (h : w.heap[g]? = some (.cells cs t (0, 0))) (e : cs.toList = c) (i : Nat) (u : Value) (hu : c[i]? = some u) : w.cell? ⟨g, i, none⟩ = some u := by
  rw [blk_cell h i, ← hu, ← e, Array.getElem?_toList]

def EM : ByteArray := ⟨#[]⟩
def yesE : S27 := ⟨2, 1, EM, EM, EM, [], EM, 0⟩
def backS : S29 := ⟨6, 0, EM, EM, [], [], [], [], 0⟩
def everS : S29 := ⟨5, 0, EM, EM, [yesE], [], [], [], 0⟩
def halfS : S29 := ⟨4, 0, EM, EM, [yesE], [backS], [], [], 0⟩
def tryS : S29 := ⟨10, 0, EM, EM, [], [], [], [backS], 0⟩

/-- What stands in told's own blocks. -/
structure Facts (n : Nat) (w : World) : Prop where
  h1 : w.heap[n + 1]? = some (.cells #[.int .i64 6, .int .i32 0, .string { data := #[] }, .string { data := #[] }, .slice none 0 0, .slice none 0 0, .slice none 0 0, .slice none 0 0, .int .i64 0] 29 (0, 0))
  h2 : w.heap[n + 1 + 1]? = some (.cells #[.int .i64 2, .int .i32 1, .string { data := #[] }, .string { data := #[] }, .string { data := #[] }, .slice none 0 0, .string { data := #[] }, .int .i64 0] 27 (0, 0))
  h3 : w.heap[n + 1 + 1 + 1]? = some (.cells #[.int .i64 5, .int .i32 0, .string { data := #[] }, .string { data := #[] }, .slice (some { block := n + 1 + 1, off := 0 }) 1 1, .slice none 0 0, .slice none 0 0, .slice none 0 0, .int .i64 0] 29 (0, 0))
  h4 : w.heap[n + 1 + 1 + 1 + 1]? = some (.cells #[.int .i64 2, .int .i32 1, .string { data := #[] }, .string { data := #[] }, .string { data := #[] }, .slice none 0 0, .string { data := #[] }, .int .i64 0] 27 (0, 0))
  h5 : w.heap[n + 1 + 1 + 1 + 1 + 1]? = some (.cells #[.int .i64 6, .int .i32 0, .string { data := #[] }, .string { data := #[] }, .slice none 0 0, .slice none 0 0, .slice none 0 0, .slice none 0 0, .int .i64 0] 29 (0, 0))
  h6 : w.heap[n + 1 + 1 + 1 + 1 + 1 + 1]? = some (.cells #[.int .i64 4, .int .i32 0, .string { data := #[] }, .string { data := #[] }, .slice (some { block := n + 1 + 1 + 1 + 1, off := 0 }) 1 1, .slice (some { block := n + 1 + 1 + 1 + 1 + 1, off := 0 }) 1 1, .slice none 0 0, .slice none 0 0, .int .i64 0] 29 (0, 0))
  h7 : w.heap[n + 1 + 1 + 1 + 1 + 1 + 1 + 1]? = some (.cells #[.int .i64 6, .int .i32 0, .string { data := #[] }, .string { data := #[] }, .slice none 0 0, .slice none 0 0, .slice none 0 0, .slice none 0 0, .int .i64 0] 29 (0, 0))
  h8 : w.heap[n + 1 + 1 + 1 + 1 + 1 + 1 + 1 + 1]? = some (.cells #[.int .i64 10, .int .i32 0, .string { data := #[] }, .string { data := #[] }, .slice none 0 0, .slice none 0 0, .slice none 0 0, .slice (some { block := n + 1 + 1 + 1 + 1 + 1 + 1 + 1, off := 0 }) 1 1, .int .i64 0] 29 (0, 0))
theorem Facts.below {n : Nat} {w w' : World} (F : Facts n w) (hb : Below w.heap.size w w') : Facts n w' :=
  ⟨blk_below F.h1 hb, blk_below F.h2 hb, blk_below F.h3 hb, blk_below F.h4 hb, blk_below F.h5 hb, blk_below F.h6 hb, blk_below F.h7 hb, blk_below F.h8 hb⟩
def W9 (w : World) : World := (((((((((w.alloc (.cells #[.int .i64 2, .int .i32 1, .string { data := #[] }, .string { data := #[] }, .string { data := #[] }, .slice none 0 0, .string { data := #[] }, .int .i64 0] 27)).alloc (.cells #[.int .i64 6, .int .i32 0, .string { data := #[] }, .string { data := #[] }, .slice none 0 0, .slice none 0 0, .slice none 0 0, .slice none 0 0, .int .i64 0] 29)).alloc (.cells #[.int .i64 2, .int .i32 1, .string { data := #[] }, .string { data := #[] }, .string { data := #[] }, .slice none 0 0, .string { data := #[] }, .int .i64 0] 27)).alloc (.cells #[.int .i64 5, .int .i32 0, .string { data := #[] }, .string { data := #[] }, .slice (some { block := w.heap.size + 1 + 1, off := 0 }) 1 1, .slice none 0 0, .slice none 0 0, .slice none 0 0, .int .i64 0] 29)).alloc (.cells #[.int .i64 2, .int .i32 1, .string { data := #[] }, .string { data := #[] }, .string { data := #[] }, .slice none 0 0, .string { data := #[] }, .int .i64 0] 27)).alloc (.cells #[.int .i64 6, .int .i32 0, .string { data := #[] }, .string { data := #[] }, .slice none 0 0, .slice none 0 0, .slice none 0 0, .slice none 0 0, .int .i64 0] 29)).alloc (.cells #[.int .i64 4, .int .i32 0, .string { data := #[] }, .string { data := #[] }, .slice (some { block := w.heap.size + 1 + 1 + 1 + 1, off := 0 }) 1 1, .slice (some { block := w.heap.size + 1 + 1 + 1 + 1 + 1, off := 0 }) 1 1, .slice none 0 0, .slice none 0 0, .int .i64 0] 29)).alloc (.cells #[.int .i64 6, .int .i32 0, .string { data := #[] }, .string { data := #[] }, .slice none 0 0, .slice none 0 0, .slice none 0 0, .slice none 0 0, .int .i64 0] 29)).alloc (.cells #[.int .i64 10, .int .i32 0, .string { data := #[] }, .string { data := #[] }, .slice none 0 0, .slice none 0 0, .slice none 0 0, .slice (some { block := w.heap.size + 1 + 1 + 1 + 1 + 1 + 1 + 1, off := 0 }) 1 1, .int .i64 0] 29))
theorem start (w : World) : Facts w.heap.size (W9 w) ∧ Below w.heap.size w (W9 w) := by
  refine ⟨⟨?_, ?_, ?_, ?_, ?_, ?_, ?_, ?_⟩, ?_⟩
  · unfold W9; simp only [World.alloc, Array.getElem?_push, Array.size_push]; simp
  · unfold W9; simp only [World.alloc, Array.getElem?_push, Array.size_push]; simp
  · unfold W9; simp only [World.alloc, Array.getElem?_push, Array.size_push]; simp
  · unfold W9; simp only [World.alloc, Array.getElem?_push, Array.size_push]; simp
  · unfold W9; simp only [World.alloc, Array.getElem?_push, Array.size_push]; simp
  · unfold W9; simp only [World.alloc, Array.getElem?_push, Array.size_push]; simp
  · unfold W9; simp only [World.alloc, Array.getElem?_push, Array.size_push]; simp
  · unfold W9; simp only [World.alloc, Array.getElem?_push, Array.size_push]; simp
  · unfold W9; repeat (first | exact Below.refl _ _ | apply below_alloc)
theorem yesK (w : World) : k27.K w yesE [.int .i64 2, .int .i32 1, .string { data := #[] }, .string { data := #[] }, .string { data := #[] }, .slice none 0 0, .string { data := #[] }, .int .i64 0] := k27_mk w yesE (A5 := none) (c5 := 0) (Nat.le_refl _) (Kd.C_nil _ _)
theorem backK (w : World) : k29.K w backS [.int .i64 6, .int .i32 0, .string { data := #[] }, .string { data := #[] }, .slice none 0 0, .slice none 0 0, .slice none 0 0, .slice none 0 0, .int .i64 0] := k29_mk w backS (A4 := none) (c4 := 0) (Nat.le_refl _) (Kd.C_nil _ _) (A5 := none) (c5 := 0) (Nat.le_refl _) (Kd.C_nil _ _) (A6 := none) (c6 := 0) (Nat.le_refl _) (Kd.C_nil _ _) (A7 := none) (c7 := 0) (Nat.le_refl _) (Kd.C_nil _ _)
theorem everK {n : Nat} {w : World} (F : Facts n w) : k29.K w everS [.int .i64 5, .int .i32 0, .string { data := #[] }, .string { data := #[] }, .slice (some { block := n + 1 + 1, off := 0 }) 1 1, .slice none 0 0, .slice none 0 0, .slice none 0 0, .int .i64 0] := k29_mk w everS (A4 := some _) (c4 := 1) (Nat.le_refl _) (C_one k27 (yesK w) (cells_of F.h2 rfl)) (A5 := none) (c5 := 0) (Nat.le_refl _) (Kd.C_nil _ _) (A6 := none) (c6 := 0) (Nat.le_refl _) (Kd.C_nil _ _) (A7 := none) (c7 := 0) (Nat.le_refl _) (Kd.C_nil _ _)
theorem halfK {n : Nat} {w : World} (F : Facts n w) : k29.K w halfS [.int .i64 4, .int .i32 0, .string { data := #[] }, .string { data := #[] }, .slice (some { block := n + 1 + 1 + 1 + 1, off := 0 }) 1 1, .slice (some { block := n + 1 + 1 + 1 + 1 + 1, off := 0 }) 1 1, .slice none 0 0, .slice none 0 0, .int .i64 0] := k29_mk w halfS (A4 := some _) (c4 := 1) (Nat.le_refl _) (C_one k27 (yesK w) (cells_of F.h4 rfl)) (A5 := some _) (c5 := 1) (Nat.le_refl _) (C_one k29 (backK w) (cells_of F.h5 rfl)) (A6 := none) (c6 := 0) (Nat.le_refl _) (Kd.C_nil _ _) (A7 := none) (c7 := 0) (Nat.le_refl _) (Kd.C_nil _ _)
theorem tryK {n : Nat} {w : World} (F : Facts n w) : k29.K w tryS [.int .i64 10, .int .i32 0, .string { data := #[] }, .string { data := #[] }, .slice none 0 0, .slice none 0 0, .slice none 0 0, .slice (some { block := n + 1 + 1 + 1 + 1 + 1 + 1 + 1, off := 0 }) 1 1, .int .i64 0] := k29_mk w tryS (A4 := none) (c4 := 0) (Nat.le_refl _) (Kd.C_nil _ _) (A5 := none) (c5 := 0) (Nat.le_refl _) (Kd.C_nil _ _) (A6 := none) (c6 := 0) (Nat.le_refl _) (Kd.C_nil _ _) (A7 := some _) (c7 := 1) (Nat.le_refl _) (C_one k29 (backK w) (cells_of F.h7 rfl))
theorem back_row {n : Nat} {w : World} (_F : Facts n w) : k29.C (w.alloc (.cells #[.int .i64 6, .int .i32 0, .string { data := #[] }, .string { data := #[] }, .slice none 0 0, .slice none 0 0, .slice none 0 0, .slice none 0 0, .int .i64 0] 29)) (some ⟨w.heap.size, 0, none⟩) 1 [backS] :=
  C_one k29 (backK _) (cells_of (heap_alloc_new _ _) rfl)
theorem ever_row {n : Nat} {w : World} (F : Facts n w) : k29.C (w.alloc (.cells #[.int .i64 5, .int .i32 0, .string { data := #[] }, .string { data := #[] }, .slice (some { block := n + 1 + 1, off := 0 }) 1 1, .slice none 0 0, .slice none 0 0, .slice none 0 0, .int .i64 0] 29)) (some ⟨w.heap.size, 0, none⟩) 1 [everS] :=
  C_one k29 (everK (F.below (below_alloc (Below.refl _ _) _))) (cells_of (heap_alloc_new _ _) rfl)
theorem half_row {n : Nat} {w : World} (F : Facts n w) : k29.C (w.alloc (.cells #[.int .i64 4, .int .i32 0, .string { data := #[] }, .string { data := #[] }, .slice (some { block := n + 1 + 1 + 1 + 1, off := 0 }) 1 1, .slice (some { block := n + 1 + 1 + 1 + 1 + 1, off := 0 }) 1 1, .slice none 0 0, .slice none 0 0, .int .i64 0] 29)) (some ⟨w.heap.size, 0, none⟩) 1 [halfS] :=
  C_one k29 (halfK (F.below (below_alloc (Below.refl _ _) _))) (cells_of (heap_alloc_new _ _) rfl)
theorem try_row {n : Nat} {w : World} (F : Facts n w) : k29.C (w.alloc (.cells #[.int .i64 10, .int .i32 0, .string { data := #[] }, .string { data := #[] }, .slice none 0 0, .slice none 0 0, .slice none 0 0, .slice (some { block := n + 1 + 1 + 1 + 1 + 1 + 1 + 1, off := 0 }) 1 1, .int .i64 0] 29)) (some ⟨w.heap.size, 0, none⟩) 1 [tryS] :=
  C_one k29 (tryK (F.below (below_alloc (Below.refl _ _) _))) (cells_of (heap_alloc_new _ _) rfl)
theorem two_row {n : Nat} {w : World} (F : Facts n w) : k29.C (w.alloc (.cells #[.int .i64 4, .int .i32 0, .string { data := #[] }, .string { data := #[] }, .slice (some { block := n + 1 + 1 + 1 + 1, off := 0 }) 1 1, .slice (some { block := n + 1 + 1 + 1 + 1 + 1, off := 0 }) 1 1, .slice none 0 0, .slice none 0 0, .int .i64 0, .int .i64 6, .int .i32 0, .string { data := #[] }, .string { data := #[] }, .slice none 0 0, .slice none 0 0, .slice none 0 0, .slice none 0 0, .int .i64 0] 29)) (some ⟨w.heap.size, 0, none⟩) 2 [halfS, backS] :=
  C_two k29 (halfK (F.below (below_alloc (Below.refl _ _) _))) (backK _) (cells_of (heap_alloc_new _ _) rfl)
theorem nextB {n : Nat} {w w1 w2 : World} (hn : w.heap.size = n) (HB : Below n w w1) (hb : Below w1.heap.size w1 w2) : Below n w w2 := HB.trans (hb.mono (hn ▸ HB.size))

set_option maxHeartbeats 4000000 in
set_option maxRecDepth 100000 in
theorem told_calls (w : World) : Calls Try.prog 6 #[] w (RetB true w) := by
  obtain ⟨F0, HB0⟩ := start w
  go_enter Try.func6, Try.ntmps6
  go_wp2_with fail
  change Calls Try.prog 7 _ (W9 w) _
  generalize W9 w = w0 at *
  generalize hn : w.heap.size = n at *
  refine (flow_Passes.calls 5 none 0 [] true _ (Kd.C_nil _ _) (Nat.le_refl _) rfl).mono ?_
  rintro e w1 ⟨rfl, hb⟩
  have HB : Below n w w1 := HB0.trans (hb.mono (by have := HB0.size; rw [hn] at this; exact this))
  have F := F0.below hb
  clear hb HB0 F0
  have c1_0 := (blk_cell F.h1 0).trans rfl
  have c1_1 := (blk_cell F.h1 1).trans rfl
  have c1_2 := (blk_cell F.h1 2).trans rfl
  have c1_3 := (blk_cell F.h1 3).trans rfl
  have c1_4 := (blk_cell F.h1 4).trans rfl
  have c1_5 := (blk_cell F.h1 5).trans rfl
  have c1_6 := (blk_cell F.h1 6).trans rfl
  have c1_7 := (blk_cell F.h1 7).trans rfl
  have c1_8 := (blk_cell F.h1 8).trans rfl
  go_wp2_with fail
  refine (flow_Passes.calls 5 _ 1 [backS] false _ (back_row F) (Nat.le_refl _) (by decide +kernel)).mono ?_
  rintro e w2 ⟨rfl, hb⟩
  have HB2 := nextB hn (nextB hn HB (below_alloc (Below.refl _ _) _)) hb
  have F2 := (F.below (below_alloc (Below.refl _ _) _)).below hb
  clear hb HB F
  clear c1_0 c1_1 c1_2 c1_3 c1_4 c1_5 c1_6 c1_7 c1_8
  have c3_0 := (blk_cell F2.h3 0).trans rfl
  have c3_1 := (blk_cell F2.h3 1).trans rfl
  have c3_2 := (blk_cell F2.h3 2).trans rfl
  have c3_3 := (blk_cell F2.h3 3).trans rfl
  have c3_4 := (blk_cell F2.h3 4).trans rfl
  have c3_5 := (blk_cell F2.h3 5).trans rfl
  have c3_6 := (blk_cell F2.h3 6).trans rfl
  have c3_7 := (blk_cell F2.h3 7).trans rfl
  have c3_8 := (blk_cell F2.h3 8).trans rfl
  go_wp2_with fail
  refine (flow_Passes.calls 5 _ 1 [everS] false _ (ever_row F2) (Nat.le_refl _) (by decide +kernel)).mono ?_
  rintro e w3 ⟨rfl, hb⟩
  have HB3 := nextB hn (nextB hn HB2 (below_alloc (Below.refl _ _) _)) hb
  have F3 := (F2.below (below_alloc (Below.refl _ _) _)).below hb
  clear hb HB2 F2
  clear c3_0 c3_1 c3_2 c3_3 c3_4 c3_5 c3_6 c3_7 c3_8
  have c6_0 := (blk_cell F3.h6 0).trans rfl
  have c6_1 := (blk_cell F3.h6 1).trans rfl
  have c6_2 := (blk_cell F3.h6 2).trans rfl
  have c6_3 := (blk_cell F3.h6 3).trans rfl
  have c6_4 := (blk_cell F3.h6 4).trans rfl
  have c6_5 := (blk_cell F3.h6 5).trans rfl
  have c6_6 := (blk_cell F3.h6 6).trans rfl
  have c6_7 := (blk_cell F3.h6 7).trans rfl
  have c6_8 := (blk_cell F3.h6 8).trans rfl
  go_wp2_with fail
  refine (flow_Passes.calls 5 _ 1 [halfS] true _ (half_row F3) (Nat.le_refl _) (by decide +kernel)).mono ?_
  rintro e w4 ⟨rfl, hb⟩
  have HB4 := nextB hn (nextB hn HB3 (below_alloc (Below.refl _ _) _)) hb
  have F4 := (F3.below (below_alloc (Below.refl _ _) _)).below hb
  clear hb HB3 F3
  clear c6_0 c6_1 c6_2 c6_3 c6_4 c6_5 c6_6 c6_7 c6_8
  have c8_0 := (blk_cell F4.h8 0).trans rfl
  have c8_1 := (blk_cell F4.h8 1).trans rfl
  have c8_2 := (blk_cell F4.h8 2).trans rfl
  have c8_3 := (blk_cell F4.h8 3).trans rfl
  have c8_4 := (blk_cell F4.h8 4).trans rfl
  have c8_5 := (blk_cell F4.h8 5).trans rfl
  have c8_6 := (blk_cell F4.h8 6).trans rfl
  have c8_7 := (blk_cell F4.h8 7).trans rfl
  have c8_8 := (blk_cell F4.h8 8).trans rfl
  go_wp2_with fail
  refine (flow_Passes.calls 5 _ 1 [tryS] false _ (try_row F4) (Nat.le_refl _) (by decide +kernel)).mono ?_
  rintro e w5 ⟨rfl, hb⟩
  have HB5 := nextB hn (nextB hn HB4 (below_alloc (Below.refl _ _) _)) hb
  have F5 := (F4.below (below_alloc (Below.refl _ _) _)).below hb
  clear hb HB4 F4
  clear c8_0 c8_1 c8_2 c8_3 c8_4 c8_5 c8_6 c8_7 c8_8
  go_wp2_with fail
  refine (flow_Check.calls 5 false false (⟨#[118, 111, 105, 100]⟩ : ByteArray) (⟨#[]⟩ : ByteArray) none 0 [] none 0 [] true _ (Kd.C_nil _ _) (Nat.le_refl _) (Kd.C_nil _ _) (Nat.le_refl _) (by decide +kernel)).mono ?_
  rintro e w6 ⟨rfl, hb⟩
  have HB6 := nextB hn HB5 hb
  have F6 := F5.below hb
  clear hb HB5 F5
  go_wp2_with fail
  refine (flow_Check.calls 5 false true (⟨#[]⟩ : ByteArray) (⟨#[]⟩ : ByteArray) none 0 [] none 0 [] true _ (Kd.C_nil _ _) (Nat.le_refl _) (Kd.C_nil _ _) (Nat.le_refl _) (by decide +kernel)).mono ?_
  rintro e w7 ⟨rfl, hb⟩
  have HB7 := nextB hn HB6 hb
  have F7 := F6.below hb
  clear hb HB6 F6
  go_wp2_with fail
  refine (flow_Check.calls 5 false false (⟨#[105, 110, 116]⟩ : ByteArray) (⟨#[]⟩ : ByteArray) none 0 [] none 0 [] false _ (Kd.C_nil _ _) (Nat.le_refl _) (Kd.C_nil _ _) (Nat.le_refl _) (by decide +kernel)).mono ?_
  rintro e w8 ⟨rfl, hb⟩
  have HB8 := nextB hn HB7 hb
  have F8 := F7.below hb
  clear hb HB7 F7
  have c6_0 := (blk_cell F8.h6 0).trans rfl
  have c6_1 := (blk_cell F8.h6 1).trans rfl
  have c6_2 := (blk_cell F8.h6 2).trans rfl
  have c6_3 := (blk_cell F8.h6 3).trans rfl
  have c6_4 := (blk_cell F8.h6 4).trans rfl
  have c6_5 := (blk_cell F8.h6 5).trans rfl
  have c6_6 := (blk_cell F8.h6 6).trans rfl
  have c6_7 := (blk_cell F8.h6 7).trans rfl
  have c6_8 := (blk_cell F8.h6 8).trans rfl
  have c1_0 := (blk_cell F8.h1 0).trans rfl
  have c1_1 := (blk_cell F8.h1 1).trans rfl
  have c1_2 := (blk_cell F8.h1 2).trans rfl
  have c1_3 := (blk_cell F8.h1 3).trans rfl
  have c1_4 := (blk_cell F8.h1 4).trans rfl
  have c1_5 := (blk_cell F8.h1 5).trans rfl
  have c1_6 := (blk_cell F8.h1 6).trans rfl
  have c1_7 := (blk_cell F8.h1 7).trans rfl
  have c1_8 := (blk_cell F8.h1 8).trans rfl
  go_wp2_with fail
  refine (flow_Check.calls 5 false false (⟨#[105, 110, 116]⟩ : ByteArray) (⟨#[]⟩ : ByteArray) none 0 [] _ 2 [halfS, backS] true _ (Kd.C_nil _ _) (Nat.le_refl _) (two_row F8) (Nat.le_refl _) (by decide +kernel)).mono ?_
  rintro e w9 ⟨rfl, hb⟩
  have HB9 := nextB hn (nextB hn HB8 (below_alloc (Below.refl _ _) _)) hb
  have F9 := (F8.below (below_alloc (Below.refl _ _) _)).below hb
  clear hb HB8 F8
  clear c6_0 c6_1 c6_2 c6_3 c6_4 c6_5 c6_6 c6_7 c6_8 c1_0 c1_1 c1_2 c1_3 c1_4 c1_5 c1_6 c1_7 c1_8
  go_wp2
  go_ret
  exact ⟨rfl, hn ▸ HB9⟩
theorem changelinglaw11_told.calls (w : World) : Calls Try.prog 6 #[] w fun e w' => e = .returned (.bool true) ∧ Below w.heap.size w w' := told_calls w
end Go.Proofs.Ytigfdkchblhkdaa
