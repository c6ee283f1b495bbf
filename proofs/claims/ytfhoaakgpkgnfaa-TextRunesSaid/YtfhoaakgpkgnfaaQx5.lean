-- Written by a program of this session (wip/tool/mp.py), out of the translation; Lean checks it.
import Derived.Test.YtfhoaakgpkgnfaaQx0
namespace Go.Proofs.Ytfhoaakgpkgnfaa.Q
open Go.RowKit Go.Proofs.YtfhoaakgpkgnfaaW.PrintWords Go.Proofs.YtfhoaakgpkgnfaaW.PrintLast Go.Proofs.YtfhoaakgpkgnfaaW.PrintMore
attribute [local go_sem] max2_int min2_int max_two min_two max_three min_three max_four min_four   -- for this text's walks alone
set_option linter.unusedVariables false
set_option linter.unusedSimpArgs false

/-! ### changelingref1_One: function 22 -/
mutual
def changelingref1_One.j3 : Nat → ByteArray → Int → Int → Int → Int → Int → Option (Int × Int × Bool)
  | 0, _, _, _, _, _, _ => none
  | k + 1, x0, x1, x5, x6, x7, x8 => if x6 = 0 then (changelingref1_One.j4 k x0 x1 x5 x6 x7 x8 true) else (changelingref1_One.j4 k x0 x1 x5 x6 x7 x8 (decide ((wrap64 (x1 + x6)) > (x0.size : Int))))
def changelingref1_One.j4 : Nat → ByteArray → Int → Int → Int → Int → Int → Bool → Option (Int × Int × Bool)
  | 0, _, _, _, _, _, _, _ => none
  | k + 1, x0, x1, x5, x6, x7, x8, x59 => if x59 = true then (some (65533, 1, true)) else (if 0 ≤ (IntKind.u64.wrap (wrap64 (7 - x6))) then (changelingref1_One.l0 k x0 x1 x6 x7 x8 (Go.bits .and .i32 (wrap32 (x5)) (wrap32 ((shl .i32 1 (IntKind.u64.wrap (wrap64 (7 - x6)))) - 1))) 1) else (none))
def changelingref1_One.l0 : Nat → ByteArray → Int → Int → Int → Int → Int → Int → Option (Int × Int × Bool)
  | 0, _, _, _, _, _, _, _ => none
  | k + 1, x0, x1, x6, x7, x8, x9, x10 => if x10 < x6 then (if 0 ≤ (wrap64 (x1 + x10)) then (if (wrap64 (x1 + x10)) < (x0.size : Int) then (if x10 = 1 then (if (wrap64 (bt x0 (wrap64 (x1 + x10)))) < x7 then (some (65533, 1, true)) else (if (wrap64 (bt x0 (wrap64 (x1 + x10)))) > x8 then (some (65533, 1, true)) else (if (wrap64 (bt x0 (wrap64 (x1 + x10)))) < 128 then (some (65533, 1, true)) else (if (wrap64 (bt x0 (wrap64 (x1 + x10)))) > 191 then (some (65533, 1, true)) else (changelingref1_One.l0 k x0 x1 x6 x7 x8 (Go.bits .or .i32 (wrap32 (x9 * 64)) (wrap32 (Go.bits .and .i64 (wrap64 (bt x0 (wrap64 (x1 + x10)))) 63))) (wrap64 (x10 + 1))))))) else (if (wrap64 (bt x0 (wrap64 (x1 + x10)))) < 128 then (some (65533, 1, true)) else (if (wrap64 (bt x0 (wrap64 (x1 + x10)))) > 191 then (some (65533, 1, true)) else (changelingref1_One.l0 k x0 x1 x6 x7 x8 (Go.bits .or .i32 (wrap32 (x9 * 64)) (wrap32 (Go.bits .and .i64 (wrap64 (bt x0 (wrap64 (x1 + x10)))) 63))) (wrap64 (x10 + 1)))))) else (none)) else (none)) else (some (x9, x6, false))
def changelingref1_One.j0 : Nat → ByteArray → Int → Int → Int → Int → Int → Bool → Option (Int × Int × Bool)
  | 0, _, _, _, _, _, _, _ => none
  | k + 1, x0, x1, x5, x6, x7, x8, x21 => if x21 = true then (changelingref1_One.j3 k x0 x1 x5 2 x7 x8) else (if x5 ≥ 224 then (changelingref1_One.j1 k x0 x1 x5 x6 x7 x8 (decide (x5 ≤ 239))) else (changelingref1_One.j1 k x0 x1 x5 x6 x7 x8 false))
def changelingref1_One.j1 : Nat → ByteArray → Int → Int → Int → Int → Int → Bool → Option (Int × Int × Bool)
  | 0, _, _, _, _, _, _, _ => none
  | k + 1, x0, x1, x5, x6, x7, x8, x28 => if x28 = true then (if x5 = 224 then (if x5 = 237 then (changelingref1_One.j3 k x0 x1 x5 3 160 159) else (changelingref1_One.j3 k x0 x1 x5 3 160 x8)) else (if x5 = 237 then (changelingref1_One.j3 k x0 x1 x5 3 x7 159) else (changelingref1_One.j3 k x0 x1 x5 3 x7 x8))) else (if x5 ≥ 240 then (changelingref1_One.j2 k x0 x1 x5 x6 x7 x8 (decide (x5 ≤ 244))) else (changelingref1_One.j2 k x0 x1 x5 x6 x7 x8 false))
def changelingref1_One.j2 : Nat → ByteArray → Int → Int → Int → Int → Int → Bool → Option (Int × Int × Bool)
  | 0, _, _, _, _, _, _, _ => none
  | k + 1, x0, x1, x5, x6, x7, x8, x39 => if x39 = true then (if x5 = 240 then (if x5 = 244 then (changelingref1_One.j3 k x0 x1 x5 4 144 143) else (changelingref1_One.j3 k x0 x1 x5 4 144 x8)) else (if x5 = 244 then (changelingref1_One.j3 k x0 x1 x5 4 x7 143) else (changelingref1_One.j3 k x0 x1 x5 4 x7 x8))) else (changelingref1_One.j3 k x0 x1 x5 x6 x7 x8)
end
def changelingref1_One.f (k : Nat) (a0 : ByteArray) (a1 : Int) : Option (Int × Int × Bool) := if 0 ≤ a1 then (if a1 < (a0.size : Int) then (if (bt a0 a1) < 128 then (some (wrap32 (bt a0 a1), 1, false)) else (if (bt a0 a1) ≥ 194 then (changelingref1_One.j0 k a0 a1 (bt a0 a1) 0 128 191 (decide ((bt a0 a1) ≤ 223))) else (changelingref1_One.j0 k a0 a1 (bt a0 a1) 0 128 191 false))) else (none)) else (none)
theorem changelingref1_One.mono_l : ∀ k, (∀ y0 y1 y2 y3 y4 y5, LeO (changelingref1_One.j3 k y0 y1 y2 y3 y4 y5) (changelingref1_One.j3 (k + 1) y0 y1 y2 y3 y4 y5)) ∧ (∀ y0 y1 y2 y3 y4 y5 y6, LeO (changelingref1_One.j4 k y0 y1 y2 y3 y4 y5 y6) (changelingref1_One.j4 (k + 1) y0 y1 y2 y3 y4 y5 y6)) ∧ (∀ y0 y1 y2 y3 y4 y5 y6, LeO (changelingref1_One.l0 k y0 y1 y2 y3 y4 y5 y6) (changelingref1_One.l0 (k + 1) y0 y1 y2 y3 y4 y5 y6)) ∧ (∀ y0 y1 y2 y3 y4 y5 y6, LeO (changelingref1_One.j0 k y0 y1 y2 y3 y4 y5 y6) (changelingref1_One.j0 (k + 1) y0 y1 y2 y3 y4 y5 y6)) ∧ (∀ y0 y1 y2 y3 y4 y5 y6, LeO (changelingref1_One.j1 k y0 y1 y2 y3 y4 y5 y6) (changelingref1_One.j1 (k + 1) y0 y1 y2 y3 y4 y5 y6)) ∧ (∀ y0 y1 y2 y3 y4 y5 y6, LeO (changelingref1_One.j2 k y0 y1 y2 y3 y4 y5 y6) (changelingref1_One.j2 (k + 1) y0 y1 y2 y3 y4 y5 y6))
  | 0 => ⟨fun _ _ _ _ _ _ r h => by simp [changelingref1_One.j3] at h, fun _ _ _ _ _ _ _ r h => by simp [changelingref1_One.j4] at h, fun _ _ _ _ _ _ _ r h => by simp [changelingref1_One.l0] at h, fun _ _ _ _ _ _ _ r h => by simp [changelingref1_One.j0] at h, fun _ _ _ _ _ _ _ r h => by simp [changelingref1_One.j1] at h, fun _ _ _ _ _ _ _ r h => by simp [changelingref1_One.j2] at h⟩
  | k + 1 => by
    obtain ⟨ih0, ih1, ih2, ih3, ih4, ih5⟩ := changelingref1_One.mono_l k
    refine ⟨?_, ?_, ?_, ?_, ?_, ?_⟩
    · intro y0 y1 y2 y3 y4 y5
      unfold changelingref1_One.j3
      repeat' first
      | (with_reducible exact ih0 _ _ _ _ _ _)
      | (with_reducible exact ih1 _ _ _ _ _ _ _)
      | (with_reducible exact ih2 _ _ _ _ _ _ _)
      | (with_reducible exact ih3 _ _ _ _ _ _ _)
      | (with_reducible exact ih4 _ _ _ _ _ _ _)
      | (with_reducible exact ih5 _ _ _ _ _ _ _)
      | (with_reducible exact LeO.refl _)
      | (with_reducible exact LeO.none _)
      | (with_reducible refine LeO.ite ?_ ?_)
      | (with_reducible refine LeO.bind ?_ (fun _ => ?_))
      | exact ih0 _ _ _ _ _ _
      | exact ih1 _ _ _ _ _ _ _
      | exact ih2 _ _ _ _ _ _ _
      | exact ih3 _ _ _ _ _ _ _
      | exact ih4 _ _ _ _ _ _ _
      | exact ih5 _ _ _ _ _ _ _
      | exact LeO.none _
      | refine LeO.ite ?_ ?_
      | refine LeO.bind ?_ (fun _ => ?_)
    · intro y0 y1 y2 y3 y4 y5 y6
      unfold changelingref1_One.j4
      repeat' first
      | (with_reducible exact ih0 _ _ _ _ _ _)
      | (with_reducible exact ih1 _ _ _ _ _ _ _)
      | (with_reducible exact ih2 _ _ _ _ _ _ _)
      | (with_reducible exact ih3 _ _ _ _ _ _ _)
      | (with_reducible exact ih4 _ _ _ _ _ _ _)
      | (with_reducible exact ih5 _ _ _ _ _ _ _)
      | (with_reducible exact LeO.refl _)
      | (with_reducible exact LeO.none _)
      | (with_reducible refine LeO.ite ?_ ?_)
      | (with_reducible refine LeO.bind ?_ (fun _ => ?_))
      | exact ih0 _ _ _ _ _ _
      | exact ih1 _ _ _ _ _ _ _
      | exact ih2 _ _ _ _ _ _ _
      | exact ih3 _ _ _ _ _ _ _
      | exact ih4 _ _ _ _ _ _ _
      | exact ih5 _ _ _ _ _ _ _
      | exact LeO.none _
      | refine LeO.ite ?_ ?_
      | refine LeO.bind ?_ (fun _ => ?_)
    · intro y0 y1 y2 y3 y4 y5 y6
      unfold changelingref1_One.l0
      repeat' first
      | (with_reducible exact ih0 _ _ _ _ _ _)
      | (with_reducible exact ih1 _ _ _ _ _ _ _)
      | (with_reducible exact ih2 _ _ _ _ _ _ _)
      | (with_reducible exact ih3 _ _ _ _ _ _ _)
      | (with_reducible exact ih4 _ _ _ _ _ _ _)
      | (with_reducible exact ih5 _ _ _ _ _ _ _)
      | (with_reducible exact LeO.refl _)
      | (with_reducible exact LeO.none _)
      | (with_reducible refine LeO.ite ?_ ?_)
      | (with_reducible refine LeO.bind ?_ (fun _ => ?_))
      | exact ih0 _ _ _ _ _ _
      | exact ih1 _ _ _ _ _ _ _
      | exact ih2 _ _ _ _ _ _ _
      | exact ih3 _ _ _ _ _ _ _
      | exact ih4 _ _ _ _ _ _ _
      | exact ih5 _ _ _ _ _ _ _
      | exact LeO.none _
      | refine LeO.ite ?_ ?_
      | refine LeO.bind ?_ (fun _ => ?_)
    · intro y0 y1 y2 y3 y4 y5 y6
      unfold changelingref1_One.j0
      repeat' first
      | (with_reducible exact ih0 _ _ _ _ _ _)
      | (with_reducible exact ih1 _ _ _ _ _ _ _)
      | (with_reducible exact ih2 _ _ _ _ _ _ _)
      | (with_reducible exact ih3 _ _ _ _ _ _ _)
      | (with_reducible exact ih4 _ _ _ _ _ _ _)
      | (with_reducible exact ih5 _ _ _ _ _ _ _)
      | (with_reducible exact LeO.refl _)
      | (with_reducible exact LeO.none _)
      | (with_reducible refine LeO.ite ?_ ?_)
      | (with_reducible refine LeO.bind ?_ (fun _ => ?_))
      | exact ih0 _ _ _ _ _ _
      | exact ih1 _ _ _ _ _ _ _
      | exact ih2 _ _ _ _ _ _ _
      | exact ih3 _ _ _ _ _ _ _
      | exact ih4 _ _ _ _ _ _ _
      | exact ih5 _ _ _ _ _ _ _
      | exact LeO.none _
      | refine LeO.ite ?_ ?_
      | refine LeO.bind ?_ (fun _ => ?_)
    · intro y0 y1 y2 y3 y4 y5 y6
      unfold changelingref1_One.j1
      repeat' first
      | (with_reducible exact ih0 _ _ _ _ _ _)
      | (with_reducible exact ih1 _ _ _ _ _ _ _)
      | (with_reducible exact ih2 _ _ _ _ _ _ _)
      | (with_reducible exact ih3 _ _ _ _ _ _ _)
      | (with_reducible exact ih4 _ _ _ _ _ _ _)
      | (with_reducible exact ih5 _ _ _ _ _ _ _)
      | (with_reducible exact LeO.refl _)
      | (with_reducible exact LeO.none _)
      | (with_reducible refine LeO.ite ?_ ?_)
      | (with_reducible refine LeO.bind ?_ (fun _ => ?_))
      | exact ih0 _ _ _ _ _ _
      | exact ih1 _ _ _ _ _ _ _
      | exact ih2 _ _ _ _ _ _ _
      | exact ih3 _ _ _ _ _ _ _
      | exact ih4 _ _ _ _ _ _ _
      | exact ih5 _ _ _ _ _ _ _
      | exact LeO.none _
      | refine LeO.ite ?_ ?_
      | refine LeO.bind ?_ (fun _ => ?_)
    · intro y0 y1 y2 y3 y4 y5 y6
      unfold changelingref1_One.j2
      repeat' first
      | (with_reducible exact ih0 _ _ _ _ _ _)
      | (with_reducible exact ih1 _ _ _ _ _ _ _)
      | (with_reducible exact ih2 _ _ _ _ _ _ _)
      | (with_reducible exact ih3 _ _ _ _ _ _ _)
      | (with_reducible exact ih4 _ _ _ _ _ _ _)
      | (with_reducible exact ih5 _ _ _ _ _ _ _)
      | (with_reducible exact LeO.refl _)
      | (with_reducible exact LeO.none _)
      | (with_reducible refine LeO.ite ?_ ?_)
      | (with_reducible refine LeO.bind ?_ (fun _ => ?_))
      | exact ih0 _ _ _ _ _ _
      | exact ih1 _ _ _ _ _ _ _
      | exact ih2 _ _ _ _ _ _ _
      | exact ih3 _ _ _ _ _ _ _
      | exact ih4 _ _ _ _ _ _ _
      | exact ih5 _ _ _ _ _ _ _
      | exact LeO.none _
      | refine LeO.ite ?_ ?_
      | refine LeO.bind ?_ (fun _ => ?_)
theorem changelingref1_One.mono : ∀ a0 a1 k, LeO (changelingref1_One.f k a0 a1) (changelingref1_One.f (k + 1) a0 a1) := by
  intro a0 a1 k
  obtain ⟨ih0, ih1, ih2, ih3, ih4, ih5⟩ := changelingref1_One.mono_l k
  unfold changelingref1_One.f
  repeat' first
      | (with_reducible exact ih0 _ _ _ _ _ _)
      | (with_reducible exact ih1 _ _ _ _ _ _ _)
      | (with_reducible exact ih2 _ _ _ _ _ _ _)
      | (with_reducible exact ih3 _ _ _ _ _ _ _)
      | (with_reducible exact ih4 _ _ _ _ _ _ _)
      | (with_reducible exact ih5 _ _ _ _ _ _ _)
      | (with_reducible exact LeO.refl _)
      | (with_reducible exact LeO.none _)
      | (with_reducible refine LeO.ite ?_ ?_)
      | (with_reducible refine LeO.bind ?_ (fun _ => ?_))
      | exact ih0 _ _ _ _ _ _
      | exact ih1 _ _ _ _ _ _ _
      | exact ih2 _ _ _ _ _ _ _
      | exact ih3 _ _ _ _ _ _ _
      | exact ih4 _ _ _ _ _ _ _
      | exact ih5 _ _ _ _ _ _ _
      | exact LeO.none _
      | refine LeO.ite ?_ ?_
      | refine LeO.bind ?_ (fun _ => ?_)
set_option maxHeartbeats 8000000 in
set_option maxRecDepth 100000 in
theorem changelingref1_One.calls (k : Nat) (a0 : ByteArray) (a1 : Int) (r1 : Int) (r2 : Int) (r3 : Bool) (w : World) (h : changelingref1_One.f k a0 a1 = some (r1, r2, r3)) :
    Calls Try.prog 22 #[.string a0, .int .i64 a1] w fun e w' => e = .returned (.agg #[.int .i32 r1, .int .i64 r2, .bool r3]) ∧ Below w.heap.size w w' := by
  have hu43 := Try.underlying43
  have HB := Aside0.mk (Below.refl w.heap.size w)
  have H : (if 0 ≤ a1 then (if a1 < (a0.size : Int) then (if (bt a0 a1) < 128 then (some (wrap32 (bt a0 a1), 1, false)) else (if (bt a0 a1) ≥ 194 then (changelingref1_One.j0 k a0 a1 (bt a0 a1) 0 128 191 (decide ((bt a0 a1) ≤ 223))) else (changelingref1_One.j0 k a0 a1 (bt a0 a1) 0 128 191 false))) else (none)) else (none)) = some (r1, r2, r3) := h
  clear h
  by_cases c3 : 0 ≤ a1
  · rw [if_pos c3] at H
    have c3b0 : decide (0 ≤ a1) = true := decide_eq_true c3
    clear c3
    by_cases c4 : a1 < (a0.size : Int)
    · rw [if_pos c4] at H
      have c4b0 : decide (a1 < (a0.size : Int)) = true := decide_eq_true c4
      clear c4
      have HC6 := Aside0.mk H
      clear H
      go_enter Try.func22, Try.ntmps22
      go_upto_block 0 with (first | ((with_reducible refine gate_dst (N := 4) rfl ?_); (try (refine gate_guard (by rfl) ?_; dsimp only)); refine box_event ?hg (N := 4) ?hd (cs := #[.int .i32 0, .int .i64 0, .bool false]) (t := 43) ?hr ?_; (case hd => rfl); (case hg => rfl); (case hr => first | (go_simp; done) | (go_simp; rfl)); intro gb154 hg w7 hbox hb; have n0_ := Aside0.mk (below_step (by repeat (first | (with_reducible first | exact HB.out | apply below_alloc | apply pw_below_drewN | apply below_drew1) | exact HB.out)) hb); have n1_ := Aside0.mk (hbox); have n2_ := Aside0.mk ((by rw [hg]; exact (below_size (by repeat (first | (with_reducible first | exact HB.out | apply below_alloc | apply pw_below_drewN | apply below_drew1) | exact HB.out))) : w.heap.size ≤ gb154)); have n3_ := Aside0.mk ((by rw [hg]; exact (below_size (by repeat (first | (with_reducible first | exact HB.out | apply below_alloc | apply pw_below_drewN | apply below_drew1) | exact HB.out))) : w.heap.size ≤ gb154)); clear HB; have HB := n0_; have BK154 := n1_; have GW154 := n2_; have GE154 := n3_; clear n0_ n1_ n2_ n3_; clear hb hbox hg; have p5 : 0 ≤ (a1 : Int) := of_decide_eq_true (by first | (with_reducible assumption) | assumption); have q5 : a1 < (a0.size : Int) := of_decide_eq_true (by first | (with_reducible assumption) | assumption); have hx5 := bt_at a0 a1; replace p5 := eq_true p5; replace q5 := eq_true q5))
      (try simp only [Act.put, List.setIfInBounds_toArray, List.set_cons_zero, List.set_cons_succ])
      go_cut [6, 7, 8] (fun v6 v7 v8 wc => ∃ (kq : Nat) (x6_5 : Int) (x7_5 : Int) (x8_5 : Int) (x155000_5 : Int) (x155001_5 : Int) (x155002_5 : Bool), v6 = .int .i64 x6_5 ∧ v7 = .int .i64 x7_5 ∧ v8 = .int .i64 x8_5 ∧ Aside0 (changelingref1_One.j3 kq a0 a1 (bt a0 a1) x6_5 x7_5 x8_5 = some (r1, r2, r3)) ∧ Aside0 (kq ≤ k) ∧ Aside0 (wc.heap[gb154]? = some (.cells #[.int .i32 x155000_5, .int .i64 x155001_5, .bool x155002_5] 43 (0, 0))) ∧ Aside0 (Below w.heap.size w wc))
      case first =>
        have H := HC6.out
        clear HC6
        by_cases c8 : (bt a0 a1) < 128
        · rw [if_pos c8] at H
          have c8b0 : decide ((bt a0 a1) < 128) = true := decide_eq_true c8
          clear c8
          (first | rw [c8b0] | (simp only [i64_w, i32_w]; rw [c8b0]) | skip)
          simp only [Option.some.injEq, Prod.mk.injEq] at H
          obtain ⟨rfl, rfl, rfl⟩ := H
          have hcz9_0 : w7.cell? ⟨gb154, 0, none⟩ = some (.int .i32 0) := (blk_cell BK154.out 0).trans rfl
          have hcz9_1 : w7.cell? ⟨gb154, 1, none⟩ = some (.int .i64 0) := (blk_cell BK154.out 1).trans rfl
          have hcz9_2 : w7.cell? ⟨gb154, 2, none⟩ = some (.bool false) := (blk_cell BK154.out 2).trans rfl
          have hfz9_0 := blk_frozen BK154.out 0
          have hfz9_1 := blk_frozen BK154.out 1
          have hfz9_2 := blk_frozen BK154.out 2
          go_wp2
          refine bodyPost_ret (results_cell_row rfl _ _ gb154 43 #[.int .i32 (wrap32 (bt a0 a1)), .int .i64 1, .bool false] (0, 0) _ rfl (by (with_reducible repeat (first | refine blk_drewN ?_ _ | refine blk_drew ?_ | refine blk_alloc ?_ _)); refine blk_put (cs := #[.int .i32 (wrap32 (bt a0 a1)), .int .i64 1, .bool false]) ?_ 2 _ rfl; (with_reducible repeat (first | refine blk_drewN ?_ _ | refine blk_drew ?_ | refine blk_alloc ?_ _)); refine blk_put (cs := #[.int .i32 (wrap32 (bt a0 a1)), .int .i64 0, .bool false]) ?_ 1 _ rfl; (with_reducible repeat (first | refine blk_drewN ?_ _ | refine blk_drew ?_ | refine blk_alloc ?_ _)); refine blk_put (cs := #[.int .i32 0, .int .i64 0, .bool false]) ?_ 0 _ rfl; (with_reducible repeat (first | refine blk_drewN ?_ _ | refine blk_drew ?_ | refine blk_alloc ?_ _)); exact BK154.out) Try.underlying43 rfl (by kernel_rfl)) rfl ?_
          exact ⟨by first | rfl | (simp [errW_none, errW_some] <;> rfl) | (simp [*, errW_none, errW_some] <;> rfl), by repeat (first | (with_reducible first | exact HB.out | apply below_alloc | apply pw_below_drewN | apply below_drew1 | refine below_set ?_ GE154.out) | exact HB.out)⟩
        · rw [if_neg c8] at H
          have c8b0 : decide ((bt a0 a1) < 128) = false := decide_eq_false c8
          clear c8
          (first | rw [c8b0] | (simp only [i64_w, i32_w]; rw [c8b0]) | skip)
          have HC10 := Aside0.mk H
          clear H
          go_upto_region 5 with (fail)
          go_cut [21] (fun v21 wc => ∃ (kq : Nat) (x21_9 : Bool), v21 = .bool x21_9 ∧ Aside0 (changelingref1_One.j0 kq a0 a1 (bt a0 a1) 0 128 191 x21_9 = some (r1, r2, r3)) ∧ Aside0 (kq ≤ k) ∧ Aside0 (wc.heap[gb154]? = some (.cells #[.int .i32 0, .int .i64 0, .bool false] 43 (0, 0))) ∧ Aside0 (Below w.heap.size w wc))
          case first =>
            have H := HC10.out
            clear HC10
            by_cases c11 : (bt a0 a1) ≥ 194
            · rw [if_pos c11] at H
              have c11b0 : decide (194 ≤ (bt a0 a1)) = true := decide_eq_true c11
              clear c11
              (first | rw [c11b0] | (simp only [i64_w, i32_w]; rw [c11b0]) | skip)
              have H' := Aside0.mk H
              clear H
              go_wp2
              go_meet
              case rel => exact ⟨_, (decide ((bt a0 a1) ≤ 223)), (by first | rfl | (simp; done) | (simp [*]; done)), H', ⟨by first | omega | exact Nat.le_refl _⟩, ⟨by (with_reducible repeat (first | refine blk_drewN ?_ _ | refine blk_drew ?_ | refine blk_alloc ?_ _)); exact BK154.out⟩, ⟨by repeat (first | (with_reducible first | exact HB.out | apply below_alloc | apply pw_below_drewN | apply below_drew1 | refine below_set ?_ GE154.out) | exact HB.out)⟩⟩
            · rw [if_neg c11] at H
              have c11b0 : decide (194 ≤ (bt a0 a1)) = false := decide_eq_false c11
              clear c11
              (first | rw [c11b0] | (simp only [i64_w, i32_w]; rw [c11b0]) | skip)
              have H' := Aside0.mk H
              clear H
              go_wp2
              go_meet
              case rel => exact ⟨_, (false), (by first | rfl | (simp; done) | (simp [*]; done)), H', ⟨by first | omega | exact Nat.le_refl _⟩, ⟨by (with_reducible repeat (first | refine blk_drewN ?_ _ | refine blk_drew ?_ | refine blk_alloc ?_ _)); exact BK154.out⟩, ⟨by repeat (first | (with_reducible first | exact HB.out | apply below_alloc | apply pw_below_drewN | apply below_drew1 | refine below_set ?_ GE154.out) | exact HB.out)⟩⟩
          case rest =>
            clear HC10
            try clear c1
            try clear c2
            try clear p2
            try clear c3
            try clear c3b0
            try clear p3
            try clear c4
            try clear c4b0
            try clear p5
            try clear q5
            try clear hx5
            try clear c8
            try clear c8b0
            try clear c11
            try clear c11b0
            try clear hcz9_0
            try clear hcz9_1
            try clear hcz9_2
            try clear hfz9_0
            try clear hfz9_1
            try clear hfz9_2
            try clear p5
            try clear q5
            obtain ⟨kq, x21_9, rfl, HA, HJ9, BK154, HB⟩ := hcut
            cases kq with
            | zero => exact absurd HA.out (by simp [changelingref1_One.j0])
            | succ kj9 =>
              have H := HA.out
              clear HA
              simp only [changelingref1_One.j0] at H
              by_cases c12 : x21_9 = true
              · subst c12
                have H1 : (changelingref1_One.j3 kj9 a0 a1 (bt a0 a1) 2 128 191) = some (r1, r2, r3) := by rw [if_pos rfl] at H; exact H
                clear H
                have H := H1
                clear H1
                have H' := Aside0.mk H
                clear H
                go_wp2
                go_meet
                case rel => exact ⟨_, (2), (128), (191), (0), (0), (false), (by first | rfl | (simp; done) | (simp [*]; done)), (by first | rfl | (simp; done) | (simp [*]; done)), (by first | rfl | (simp; done) | (simp [*]; done)), H', ⟨by have := HJ9.out; first | omega | exact Nat.le_refl _⟩, ⟨by (with_reducible repeat (first | refine blk_drewN ?_ _ | refine blk_drew ?_ | refine blk_alloc ?_ _)); exact BK154.out⟩, ⟨by repeat (first | (with_reducible first | exact HB.out | apply below_alloc | apply pw_below_drewN | apply below_drew1 | refine below_set ?_ GE154.out) | exact HB.out)⟩⟩
              · replace c12 := Bool.eq_false_iff.mpr c12
                subst c12
                have H1 : (if (bt a0 a1) ≥ 224 then (changelingref1_One.j1 kj9 a0 a1 (bt a0 a1) 0 128 191 (decide ((bt a0 a1) ≤ 239))) else (changelingref1_One.j1 kj9 a0 a1 (bt a0 a1) 0 128 191 false)) = some (r1, r2, r3) := by rw [if_neg (show ¬ (false = true) by decide)] at H; exact H
                clear H
                have H := H1
                clear H1
                have HC13 := Aside0.mk H
                clear H
                go_upto_region 7 with (fail)
                go_cut [28] (fun v28 wc => ∃ (kq : Nat) (x28_12 : Bool), v28 = .bool x28_12 ∧ Aside0 (changelingref1_One.j1 kq a0 a1 (bt a0 a1) 0 128 191 x28_12 = some (r1, r2, r3)) ∧ Aside0 (kq ≤ kj9) ∧ Aside0 (wc.heap[gb154]? = some (.cells #[.int .i32 0, .int .i64 0, .bool false] 43 (0, 0))) ∧ Aside0 (Below w.heap.size w wc))
                case first =>
                  have H := HC13.out
                  clear HC13
                  by_cases c14 : (bt a0 a1) ≥ 224
                  · rw [if_pos c14] at H
                    have c14b0 : decide (224 ≤ (bt a0 a1)) = true := decide_eq_true c14
                    clear c14
                    (first | rw [c14b0] | (simp only [i64_w, i32_w]; rw [c14b0]) | skip)
                    have H' := Aside0.mk H
                    clear H
                    go_wp2
                    go_meet
                    case rel => exact ⟨_, (decide ((bt a0 a1) ≤ 239)), (by first | rfl | (simp; done) | (simp [*]; done)), H', ⟨by have := HJ9.out; first | omega | exact Nat.le_refl _⟩, ⟨by (with_reducible repeat (first | refine blk_drewN ?_ _ | refine blk_drew ?_ | refine blk_alloc ?_ _)); exact BK154.out⟩, ⟨by repeat (first | (with_reducible first | exact HB.out | apply below_alloc | apply pw_below_drewN | apply below_drew1 | refine below_set ?_ GE154.out) | exact HB.out)⟩⟩
                  · rw [if_neg c14] at H
                    have c14b0 : decide (224 ≤ (bt a0 a1)) = false := decide_eq_false c14
                    clear c14
                    (first | rw [c14b0] | (simp only [i64_w, i32_w]; rw [c14b0]) | skip)
                    have H' := Aside0.mk H
                    clear H
                    go_wp2
                    go_meet
                    case rel => exact ⟨_, (false), (by first | rfl | (simp; done) | (simp [*]; done)), H', ⟨by have := HJ9.out; first | omega | exact Nat.le_refl _⟩, ⟨by (with_reducible repeat (first | refine blk_drewN ?_ _ | refine blk_drew ?_ | refine blk_alloc ?_ _)); exact BK154.out⟩, ⟨by repeat (first | (with_reducible first | exact HB.out | apply below_alloc | apply pw_below_drewN | apply below_drew1 | refine below_set ?_ GE154.out) | exact HB.out)⟩⟩
                case rest =>
                  clear HC13
                  try clear c1
                  try clear c2
                  try clear p2
                  try clear c3
                  try clear c3b0
                  try clear p3
                  try clear c4
                  try clear c4b0
                  try clear p5
                  try clear q5
                  try clear hx5
                  try clear c8
                  try clear c8b0
                  try clear c11
                  try clear c11b0
                  try clear c12
                  try clear c14
                  try clear c14b0
                  try clear hcz9_0
                  try clear hcz9_1
                  try clear hcz9_2
                  try clear hfz9_0
                  try clear hfz9_1
                  try clear hfz9_2
                  try clear p2
                  try clear p3
                  try clear p5
                  try clear q5
                  obtain ⟨kq, x28_12, rfl, HA, HJ12, BK154, HB⟩ := hcut
                  cases kq with
                  | zero => exact absurd HA.out (by simp [changelingref1_One.j1])
                  | succ kj12 =>
                    have H := HA.out
                    clear HA
                    simp only [changelingref1_One.j1] at H
                    by_cases c15 : x28_12 = true
                    · subst c15
                      have H1 : (if (bt a0 a1) = 224 then (if (bt a0 a1) = 237 then (changelingref1_One.j3 kj12 a0 a1 (bt a0 a1) 3 160 159) else (changelingref1_One.j3 kj12 a0 a1 (bt a0 a1) 3 160 191)) else (if (bt a0 a1) = 237 then (changelingref1_One.j3 kj12 a0 a1 (bt a0 a1) 3 128 159) else (changelingref1_One.j3 kj12 a0 a1 (bt a0 a1) 3 128 191))) = some (r1, r2, r3) := by rw [if_pos rfl] at H; exact H
                      clear H
                      have H := H1
                      clear H1
                      by_cases c16 : (bt a0 a1) = 224
                      · rw [if_pos c16] at H
                        have c16b0 : ((bt a0 a1) == 224) = true := beq_iff_eq.mpr c16
                        have c16b1 : ((bt a0 a1) != 224) = false := bne_eq_false_iff_eq.mpr c16
                        clear c16
                        by_cases c17 : (bt a0 a1) = 237
                        · rw [if_pos c17] at H
                          have c17b0 : ((bt a0 a1) == 237) = true := beq_iff_eq.mpr c17
                          have c17b1 : ((bt a0 a1) != 237) = false := bne_eq_false_iff_eq.mpr c17
                          clear c17
                          have H' := Aside0.mk H
                          clear H
                          go_wp2
                          go_meet
                          case rel => exact ⟨_, (3), (160), (159), (0), (0), (false), (by first | rfl | (simp; done) | (simp [*]; done)), (by first | rfl | (simp; done) | (simp [*]; done)), (by first | rfl | (simp; done) | (simp [*]; done)), H', ⟨by have := HJ9.out; have := HJ12.out; first | omega | exact Nat.le_refl _⟩, ⟨by (with_reducible repeat (first | refine blk_drewN ?_ _ | refine blk_drew ?_ | refine blk_alloc ?_ _)); exact BK154.out⟩, ⟨by repeat (first | (with_reducible first | exact HB.out | apply below_alloc | apply pw_below_drewN | apply below_drew1 | refine below_set ?_ GE154.out) | exact HB.out)⟩⟩
                        · rw [if_neg c17] at H
                          have c17b0 : ((bt a0 a1) == 237) = false := beq_eq_false_iff_ne.mpr c17
                          have c17b1 : ((bt a0 a1) != 237) = true := bne_iff_ne.mpr c17
                          have H' := Aside0.mk H
                          clear H
                          go_wp2
                          go_meet
                          case rel => exact ⟨_, (3), (160), (191), (0), (0), (false), (by first | rfl | (simp; done) | (simp [*]; done)), (by first | rfl | (simp; done) | (simp [*]; done)), (by first | rfl | (simp; done) | (simp [*]; done)), H', ⟨by have := HJ9.out; have := HJ12.out; first | omega | exact Nat.le_refl _⟩, ⟨by (with_reducible repeat (first | refine blk_drewN ?_ _ | refine blk_drew ?_ | refine blk_alloc ?_ _)); exact BK154.out⟩, ⟨by repeat (first | (with_reducible first | exact HB.out | apply below_alloc | apply pw_below_drewN | apply below_drew1 | refine below_set ?_ GE154.out) | exact HB.out)⟩⟩
                      · rw [if_neg c16] at H
                        have c16b0 : ((bt a0 a1) == 224) = false := beq_eq_false_iff_ne.mpr c16
                        have c16b1 : ((bt a0 a1) != 224) = true := bne_iff_ne.mpr c16
                        by_cases c18 : (bt a0 a1) = 237
                        · rw [if_pos c18] at H
                          have c18b0 : ((bt a0 a1) == 237) = true := beq_iff_eq.mpr c18
                          have c18b1 : ((bt a0 a1) != 237) = false := bne_eq_false_iff_eq.mpr c18
                          clear c18
                          have H' := Aside0.mk H
                          clear H
                          go_wp2
                          go_meet
                          case rel => exact ⟨_, (3), (128), (159), (0), (0), (false), (by first | rfl | (simp; done) | (simp [*]; done)), (by first | rfl | (simp; done) | (simp [*]; done)), (by first | rfl | (simp; done) | (simp [*]; done)), H', ⟨by have := HJ9.out; have := HJ12.out; first | omega | exact Nat.le_refl _⟩, ⟨by (with_reducible repeat (first | refine blk_drewN ?_ _ | refine blk_drew ?_ | refine blk_alloc ?_ _)); exact BK154.out⟩, ⟨by repeat (first | (with_reducible first | exact HB.out | apply below_alloc | apply pw_below_drewN | apply below_drew1 | refine below_set ?_ GE154.out) | exact HB.out)⟩⟩
                        · rw [if_neg c18] at H
                          have c18b0 : ((bt a0 a1) == 237) = false := beq_eq_false_iff_ne.mpr c18
                          have c18b1 : ((bt a0 a1) != 237) = true := bne_iff_ne.mpr c18
                          have H' := Aside0.mk H
                          clear H
                          go_wp2
                          go_meet
                          case rel => exact ⟨_, (3), (128), (191), (0), (0), (false), (by first | rfl | (simp; done) | (simp [*]; done)), (by first | rfl | (simp; done) | (simp [*]; done)), (by first | rfl | (simp; done) | (simp [*]; done)), H', ⟨by have := HJ9.out; have := HJ12.out; first | omega | exact Nat.le_refl _⟩, ⟨by (with_reducible repeat (first | refine blk_drewN ?_ _ | refine blk_drew ?_ | refine blk_alloc ?_ _)); exact BK154.out⟩, ⟨by repeat (first | (with_reducible first | exact HB.out | apply below_alloc | apply pw_below_drewN | apply below_drew1 | refine below_set ?_ GE154.out) | exact HB.out)⟩⟩
                    · replace c15 := Bool.eq_false_iff.mpr c15
                      subst c15
                      have H1 : (if (bt a0 a1) ≥ 240 then (changelingref1_One.j2 kj12 a0 a1 (bt a0 a1) 0 128 191 (decide ((bt a0 a1) ≤ 244))) else (changelingref1_One.j2 kj12 a0 a1 (bt a0 a1) 0 128 191 false)) = some (r1, r2, r3) := by rw [if_neg (show ¬ (false = true) by decide)] at H; exact H
                      clear H
                      have H := H1
                      clear H1
                      have HC19 := Aside0.mk H
                      clear H
                      go_upto_region 13 with (fail)
                      go_cut [39] (fun v39 wc => ∃ (kq : Nat) (x39_18 : Bool), v39 = .bool x39_18 ∧ Aside0 (changelingref1_One.j2 kq a0 a1 (bt a0 a1) 0 128 191 x39_18 = some (r1, r2, r3)) ∧ Aside0 (kq ≤ kj12) ∧ Aside0 (wc.heap[gb154]? = some (.cells #[.int .i32 0, .int .i64 0, .bool false] 43 (0, 0))) ∧ Aside0 (Below w.heap.size w wc))
                      case first =>
                        have H := HC19.out
                        clear HC19
                        by_cases c20 : (bt a0 a1) ≥ 240
                        · rw [if_pos c20] at H
                          have c20b0 : decide (240 ≤ (bt a0 a1)) = true := decide_eq_true c20
                          clear c20
                          (first | rw [c20b0] | (simp only [i64_w, i32_w]; rw [c20b0]) | skip)
                          have H' := Aside0.mk H
                          clear H
                          go_wp2
                          go_meet
                          case rel => exact ⟨_, (decide ((bt a0 a1) ≤ 244)), (by first | rfl | (simp; done) | (simp [*]; done)), H', ⟨by have := HJ9.out; have := HJ12.out; first | omega | exact Nat.le_refl _⟩, ⟨by (with_reducible repeat (first | refine blk_drewN ?_ _ | refine blk_drew ?_ | refine blk_alloc ?_ _)); exact BK154.out⟩, ⟨by repeat (first | (with_reducible first | exact HB.out | apply below_alloc | apply pw_below_drewN | apply below_drew1 | refine below_set ?_ GE154.out) | exact HB.out)⟩⟩
                        · rw [if_neg c20] at H
                          have c20b0 : decide (240 ≤ (bt a0 a1)) = false := decide_eq_false c20
                          clear c20
                          (first | rw [c20b0] | (simp only [i64_w, i32_w]; rw [c20b0]) | skip)
                          have H' := Aside0.mk H
                          clear H
                          go_wp2
                          go_meet
                          case rel => exact ⟨_, (false), (by first | rfl | (simp; done) | (simp [*]; done)), H', ⟨by have := HJ9.out; have := HJ12.out; first | omega | exact Nat.le_refl _⟩, ⟨by (with_reducible repeat (first | refine blk_drewN ?_ _ | refine blk_drew ?_ | refine blk_alloc ?_ _)); exact BK154.out⟩, ⟨by repeat (first | (with_reducible first | exact HB.out | apply below_alloc | apply pw_below_drewN | apply below_drew1 | refine below_set ?_ GE154.out) | exact HB.out)⟩⟩
                      case rest =>
                        clear HC19
                        try clear c1
                        try clear c2
                        try clear p2
                        try clear c3
                        try clear c3b0
                        try clear p3
                        try clear c4
                        try clear c4b0
                        try clear p5
                        try clear q5
                        try clear hx5
                        try clear c8
                        try clear c8b0
                        try clear c11
                        try clear c11b0
                        try clear c12
                        try clear c14
                        try clear c14b0
                        try clear c15
                        try clear c16
                        try clear c16b0
                        try clear c16b1
                        try clear c17
                        try clear c17b0
                        try clear c17b1
                        try clear c18
                        try clear c18b0
                        try clear c18b1
                        try clear c20
                        try clear c20b0
                        try clear hcz9_0
                        try clear hcz9_1
                        try clear hcz9_2
                        try clear hfz9_0
                        try clear hfz9_1
                        try clear hfz9_2
                        try clear p2
                        try clear p3
                        try clear p5
                        try clear q5
                        obtain ⟨kq, x39_18, rfl, HA, HJ18, BK154, HB⟩ := hcut
                        cases kq with
                        | zero => exact absurd HA.out (by simp [changelingref1_One.j2])
                        | succ kj18 =>
                          have H := HA.out
                          clear HA
                          simp only [changelingref1_One.j2] at H
                          by_cases c21 : x39_18 = true
                          · subst c21
                            have H1 : (if (bt a0 a1) = 240 then (if (bt a0 a1) = 244 then (changelingref1_One.j3 kj18 a0 a1 (bt a0 a1) 4 144 143) else (changelingref1_One.j3 kj18 a0 a1 (bt a0 a1) 4 144 191)) else (if (bt a0 a1) = 244 then (changelingref1_One.j3 kj18 a0 a1 (bt a0 a1) 4 128 143) else (changelingref1_One.j3 kj18 a0 a1 (bt a0 a1) 4 128 191))) = some (r1, r2, r3) := by rw [if_pos rfl] at H; exact H
                            clear H
                            have H := H1
                            clear H1
                            by_cases c22 : (bt a0 a1) = 240
                            · rw [if_pos c22] at H
                              have c22b0 : ((bt a0 a1) == 240) = true := beq_iff_eq.mpr c22
                              have c22b1 : ((bt a0 a1) != 240) = false := bne_eq_false_iff_eq.mpr c22
                              clear c22
                              by_cases c23 : (bt a0 a1) = 244
                              · rw [if_pos c23] at H
                                have c23b0 : ((bt a0 a1) == 244) = true := beq_iff_eq.mpr c23
                                have c23b1 : ((bt a0 a1) != 244) = false := bne_eq_false_iff_eq.mpr c23
                                clear c23
                                have H' := Aside0.mk H
                                clear H
                                go_wp2
                                go_meet
                                case rel => exact ⟨_, (4), (144), (143), (0), (0), (false), (by first | rfl | (simp; done) | (simp [*]; done)), (by first | rfl | (simp; done) | (simp [*]; done)), (by first | rfl | (simp; done) | (simp [*]; done)), H', ⟨by have := HJ9.out; have := HJ12.out; have := HJ18.out; first | omega | exact Nat.le_refl _⟩, ⟨by (with_reducible repeat (first | refine blk_drewN ?_ _ | refine blk_drew ?_ | refine blk_alloc ?_ _)); exact BK154.out⟩, ⟨by repeat (first | (with_reducible first | exact HB.out | apply below_alloc | apply pw_below_drewN | apply below_drew1 | refine below_set ?_ GE154.out) | exact HB.out)⟩⟩
                              · rw [if_neg c23] at H
                                have c23b0 : ((bt a0 a1) == 244) = false := beq_eq_false_iff_ne.mpr c23
                                have c23b1 : ((bt a0 a1) != 244) = true := bne_iff_ne.mpr c23
                                have H' := Aside0.mk H
                                clear H
                                go_wp2
                                go_meet
                                case rel => exact ⟨_, (4), (144), (191), (0), (0), (false), (by first | rfl | (simp; done) | (simp [*]; done)), (by first | rfl | (simp; done) | (simp [*]; done)), (by first | rfl | (simp; done) | (simp [*]; done)), H', ⟨by have := HJ9.out; have := HJ12.out; have := HJ18.out; first | omega | exact Nat.le_refl _⟩, ⟨by (with_reducible repeat (first | refine blk_drewN ?_ _ | refine blk_drew ?_ | refine blk_alloc ?_ _)); exact BK154.out⟩, ⟨by repeat (first | (with_reducible first | exact HB.out | apply below_alloc | apply pw_below_drewN | apply below_drew1 | refine below_set ?_ GE154.out) | exact HB.out)⟩⟩
                            · rw [if_neg c22] at H
                              have c22b0 : ((bt a0 a1) == 240) = false := beq_eq_false_iff_ne.mpr c22
                              have c22b1 : ((bt a0 a1) != 240) = true := bne_iff_ne.mpr c22
                              by_cases c24 : (bt a0 a1) = 244
                              · rw [if_pos c24] at H
                                have c24b0 : ((bt a0 a1) == 244) = true := beq_iff_eq.mpr c24
                                have c24b1 : ((bt a0 a1) != 244) = false := bne_eq_false_iff_eq.mpr c24
                                clear c24
                                have H' := Aside0.mk H
                                clear H
                                go_wp2
                                go_meet
                                case rel => exact ⟨_, (4), (128), (143), (0), (0), (false), (by first | rfl | (simp; done) | (simp [*]; done)), (by first | rfl | (simp; done) | (simp [*]; done)), (by first | rfl | (simp; done) | (simp [*]; done)), H', ⟨by have := HJ9.out; have := HJ12.out; have := HJ18.out; first | omega | exact Nat.le_refl _⟩, ⟨by (with_reducible repeat (first | refine blk_drewN ?_ _ | refine blk_drew ?_ | refine blk_alloc ?_ _)); exact BK154.out⟩, ⟨by repeat (first | (with_reducible first | exact HB.out | apply below_alloc | apply pw_below_drewN | apply below_drew1 | refine below_set ?_ GE154.out) | exact HB.out)⟩⟩
                              · rw [if_neg c24] at H
                                have c24b0 : ((bt a0 a1) == 244) = false := beq_eq_false_iff_ne.mpr c24
                                have c24b1 : ((bt a0 a1) != 244) = true := bne_iff_ne.mpr c24
                                have H' := Aside0.mk H
                                clear H
                                go_wp2
                                go_meet
                                case rel => exact ⟨_, (4), (128), (191), (0), (0), (false), (by first | rfl | (simp; done) | (simp [*]; done)), (by first | rfl | (simp; done) | (simp [*]; done)), (by first | rfl | (simp; done) | (simp [*]; done)), H', ⟨by have := HJ9.out; have := HJ12.out; have := HJ18.out; first | omega | exact Nat.le_refl _⟩, ⟨by (with_reducible repeat (first | refine blk_drewN ?_ _ | refine blk_drew ?_ | refine blk_alloc ?_ _)); exact BK154.out⟩, ⟨by repeat (first | (with_reducible first | exact HB.out | apply below_alloc | apply pw_below_drewN | apply below_drew1 | refine below_set ?_ GE154.out) | exact HB.out)⟩⟩
                          · replace c21 := Bool.eq_false_iff.mpr c21
                            subst c21
                            have H1 : (changelingref1_One.j3 kj18 a0 a1 (bt a0 a1) 0 128 191) = some (r1, r2, r3) := by rw [if_neg (show ¬ (false = true) by decide)] at H; exact H
                            clear H
                            have H := H1
                            clear H1
                            have H' := Aside0.mk H
                            clear H
                            go_wp2
                            go_meet
                            case rel => exact ⟨_, (0), (128), (191), (0), (0), (false), (by first | rfl | (simp; done) | (simp [*]; done)), (by first | rfl | (simp; done) | (simp [*]; done)), (by first | rfl | (simp; done) | (simp [*]; done)), H', ⟨by have := HJ9.out; have := HJ12.out; have := HJ18.out; first | omega | exact Nat.le_refl _⟩, ⟨by (with_reducible repeat (first | refine blk_drewN ?_ _ | refine blk_drew ?_ | refine blk_alloc ?_ _)); exact BK154.out⟩, ⟨by repeat (first | (with_reducible first | exact HB.out | apply below_alloc | apply pw_below_drewN | apply below_drew1 | refine below_set ?_ GE154.out) | exact HB.out)⟩⟩
      case rest =>
        clear HC6
        try clear c1
        try clear c2
        try clear p2
        try clear c3
        try clear c3b0
        try clear p3
        try clear c4
        try clear c4b0
        try clear p5
        try clear q5
        try clear hx5
        try clear c8
        try clear c8b0
        try clear c11
        try clear c11b0
        try clear c12
        try clear c14
        try clear c14b0
        try clear c15
        try clear c16
        try clear c16b0
        try clear c16b1
        try clear c17
        try clear c17b0
        try clear c17b1
        try clear c18
        try clear c18b0
        try clear c18b1
        try clear c20
        try clear c20b0
        try clear c21
        try clear c22
        try clear c22b0
        try clear c22b1
        try clear c23
        try clear c23b0
        try clear c23b1
        try clear c24
        try clear c24b0
        try clear c24b1
        try clear hcz9_0
        try clear hcz9_1
        try clear hcz9_2
        try clear hfz9_0
        try clear hfz9_1
        try clear hfz9_2
        try clear p2
        try clear p3
        try clear p5
        try clear q5
        obtain ⟨kq, x6_5, x7_5, x8_5, x155000_5, x155001_5, x155002_5, rfl, rfl, rfl, HA, HJ5, BK154, HB⟩ := hcut
        cases kq with
        | zero => exact absurd HA.out (by simp [changelingref1_One.j3])
        | succ kj5 =>
          have H := HA.out
          clear HA
          simp only [changelingref1_One.j3] at H
          have HC25 := Aside0.mk H
          clear H
          go_upto_region 19 with (fail)
          go_cut [59] (fun v59 wc => ∃ (kq : Nat) (x59_24 : Bool), v59 = .bool x59_24 ∧ Aside0 (changelingref1_One.j4 kq a0 a1 (bt a0 a1) x6_5 x7_5 x8_5 x59_24 = some (r1, r2, r3)) ∧ Aside0 (kq ≤ kj5) ∧ Aside0 (wc.heap[gb154]? = some (.cells #[.int .i32 x155000_5, .int .i64 x155001_5, .bool x155002_5] 43 (0, 0))) ∧ Aside0 (Below w.heap.size w wc))
          case first =>
            have H := HC25.out
            clear HC25
            by_cases c26 : x6_5 = 0
            · rw [if_pos c26] at H
              have c26b0 : (x6_5 == 0) = true := beq_iff_eq.mpr c26
              have c26b1 : (x6_5 != 0) = false := bne_eq_false_iff_eq.mpr c26
              clear c26
              (first | rw [c26b0] | (simp only [i64_w, i32_w]; rw [c26b0]) | skip)
              have H' := Aside0.mk H
              clear H
              go_wp2
              go_meet
              case rel => exact ⟨_, (true), (by first | rfl | (simp; done) | (simp [*]; done)), H', ⟨by have := HJ5.out; first | omega | exact Nat.le_refl _⟩, ⟨by (with_reducible repeat (first | refine blk_drewN ?_ _ | refine blk_drew ?_ | refine blk_alloc ?_ _)); exact BK154.out⟩, ⟨by repeat (first | (with_reducible first | exact HB.out | apply below_alloc | apply pw_below_drewN | apply below_drew1 | refine below_set ?_ GE154.out) | exact HB.out)⟩⟩
            · rw [if_neg c26] at H
              have c26b0 : (x6_5 == 0) = false := beq_eq_false_iff_ne.mpr c26
              have c26b1 : (x6_5 != 0) = true := bne_iff_ne.mpr c26
              (first | rw [c26b0] | (simp only [i64_w, i32_w]; rw [c26b0]) | skip)
              have H' := Aside0.mk H
              clear H
              go_wp2
              go_meet
              case rel => exact ⟨_, (decide ((wrap64 (a1 + x6_5)) > (a0.size : Int))), (by first | rfl | (simp; done) | (simp [*]; done)), H', ⟨by have := HJ5.out; first | omega | exact Nat.le_refl _⟩, ⟨by (with_reducible repeat (first | refine blk_drewN ?_ _ | refine blk_drew ?_ | refine blk_alloc ?_ _)); exact BK154.out⟩, ⟨by repeat (first | (with_reducible first | exact HB.out | apply below_alloc | apply pw_below_drewN | apply below_drew1 | refine below_set ?_ GE154.out) | exact HB.out)⟩⟩
          case rest =>
            clear HC25
            try clear c1
            try clear c2
            try clear p2
            try clear c3
            try clear c3b0
            try clear p3
            try clear c4
            try clear c4b0
            try clear p5
            try clear q5
            try clear hx5
            try clear p6
            try clear c8
            try clear c8b0
            try clear c11
            try clear c11b0
            try clear c12
            try clear c14
            try clear c14b0
            try clear c15
            try clear c16
            try clear c16b0
            try clear c16b1
            try clear c17
            try clear c17b0
            try clear c17b1
            try clear c18
            try clear c18b0
            try clear c18b1
            try clear c20
            try clear c20b0
            try clear c21
            try clear c22
            try clear c22b0
            try clear c22b1
            try clear c23
            try clear c23b0
            try clear c23b1
            try clear c24
            try clear c24b0
            try clear c24b1
            try clear c26
            try clear c26b0
            try clear c26b1
            try clear hcz9_0
            try clear hcz9_1
            try clear hcz9_2
            try clear hfz9_0
            try clear hfz9_1
            try clear hfz9_2
            try clear p2
            try clear p3
            try clear p5
            try clear q5
            obtain ⟨kq, x59_24, rfl, HA, HJ24, BK154, HB⟩ := hcut
            cases kq with
            | zero => exact absurd HA.out (by simp [changelingref1_One.j4])
            | succ kj24 =>
              have H := HA.out
              clear HA
              simp only [changelingref1_One.j4] at H
              by_cases c27 : x59_24 = true
              · subst c27
                have H1 : (some (65533, 1, true)) = some (r1, r2, r3) := by rw [if_pos rfl] at H; exact H
                clear H
                have H := H1
                clear H1
                simp only [Option.some.injEq, Prod.mk.injEq] at H
                obtain ⟨rfl, rfl, rfl⟩ := H
                have hcz28_0 : wc.cell? ⟨gb154, 0, none⟩ = some (.int .i32 x155000_5) := (blk_cell BK154.out 0).trans rfl
                have hcz28_1 : wc.cell? ⟨gb154, 1, none⟩ = some (.int .i64 x155001_5) := (blk_cell BK154.out 1).trans rfl
                have hcz28_2 : wc.cell? ⟨gb154, 2, none⟩ = some (.bool x155002_5) := (blk_cell BK154.out 2).trans rfl
                have hfz28_0 := blk_frozen BK154.out 0
                have hfz28_1 := blk_frozen BK154.out 1
                have hfz28_2 := blk_frozen BK154.out 2
                go_wp2
                refine bodyPost_ret (results_cell_row rfl _ _ gb154 43 #[.int .i32 65533, .int .i64 1, .bool true] (0, 0) _ rfl (by (with_reducible repeat (first | refine blk_drewN ?_ _ | refine blk_drew ?_ | refine blk_alloc ?_ _)); refine blk_put (cs := #[.int .i32 65533, .int .i64 1, .bool x155002_5]) ?_ 2 _ rfl; (with_reducible repeat (first | refine blk_drewN ?_ _ | refine blk_drew ?_ | refine blk_alloc ?_ _)); refine blk_put (cs := #[.int .i32 65533, .int .i64 x155001_5, .bool x155002_5]) ?_ 1 _ rfl; (with_reducible repeat (first | refine blk_drewN ?_ _ | refine blk_drew ?_ | refine blk_alloc ?_ _)); refine blk_put (cs := #[.int .i32 x155000_5, .int .i64 x155001_5, .bool x155002_5]) ?_ 0 _ rfl; (with_reducible repeat (first | refine blk_drewN ?_ _ | refine blk_drew ?_ | refine blk_alloc ?_ _)); exact BK154.out) Try.underlying43 rfl (by kernel_rfl)) rfl ?_
                exact ⟨by first | rfl | (simp [errW_none, errW_some] <;> rfl) | (simp [*, errW_none, errW_some] <;> rfl), by repeat (first | (with_reducible first | exact HB.out | apply below_alloc | apply pw_below_drewN | apply below_drew1 | refine below_set ?_ GE154.out) | exact HB.out)⟩
              · replace c27 := Bool.eq_false_iff.mpr c27
                subst c27
                have H1 : (if 0 ≤ (IntKind.u64.wrap (wrap64 (7 - x6_5))) then (changelingref1_One.l0 kj24 a0 a1 x6_5 x7_5 x8_5 (Go.bits .and .i32 (wrap32 ((bt a0 a1))) (wrap32 ((shl .i32 1 (IntKind.u64.wrap (wrap64 (7 - x6_5)))) - 1))) 1) else (none)) = some (r1, r2, r3) := by rw [if_neg (show ¬ (false = true) by decide)] at H; exact H
                clear H
                have H := H1
                clear H1
                obtain ⟨ji29, hji29⟩ : ∃ j_ : Int, (IntKind.u64.wrap (wrap64 (7 - x6_5))) = j_ := ⟨_, rfl⟩
                replace H : (if 0 ≤ (ji29) then (changelingref1_One.l0 kj24 a0 a1 x6_5 x7_5 x8_5 (Go.bits .and .i32 (wrap32 ((bt a0 a1))) (wrap32 ((shl .i32 1 (ji29)) - 1))) 1) else (none)) = some (r1, r2, r3) := by first | (rw [hji29] at H; exact H) | (simp only [hji29] at H ⊢; exact H)
                by_cases c30 : 0 ≤ (ji29)
                · rw [if_pos c30] at H
                  have c30b0 := eq_true c30
                  have c30b1 : decide (0 ≤ (ji29)) = true := decide_eq_true c30
                  clear c30
                  obtain ⟨ji31, hji31⟩ : ∃ j_ : Int, (shl .i32 1 (ji29)) = j_ := ⟨_, rfl⟩
                  replace H : (changelingref1_One.l0 kj24 a0 a1 x6_5 x7_5 x8_5 (Go.bits .and .i32 (wrap32 ((bt a0 a1))) (wrap32 ((ji31) - 1))) 1) = some (r1, r2, r3) := by first | (rw [hji31] at H; exact H) | (simp only [hji31] at H ⊢; exact H)
                  have hji31_ : (IntKind.i32.wrap (1 * 2 ^ min (ji29).toNat 32)) = ji31 := hji31
                  have hji31z : (ji29) ≤ 32 → (IntKind.i32.wrap (1 * 2 ^ (ji29).toNat)) = ji31 := shl_small hji31
                  have hji31u : (IntKind.i32.wrap (2 ^ min (ji29).toNat 32)) = ji31 := by have h_ := hji31_; rw [Int.one_mul] at h_; exact h_
                  have hji31v : (ji29) ≤ 32 → (IntKind.i32.wrap (2 ^ (ji29).toNat)) = ji31 := fun hle_ => by have h_ := hji31z hle_; rw [Int.one_mul] at h_; exact h_
                  have hji31y : (wrap32 (1 * 2 ^ min (ji29).toNat 32)) = ji31 := (i32_w _).symm.trans hji31_
                  have hji31x : (ji29) ≤ 32 → (wrap32 (1 * 2 ^ (ji29).toNat)) = ji31 := fun h_ => (i32_w _).symm.trans (hji31z h_)
                  have H' := Aside0.mk H
                  clear H
                  go_wp2
                  go_loopg [9, 10] kj24 (fun kq v9 v10 w' => ∃ (x9_3 : Int) (x10_3 : Int) (x155000_3 : Int) (x155001_3 : Int) (x155002_3 : Bool), v9 = .int .i32 x9_3 ∧ v10 = .int .i64 x10_3 ∧ Aside0 (changelingref1_One.l0 kq a0 a1 x6_5 x7_5 x8_5 x9_3 x10_3 = some (r1, r2, r3)) ∧ Aside0 (kq ≤ kj24) ∧ Aside0 (w'.heap[gb154]? = some (.cells #[.int .i32 x155000_3, .int .i64 x155001_3, .bool x155002_3] 43 (0, 0))) ∧ Aside0 (Below w.heap.size w w'))
                  case atStart => exact ⟨(Go.bits .and .i32 (wrap32 ((bt a0 a1))) (wrap32 ((ji31) - 1))), (1), (x155000_5), (x155001_5), (x155002_5), (by first | rfl | (simp; done) | (simp only [← hji31] <;> (first | rfl | simp)) | (simp [*]; done)), (by first | rfl | (simp; done) | (simp [*]; done)), H', ⟨Nat.le_refl _⟩, ⟨by (with_reducible repeat (first | refine blk_drewN ?_ _ | refine blk_drew ?_ | refine blk_alloc ?_ _)); exact BK154.out⟩, ⟨by repeat (first | (with_reducible first | exact HB.out | apply below_alloc | apply pw_below_drewN | apply below_drew1 | refine below_set ?_ GE154.out) | exact HB.out)⟩⟩
                  case round =>
                    clear H'
                    try clear c1
                    try clear c2
                    try clear p2
                    try clear c3
                    try clear c3b0
                    try clear p3
                    try clear c4
                    try clear c4b0
                    try clear p5
                    try clear q5
                    try clear hx5
                    try clear p6
                    try clear c8
                    try clear c8b0
                    try clear c11
                    try clear c11b0
                    try clear c12
                    try clear c14
                    try clear c14b0
                    try clear c15
                    try clear c16
                    try clear c16b0
                    try clear c16b1
                    try clear c17
                    try clear c17b0
                    try clear c17b1
                    try clear c18
                    try clear c18b0
                    try clear c18b1
                    try clear c20
                    try clear c20b0
                    try clear c21
                    try clear c22
                    try clear c22b0
                    try clear c22b1
                    try clear c23
                    try clear c23b0
                    try clear c23b1
                    try clear c24
                    try clear c24b0
                    try clear c24b1
                    try clear c26
                    try clear c26b0
                    try clear c26b1
                    try clear c27
                    try clear c30
                    try clear c30b0
                    try clear c30b1
                    try clear hcz28_0
                    try clear hcz28_1
                    try clear hcz28_2
                    try clear hcz9_0
                    try clear hcz9_1
                    try clear hcz9_2
                    try clear hfz28_0
                    try clear hfz28_1
                    try clear hfz28_2
                    try clear hfz9_0
                    try clear hfz9_1
                    try clear hfz9_2
                    try clear p2
                    try clear p3
                    try clear p5
                    try clear p6
                    try clear q5
                    obtain ⟨x9_3, x10_3, x155000_3, x155001_3, x155002_3, rfl, rfl, HA, HK3, BK154, HB⟩ := hrel
                    cases gk with
                    | zero => exact absurd HA.out (by simp [changelingref1_One.l0])
                    | succ k3 =>
                      have H := HA.out
                      clear HA
                      simp only [changelingref1_One.l0] at H
                      by_cases c32 : x10_3 < x6_5
                      · rw [if_pos c32] at H
                        have c32b0 : decide (x10_3 < x6_5) = true := decide_eq_true c32
                        clear c32
                        obtain ⟨ji33, hji33⟩ : ∃ j_ : Int, (wrap64 (a1 + x10_3)) = j_ := ⟨_, rfl⟩
                        replace H : (if 0 ≤ (ji33) then (if (ji33) < (a0.size : Int) then (if x10_3 = 1 then (if (wrap64 (bt a0 (ji33))) < x7_5 then (some (65533, 1, true)) else (if (wrap64 (bt a0 (ji33))) > x8_5 then (some (65533, 1, true)) else (if (wrap64 (bt a0 (ji33))) < 128 then (some (65533, 1, true)) else (if (wrap64 (bt a0 (ji33))) > 191 then (some (65533, 1, true)) else (changelingref1_One.l0 k3 a0 a1 x6_5 x7_5 x8_5 (Go.bits .or .i32 (wrap32 (x9_3 * 64)) (wrap32 (Go.bits .and .i64 (wrap64 (bt a0 (ji33))) 63))) (wrap64 (x10_3 + 1))))))) else (if (wrap64 (bt a0 (ji33))) < 128 then (some (65533, 1, true)) else (if (wrap64 (bt a0 (ji33))) > 191 then (some (65533, 1, true)) else (changelingref1_One.l0 k3 a0 a1 x6_5 x7_5 x8_5 (Go.bits .or .i32 (wrap32 (x9_3 * 64)) (wrap32 (Go.bits .and .i64 (wrap64 (bt a0 (ji33))) 63))) (wrap64 (x10_3 + 1)))))) else (none)) else (none)) = some (r1, r2, r3) := by first | (rw [hji33] at H; exact H) | (simp only [hji33] at H ⊢; exact H)
                        have hji33w : (IntKind.i64.wrap (a1 + x10_3)) = ji33 := (i64_w _).trans hji33
                        by_cases c34 : 0 ≤ (ji33)
                        · rw [if_pos c34] at H
                          have c34b0 : decide (0 ≤ (ji33)) = true := decide_eq_true c34
                          clear c34
                          by_cases c35 : (ji33) < (a0.size : Int)
                          · rw [if_pos c35] at H
                            have c35b0 : decide ((ji33) < (a0.size : Int)) = true := decide_eq_true c35
                            clear c35
                            by_cases c37 : x10_3 = 1
                            · rw [if_pos c37] at H
                              have c37b0 : (x10_3 == 1) = true := beq_iff_eq.mpr c37
                              have c37b1 : (x10_3 != 1) = false := bne_eq_false_iff_eq.mpr c37
                              clear c37
                              by_cases c38 : (wrap64 (bt a0 (ji33))) < x7_5
                              · rw [if_pos c38] at H
                                have c38b0 : decide ((wrap64 (bt a0 (ji33))) < x7_5) = true := decide_eq_true c38
                                clear c38
                                simp only [Option.some.injEq, Prod.mk.injEq] at H
                                obtain ⟨rfl, rfl, rfl⟩ := H
                                have p36 : 0 ≤ ((ji33) : Int) := of_decide_eq_true (by first | (with_reducible assumption) | assumption)
                                have q36 : (ji33) < (a0.size : Int) := of_decide_eq_true (by first | (with_reducible assumption) | assumption)
                                have hx36 := bt_at a0 (ji33)
                                replace p36 := eq_true p36
                                replace q36 := eq_true q36
                                have hcz39_0 : wr.cell? ⟨gb154, 0, none⟩ = some (.int .i32 x155000_3) := (blk_cell BK154.out 0).trans rfl
                                have hcz39_1 : wr.cell? ⟨gb154, 1, none⟩ = some (.int .i64 x155001_3) := (blk_cell BK154.out 1).trans rfl
                                have hcz39_2 : wr.cell? ⟨gb154, 2, none⟩ = some (.bool x155002_3) := (blk_cell BK154.out 2).trans rfl
                                have hfz39_0 := blk_frozen BK154.out 0
                                have hfz39_1 := blk_frozen BK154.out 1
                                have hfz39_2 := blk_frozen BK154.out 2
                                go_wp2
                                refine bodyPost_ret (results_cell_row rfl _ _ gb154 43 #[.int .i32 65533, .int .i64 1, .bool true] (0, 0) _ rfl (by (with_reducible repeat (first | refine blk_drewN ?_ _ | refine blk_drew ?_ | refine blk_alloc ?_ _)); refine blk_put (cs := #[.int .i32 65533, .int .i64 1, .bool x155002_3]) ?_ 2 _ rfl; (with_reducible repeat (first | refine blk_drewN ?_ _ | refine blk_drew ?_ | refine blk_alloc ?_ _)); refine blk_put (cs := #[.int .i32 65533, .int .i64 x155001_3, .bool x155002_3]) ?_ 1 _ rfl; (with_reducible repeat (first | refine blk_drewN ?_ _ | refine blk_drew ?_ | refine blk_alloc ?_ _)); refine blk_put (cs := #[.int .i32 x155000_3, .int .i64 x155001_3, .bool x155002_3]) ?_ 0 _ rfl; (with_reducible repeat (first | refine blk_drewN ?_ _ | refine blk_drew ?_ | refine blk_alloc ?_ _)); exact BK154.out) Try.underlying43 rfl (by kernel_rfl)) rfl ?_
                                exact ⟨by first | rfl | (simp [errW_none, errW_some] <;> rfl) | (simp only [← hji29, ← hji31, ← hji33]; first | rfl | (simp [errW_none, errW_some] <;> rfl)) | (simp [*, errW_none, errW_some] <;> rfl), by repeat (first | (with_reducible first | exact HB.out | apply below_alloc | apply pw_below_drewN | apply below_drew1 | refine below_set ?_ GE154.out) | exact HB.out)⟩
                              · rw [if_neg c38] at H
                                have c38b0 : decide ((wrap64 (bt a0 (ji33))) < x7_5) = false := decide_eq_false c38
                                clear c38
                                by_cases c40 : (wrap64 (bt a0 (ji33))) > x8_5
                                · rw [if_pos c40] at H
                                  have c40b0 : decide (x8_5 < (wrap64 (bt a0 (ji33)))) = true := decide_eq_true c40
                                  clear c40
                                  simp only [Option.some.injEq, Prod.mk.injEq] at H
                                  obtain ⟨rfl, rfl, rfl⟩ := H
                                  have p36 : 0 ≤ ((ji33) : Int) := of_decide_eq_true (by first | (with_reducible assumption) | assumption)
                                  have q36 : (ji33) < (a0.size : Int) := of_decide_eq_true (by first | (with_reducible assumption) | assumption)
                                  have hx36 := bt_at a0 (ji33)
                                  replace p36 := eq_true p36
                                  replace q36 := eq_true q36
                                  have hcz41_0 : wr.cell? ⟨gb154, 0, none⟩ = some (.int .i32 x155000_3) := (blk_cell BK154.out 0).trans rfl
                                  have hcz41_1 : wr.cell? ⟨gb154, 1, none⟩ = some (.int .i64 x155001_3) := (blk_cell BK154.out 1).trans rfl
                                  have hcz41_2 : wr.cell? ⟨gb154, 2, none⟩ = some (.bool x155002_3) := (blk_cell BK154.out 2).trans rfl
                                  have hfz41_0 := blk_frozen BK154.out 0
                                  have hfz41_1 := blk_frozen BK154.out 1
                                  have hfz41_2 := blk_frozen BK154.out 2
                                  go_wp2
                                  refine bodyPost_ret (results_cell_row rfl _ _ gb154 43 #[.int .i32 65533, .int .i64 1, .bool true] (0, 0) _ rfl (by (with_reducible repeat (first | refine blk_drewN ?_ _ | refine blk_drew ?_ | refine blk_alloc ?_ _)); refine blk_put (cs := #[.int .i32 65533, .int .i64 1, .bool x155002_3]) ?_ 2 _ rfl; (with_reducible repeat (first | refine blk_drewN ?_ _ | refine blk_drew ?_ | refine blk_alloc ?_ _)); refine blk_put (cs := #[.int .i32 65533, .int .i64 x155001_3, .bool x155002_3]) ?_ 1 _ rfl; (with_reducible repeat (first | refine blk_drewN ?_ _ | refine blk_drew ?_ | refine blk_alloc ?_ _)); refine blk_put (cs := #[.int .i32 x155000_3, .int .i64 x155001_3, .bool x155002_3]) ?_ 0 _ rfl; (with_reducible repeat (first | refine blk_drewN ?_ _ | refine blk_drew ?_ | refine blk_alloc ?_ _)); exact BK154.out) Try.underlying43 rfl (by kernel_rfl)) rfl ?_
                                  exact ⟨by first | rfl | (simp [errW_none, errW_some] <;> rfl) | (simp only [← hji29, ← hji31, ← hji33]; first | rfl | (simp [errW_none, errW_some] <;> rfl)) | (simp [*, errW_none, errW_some] <;> rfl), by repeat (first | (with_reducible first | exact HB.out | apply below_alloc | apply pw_below_drewN | apply below_drew1 | refine below_set ?_ GE154.out) | exact HB.out)⟩
                                · rw [if_neg c40] at H
                                  have c40b0 : decide (x8_5 < (wrap64 (bt a0 (ji33)))) = false := decide_eq_false c40
                                  clear c40
                                  by_cases c42 : (wrap64 (bt a0 (ji33))) < 128
                                  · rw [if_pos c42] at H
                                    have c42b0 : decide ((wrap64 (bt a0 (ji33))) < 128) = true := decide_eq_true c42
                                    clear c42
                                    simp only [Option.some.injEq, Prod.mk.injEq] at H
                                    obtain ⟨rfl, rfl, rfl⟩ := H
                                    have p36 : 0 ≤ ((ji33) : Int) := of_decide_eq_true (by first | (with_reducible assumption) | assumption)
                                    have q36 : (ji33) < (a0.size : Int) := of_decide_eq_true (by first | (with_reducible assumption) | assumption)
                                    have hx36 := bt_at a0 (ji33)
                                    replace p36 := eq_true p36
                                    replace q36 := eq_true q36
                                    have hcz43_0 : wr.cell? ⟨gb154, 0, none⟩ = some (.int .i32 x155000_3) := (blk_cell BK154.out 0).trans rfl
                                    have hcz43_1 : wr.cell? ⟨gb154, 1, none⟩ = some (.int .i64 x155001_3) := (blk_cell BK154.out 1).trans rfl
                                    have hcz43_2 : wr.cell? ⟨gb154, 2, none⟩ = some (.bool x155002_3) := (blk_cell BK154.out 2).trans rfl
                                    have hfz43_0 := blk_frozen BK154.out 0
                                    have hfz43_1 := blk_frozen BK154.out 1
                                    have hfz43_2 := blk_frozen BK154.out 2
                                    go_wp2
                                    refine bodyPost_ret (results_cell_row rfl _ _ gb154 43 #[.int .i32 65533, .int .i64 1, .bool true] (0, 0) _ rfl (by (with_reducible repeat (first | refine blk_drewN ?_ _ | refine blk_drew ?_ | refine blk_alloc ?_ _)); refine blk_put (cs := #[.int .i32 65533, .int .i64 1, .bool x155002_3]) ?_ 2 _ rfl; (with_reducible repeat (first | refine blk_drewN ?_ _ | refine blk_drew ?_ | refine blk_alloc ?_ _)); refine blk_put (cs := #[.int .i32 65533, .int .i64 x155001_3, .bool x155002_3]) ?_ 1 _ rfl; (with_reducible repeat (first | refine blk_drewN ?_ _ | refine blk_drew ?_ | refine blk_alloc ?_ _)); refine blk_put (cs := #[.int .i32 x155000_3, .int .i64 x155001_3, .bool x155002_3]) ?_ 0 _ rfl; (with_reducible repeat (first | refine blk_drewN ?_ _ | refine blk_drew ?_ | refine blk_alloc ?_ _)); exact BK154.out) Try.underlying43 rfl (by kernel_rfl)) rfl ?_
                                    exact ⟨by first | rfl | (simp [errW_none, errW_some] <;> rfl) | (simp only [← hji29, ← hji31, ← hji33]; first | rfl | (simp [errW_none, errW_some] <;> rfl)) | (simp [*, errW_none, errW_some] <;> rfl), by repeat (first | (with_reducible first | exact HB.out | apply below_alloc | apply pw_below_drewN | apply below_drew1 | refine below_set ?_ GE154.out) | exact HB.out)⟩
                                  · rw [if_neg c42] at H
                                    have c42b0 : decide ((wrap64 (bt a0 (ji33))) < 128) = false := decide_eq_false c42
                                    clear c42
                                    by_cases c44 : (wrap64 (bt a0 (ji33))) > 191
                                    · rw [if_pos c44] at H
                                      have c44b0 : decide (191 < (wrap64 (bt a0 (ji33)))) = true := decide_eq_true c44
                                      clear c44
                                      simp only [Option.some.injEq, Prod.mk.injEq] at H
                                      obtain ⟨rfl, rfl, rfl⟩ := H
                                      have p36 : 0 ≤ ((ji33) : Int) := of_decide_eq_true (by first | (with_reducible assumption) | assumption)
                                      have q36 : (ji33) < (a0.size : Int) := of_decide_eq_true (by first | (with_reducible assumption) | assumption)
                                      have hx36 := bt_at a0 (ji33)
                                      replace p36 := eq_true p36
                                      replace q36 := eq_true q36
                                      have hcz45_0 : wr.cell? ⟨gb154, 0, none⟩ = some (.int .i32 x155000_3) := (blk_cell BK154.out 0).trans rfl
                                      have hcz45_1 : wr.cell? ⟨gb154, 1, none⟩ = some (.int .i64 x155001_3) := (blk_cell BK154.out 1).trans rfl
                                      have hcz45_2 : wr.cell? ⟨gb154, 2, none⟩ = some (.bool x155002_3) := (blk_cell BK154.out 2).trans rfl
                                      have hfz45_0 := blk_frozen BK154.out 0
                                      have hfz45_1 := blk_frozen BK154.out 1
                                      have hfz45_2 := blk_frozen BK154.out 2
                                      go_wp2
                                      refine bodyPost_ret (results_cell_row rfl _ _ gb154 43 #[.int .i32 65533, .int .i64 1, .bool true] (0, 0) _ rfl (by (with_reducible repeat (first | refine blk_drewN ?_ _ | refine blk_drew ?_ | refine blk_alloc ?_ _)); refine blk_put (cs := #[.int .i32 65533, .int .i64 1, .bool x155002_3]) ?_ 2 _ rfl; (with_reducible repeat (first | refine blk_drewN ?_ _ | refine blk_drew ?_ | refine blk_alloc ?_ _)); refine blk_put (cs := #[.int .i32 65533, .int .i64 x155001_3, .bool x155002_3]) ?_ 1 _ rfl; (with_reducible repeat (first | refine blk_drewN ?_ _ | refine blk_drew ?_ | refine blk_alloc ?_ _)); refine blk_put (cs := #[.int .i32 x155000_3, .int .i64 x155001_3, .bool x155002_3]) ?_ 0 _ rfl; (with_reducible repeat (first | refine blk_drewN ?_ _ | refine blk_drew ?_ | refine blk_alloc ?_ _)); exact BK154.out) Try.underlying43 rfl (by kernel_rfl)) rfl ?_
                                      exact ⟨by first | rfl | (simp [errW_none, errW_some] <;> rfl) | (simp only [← hji29, ← hji31, ← hji33]; first | rfl | (simp [errW_none, errW_some] <;> rfl)) | (simp [*, errW_none, errW_some] <;> rfl), by repeat (first | (with_reducible first | exact HB.out | apply below_alloc | apply pw_below_drewN | apply below_drew1 | refine below_set ?_ GE154.out) | exact HB.out)⟩
                                    · rw [if_neg c44] at H
                                      have c44b0 : decide (191 < (wrap64 (bt a0 (ji33)))) = false := decide_eq_false c44
                                      clear c44
                                      have H' := Aside0.mk H
                                      clear H
                                      have p36 : 0 ≤ ((ji33) : Int) := of_decide_eq_true (by first | (with_reducible assumption) | assumption)
                                      have q36 : (ji33) < (a0.size : Int) := of_decide_eq_true (by first | (with_reducible assumption) | assumption)
                                      have hx36 := bt_at a0 (ji33)
                                      replace p36 := eq_true p36
                                      replace q36 := eq_true q36
                                      go_wp2
                                      go_roundg k3
                                      case measure => have := HJ5.out; have := HJ24.out; have := HK3.out; omega
                                      case rel => exact ⟨(Go.bits .or .i32 (wrap32 (x9_3 * 64)) (wrap32 (Go.bits .and .i64 (wrap64 (bt a0 (ji33))) 63))), (wrap64 (x10_3 + 1)), (x155000_3), (x155001_3), (x155002_3), (by first | rfl | (simp; done) | (simp only [← hji33] <;> (first | rfl | simp)) | (simp [*]; done)), (by first | rfl | (simp; done) | (simp [*]; done)), H', ⟨by have := HJ5.out; have := HJ24.out; have := HK3.out; omega⟩, ⟨by (with_reducible repeat (first | refine blk_drewN ?_ _ | refine blk_drew ?_ | refine blk_alloc ?_ _)); exact BK154.out⟩, ⟨by repeat (first | (with_reducible first | exact HB.out | apply below_alloc | apply pw_below_drewN | apply below_drew1 | refine below_set ?_ GE154.out) | exact HB.out)⟩⟩
                            · rw [if_neg c37] at H
                              have c37b0 : (x10_3 == 1) = false := beq_eq_false_iff_ne.mpr c37
                              have c37b1 : (x10_3 != 1) = true := bne_iff_ne.mpr c37
                              by_cases c46 : (wrap64 (bt a0 (ji33))) < 128
                              · rw [if_pos c46] at H
                                have c46b0 : decide ((wrap64 (bt a0 (ji33))) < 128) = true := decide_eq_true c46
                                clear c46
                                simp only [Option.some.injEq, Prod.mk.injEq] at H
                                obtain ⟨rfl, rfl, rfl⟩ := H
                                have p36 : 0 ≤ ((ji33) : Int) := of_decide_eq_true (by first | (with_reducible assumption) | assumption)
                                have q36 : (ji33) < (a0.size : Int) := of_decide_eq_true (by first | (with_reducible assumption) | assumption)
                                have hx36 := bt_at a0 (ji33)
                                replace p36 := eq_true p36
                                replace q36 := eq_true q36
                                have hcz47_0 : wr.cell? ⟨gb154, 0, none⟩ = some (.int .i32 x155000_3) := (blk_cell BK154.out 0).trans rfl
                                have hcz47_1 : wr.cell? ⟨gb154, 1, none⟩ = some (.int .i64 x155001_3) := (blk_cell BK154.out 1).trans rfl
                                have hcz47_2 : wr.cell? ⟨gb154, 2, none⟩ = some (.bool x155002_3) := (blk_cell BK154.out 2).trans rfl
                                have hfz47_0 := blk_frozen BK154.out 0
                                have hfz47_1 := blk_frozen BK154.out 1
                                have hfz47_2 := blk_frozen BK154.out 2
                                go_wp2
                                refine bodyPost_ret (results_cell_row rfl _ _ gb154 43 #[.int .i32 65533, .int .i64 1, .bool true] (0, 0) _ rfl (by (with_reducible repeat (first | refine blk_drewN ?_ _ | refine blk_drew ?_ | refine blk_alloc ?_ _)); refine blk_put (cs := #[.int .i32 65533, .int .i64 1, .bool x155002_3]) ?_ 2 _ rfl; (with_reducible repeat (first | refine blk_drewN ?_ _ | refine blk_drew ?_ | refine blk_alloc ?_ _)); refine blk_put (cs := #[.int .i32 65533, .int .i64 x155001_3, .bool x155002_3]) ?_ 1 _ rfl; (with_reducible repeat (first | refine blk_drewN ?_ _ | refine blk_drew ?_ | refine blk_alloc ?_ _)); refine blk_put (cs := #[.int .i32 x155000_3, .int .i64 x155001_3, .bool x155002_3]) ?_ 0 _ rfl; (with_reducible repeat (first | refine blk_drewN ?_ _ | refine blk_drew ?_ | refine blk_alloc ?_ _)); exact BK154.out) Try.underlying43 rfl (by kernel_rfl)) rfl ?_
                                exact ⟨by first | rfl | (simp [errW_none, errW_some] <;> rfl) | (simp only [← hji29, ← hji31, ← hji33]; first | rfl | (simp [errW_none, errW_some] <;> rfl)) | (simp [*, errW_none, errW_some] <;> rfl), by repeat (first | (with_reducible first | exact HB.out | apply below_alloc | apply pw_below_drewN | apply below_drew1 | refine below_set ?_ GE154.out) | exact HB.out)⟩
                              · rw [if_neg c46] at H
                                have c46b0 : decide ((wrap64 (bt a0 (ji33))) < 128) = false := decide_eq_false c46
                                clear c46
                                by_cases c48 : (wrap64 (bt a0 (ji33))) > 191
                                · rw [if_pos c48] at H
                                  have c48b0 : decide (191 < (wrap64 (bt a0 (ji33)))) = true := decide_eq_true c48
                                  clear c48
                                  simp only [Option.some.injEq, Prod.mk.injEq] at H
                                  obtain ⟨rfl, rfl, rfl⟩ := H
                                  have p36 : 0 ≤ ((ji33) : Int) := of_decide_eq_true (by first | (with_reducible assumption) | assumption)
                                  have q36 : (ji33) < (a0.size : Int) := of_decide_eq_true (by first | (with_reducible assumption) | assumption)
                                  have hx36 := bt_at a0 (ji33)
                                  replace p36 := eq_true p36
                                  replace q36 := eq_true q36
                                  have hcz49_0 : wr.cell? ⟨gb154, 0, none⟩ = some (.int .i32 x155000_3) := (blk_cell BK154.out 0).trans rfl
                                  have hcz49_1 : wr.cell? ⟨gb154, 1, none⟩ = some (.int .i64 x155001_3) := (blk_cell BK154.out 1).trans rfl
                                  have hcz49_2 : wr.cell? ⟨gb154, 2, none⟩ = some (.bool x155002_3) := (blk_cell BK154.out 2).trans rfl
                                  have hfz49_0 := blk_frozen BK154.out 0
                                  have hfz49_1 := blk_frozen BK154.out 1
                                  have hfz49_2 := blk_frozen BK154.out 2
                                  go_wp2
                                  refine bodyPost_ret (results_cell_row rfl _ _ gb154 43 #[.int .i32 65533, .int .i64 1, .bool true] (0, 0) _ rfl (by (with_reducible repeat (first | refine blk_drewN ?_ _ | refine blk_drew ?_ | refine blk_alloc ?_ _)); refine blk_put (cs := #[.int .i32 65533, .int .i64 1, .bool x155002_3]) ?_ 2 _ rfl; (with_reducible repeat (first | refine blk_drewN ?_ _ | refine blk_drew ?_ | refine blk_alloc ?_ _)); refine blk_put (cs := #[.int .i32 65533, .int .i64 x155001_3, .bool x155002_3]) ?_ 1 _ rfl; (with_reducible repeat (first | refine blk_drewN ?_ _ | refine blk_drew ?_ | refine blk_alloc ?_ _)); refine blk_put (cs := #[.int .i32 x155000_3, .int .i64 x155001_3, .bool x155002_3]) ?_ 0 _ rfl; (with_reducible repeat (first | refine blk_drewN ?_ _ | refine blk_drew ?_ | refine blk_alloc ?_ _)); exact BK154.out) Try.underlying43 rfl (by kernel_rfl)) rfl ?_
                                  exact ⟨by first | rfl | (simp [errW_none, errW_some] <;> rfl) | (simp only [← hji29, ← hji31, ← hji33]; first | rfl | (simp [errW_none, errW_some] <;> rfl)) | (simp [*, errW_none, errW_some] <;> rfl), by repeat (first | (with_reducible first | exact HB.out | apply below_alloc | apply pw_below_drewN | apply below_drew1 | refine below_set ?_ GE154.out) | exact HB.out)⟩
                                · rw [if_neg c48] at H
                                  have c48b0 : decide (191 < (wrap64 (bt a0 (ji33)))) = false := decide_eq_false c48
                                  clear c48
                                  have H' := Aside0.mk H
                                  clear H
                                  have p36 : 0 ≤ ((ji33) : Int) := of_decide_eq_true (by first | (with_reducible assumption) | assumption)
                                  have q36 : (ji33) < (a0.size : Int) := of_decide_eq_true (by first | (with_reducible assumption) | assumption)
                                  have hx36 := bt_at a0 (ji33)
                                  replace p36 := eq_true p36
                                  replace q36 := eq_true q36
                                  go_wp2
                                  go_roundg k3
                                  case measure => have := HJ5.out; have := HJ24.out; have := HK3.out; omega
                                  case rel => exact ⟨(Go.bits .or .i32 (wrap32 (x9_3 * 64)) (wrap32 (Go.bits .and .i64 (wrap64 (bt a0 (ji33))) 63))), (wrap64 (x10_3 + 1)), (x155000_3), (x155001_3), (x155002_3), (by first | rfl | (simp; done) | (simp only [← hji33] <;> (first | rfl | simp)) | (simp [*]; done)), (by first | rfl | (simp; done) | (simp [*]; done)), H', ⟨by have := HJ5.out; have := HJ24.out; have := HK3.out; omega⟩, ⟨by (with_reducible repeat (first | refine blk_drewN ?_ _ | refine blk_drew ?_ | refine blk_alloc ?_ _)); exact BK154.out⟩, ⟨by repeat (first | (with_reducible first | exact HB.out | apply below_alloc | apply pw_below_drewN | apply below_drew1 | refine below_set ?_ GE154.out) | exact HB.out)⟩⟩
                          · rw [if_neg c35] at H
                            exact absurd H (by simp)
                        · rw [if_neg c34] at H
                          exact absurd H (by simp)
                      · rw [if_neg c32] at H
                        have c32b0 : decide (x10_3 < x6_5) = false := decide_eq_false c32
                        clear c32
                        simp only [Option.some.injEq, Prod.mk.injEq] at H
                        obtain ⟨rfl, rfl, rfl⟩ := H
                        have hcz50_0 : wr.cell? ⟨gb154, 0, none⟩ = some (.int .i32 x155000_3) := (blk_cell BK154.out 0).trans rfl
                        have hcz50_1 : wr.cell? ⟨gb154, 1, none⟩ = some (.int .i64 x155001_3) := (blk_cell BK154.out 1).trans rfl
                        have hcz50_2 : wr.cell? ⟨gb154, 2, none⟩ = some (.bool x155002_3) := (blk_cell BK154.out 2).trans rfl
                        have hfz50_0 := blk_frozen BK154.out 0
                        have hfz50_1 := blk_frozen BK154.out 1
                        have hfz50_2 := blk_frozen BK154.out 2
                        go_wp2
                        refine bodyPost_ret (results_cell_row rfl _ _ gb154 43 #[.int .i32 x9_3, .int .i64 x6_5, .bool false] (0, 0) _ rfl (by (with_reducible repeat (first | refine blk_drewN ?_ _ | refine blk_drew ?_ | refine blk_alloc ?_ _)); refine blk_put (cs := #[.int .i32 x9_3, .int .i64 x6_5, .bool x155002_3]) ?_ 2 _ rfl; (with_reducible repeat (first | refine blk_drewN ?_ _ | refine blk_drew ?_ | refine blk_alloc ?_ _)); refine blk_put (cs := #[.int .i32 x9_3, .int .i64 x155001_3, .bool x155002_3]) ?_ 1 _ rfl; (with_reducible repeat (first | refine blk_drewN ?_ _ | refine blk_drew ?_ | refine blk_alloc ?_ _)); refine blk_put (cs := #[.int .i32 x155000_3, .int .i64 x155001_3, .bool x155002_3]) ?_ 0 _ rfl; (with_reducible repeat (first | refine blk_drewN ?_ _ | refine blk_drew ?_ | refine blk_alloc ?_ _)); exact BK154.out) Try.underlying43 rfl (by kernel_rfl)) rfl ?_
                        exact ⟨by first | rfl | (simp [errW_none, errW_some] <;> rfl) | (simp only [← hji29, ← hji31]; first | rfl | (simp [errW_none, errW_some] <;> rfl)) | (simp [*, errW_none, errW_some] <;> rfl), by repeat (first | (with_reducible first | exact HB.out | apply below_alloc | apply pw_below_drewN | apply below_drew1 | refine below_set ?_ GE154.out) | exact HB.out)⟩
                · rw [if_neg c30] at H
                  exact absurd H (by simp)
    · rw [if_neg c4] at H
      exact absurd H (by simp)
  · rw [if_neg c3] at H
    exact absurd H (by simp)

end Go.Proofs.Ytfhoaakgpkgnfaa.Q
