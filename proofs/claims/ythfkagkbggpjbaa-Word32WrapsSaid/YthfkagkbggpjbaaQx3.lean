-- Written by a program of this session (wip/tool/mp.py), out of the translation; Lean checks it.
import Derived.Test.YthfkagkbggpjbaaQx0
import Derived.Test.YthfkagkbggpjbaaQx1
import Derived.Test.YthfkagkbggpjbaaQx2
namespace Go.Proofs.Ythfkagkbggpjbaa.Q
open Go.RowKit Go.Proofs.YthfkagkbggpjbaaW.PrintWords Go.Proofs.YthfkagkbggpjbaaW.PrintLast Go.Proofs.YthfkagkbggpjbaaW.PrintMore
attribute [local go_sem] max2_int min2_int max_two min_two max_three min_three max_four min_four   -- for this text's walks alone
set_option linter.unusedVariables false
set_option linter.unusedSimpArgs false

/-! ### changelinglaw13_Word32Laws: function 4 -/
mutual
def changelinglaw13_Word32Laws.j0 : Nat → Int → Int → Bool → Option (Bool)
  | 0, _, _, _ => none
  | k + 1, x0, x1, x75 => if x75 = true then (some false) else ((word32_Less.f (⟨#[60]⟩ : ByteArray) x0 x1).bind fun bt159 => ((word32_Less.f (⟨#[60, 61]⟩ : ByteArray) x1 x0).bind fun bt161 => ((word32_Less.f (⟨#[61, 61]⟩ : ByteArray) x0 x1).bind fun bt163 => (if bt159.2 = true then (if bt161.2 = true then (if bt163.2 = true then (if (bt159.1 == bt161.1) = true then (changelinglaw13_Word32Laws.j1 k x0 x1 true) else (changelinglaw13_Word32Laws.j1 k x0 x1 (bt163.1 != (x0 == x1)))) else (changelinglaw13_Word32Laws.j1 k x0 x1 true)) else (changelinglaw13_Word32Laws.j1 k x0 x1 true)) else (changelinglaw13_Word32Laws.j1 k x0 x1 true)))))
def changelinglaw13_Word32Laws.j1 : Nat → Int → Int → Bool → Option (Bool)
  | 0, _, _, _ => none
  | k + 1, x0, x1, x115 => if x115 = true then (some false) else ((word32_Do.f (⟨#[47]⟩ : ByteArray) x0 x1).bind fun bt165 => ((word32_Do.f (⟨#[37]⟩ : ByteArray) x0 x1).bind fun bt167 => (if x1 = 0 then ((changelinglaw13_told.f k).bind fun t169 => (if t169 = true then (if bt165.2 = true then (some false) else (if bt167.2 = true then (some false) else (if bt165.1 = 0 then (some (bt167.1 == 0)) else (some false)))) else (some false))) else ((word32_Do.f (⟨#[42]⟩ : ByteArray) bt165.1 x1).bind fun bt170 => ((word32_Do.f (⟨#[43]⟩ : ByteArray) bt170.1 bt167.1).bind fun bt172 => ((changelinglaw13_told.f k).bind fun t174 => (if t174 = true then (if bt165.2 = true then (if bt167.2 = true then (if bt170.2 = true then (if bt172.2 = true then (if bt172.1 = x0 then (if bt167.1 = 0 then (some true) else (some ((decide (bt167.1 < 0)) == (decide (x0 < 0))))) else (some false)) else (some false)) else (some false)) else (some false)) else (some false)) else (some false))))))))
end
def changelinglaw13_Word32Laws.f (k : Nat) (a0 : Int) (a1 : Int) : Option (Bool) := (word32_Do.f (⟨#[43]⟩ : ByteArray) a0 a1).bind fun bt150 => ((word32_Do.f (⟨#[45]⟩ : ByteArray) bt150.1 a1).bind fun bt152 => ((word32_Neg.f a1).bind fun t154 => ((word32_Do.f (⟨#[43]⟩ : ByteArray) a0 t154).bind fun bt155 => ((word32_Do.f (⟨#[45]⟩ : ByteArray) a0 a1).bind fun bt157 => (if bt150.2 = true then (if bt152.2 = true then (if bt155.2 = true then (if bt157.2 = true then (if bt152.1 = a0 then (changelinglaw13_Word32Laws.j0 k a0 a1 (bt155.1 != bt157.1)) else (changelinglaw13_Word32Laws.j0 k a0 a1 true)) else (changelinglaw13_Word32Laws.j0 k a0 a1 true)) else (changelinglaw13_Word32Laws.j0 k a0 a1 true)) else (changelinglaw13_Word32Laws.j0 k a0 a1 true)) else (changelinglaw13_Word32Laws.j0 k a0 a1 true))))))
theorem changelinglaw13_Word32Laws.mono_l : ∀ k, (∀ y0 y1 y2, LeO (changelinglaw13_Word32Laws.j0 k y0 y1 y2) (changelinglaw13_Word32Laws.j0 (k + 1) y0 y1 y2)) ∧ (∀ y0 y1 y2, LeO (changelinglaw13_Word32Laws.j1 k y0 y1 y2) (changelinglaw13_Word32Laws.j1 (k + 1) y0 y1 y2))
  | 0 => ⟨fun _ _ _ r h => by simp [changelinglaw13_Word32Laws.j0] at h, fun _ _ _ r h => by simp [changelinglaw13_Word32Laws.j1] at h⟩
  | k + 1 => by
    obtain ⟨ih0, ih1⟩ := changelinglaw13_Word32Laws.mono_l k
    refine ⟨?_, ?_⟩
    · intro y0 y1 y2
      unfold changelinglaw13_Word32Laws.j0
      repeat' first
      | (with_reducible exact ih0 _ _ _)
      | (with_reducible exact ih1 _ _ _)
      | (with_reducible exact changelinglaw13_told.mono _)
      | (with_reducible exact LeO.refl _)
      | (with_reducible exact LeO.none _)
      | (with_reducible refine LeO.ite ?_ ?_)
      | (with_reducible refine LeO.bind ?_ (fun _ => ?_))
      | exact ih0 _ _ _
      | exact ih1 _ _ _
      | exact changelinglaw13_told.mono _
      | exact LeO.none _
      | refine LeO.ite ?_ ?_
      | refine LeO.bind ?_ (fun _ => ?_)
    · intro y0 y1 y2
      unfold changelinglaw13_Word32Laws.j1
      repeat' first
      | (with_reducible exact ih0 _ _ _)
      | (with_reducible exact ih1 _ _ _)
      | (with_reducible exact changelinglaw13_told.mono _)
      | (with_reducible exact LeO.refl _)
      | (with_reducible exact LeO.none _)
      | (with_reducible refine LeO.ite ?_ ?_)
      | (with_reducible refine LeO.bind ?_ (fun _ => ?_))
      | exact ih0 _ _ _
      | exact ih1 _ _ _
      | exact changelinglaw13_told.mono _
      | exact LeO.none _
      | refine LeO.ite ?_ ?_
      | refine LeO.bind ?_ (fun _ => ?_)
theorem changelinglaw13_Word32Laws.mono : ∀ a0 a1 k, LeO (changelinglaw13_Word32Laws.f k a0 a1) (changelinglaw13_Word32Laws.f (k + 1) a0 a1) := by
  intro a0 a1 k
  obtain ⟨ih0, ih1⟩ := changelinglaw13_Word32Laws.mono_l k
  unfold changelinglaw13_Word32Laws.f
  repeat' first
      | (with_reducible exact ih0 _ _ _)
      | (with_reducible exact ih1 _ _ _)
      | (with_reducible exact changelinglaw13_told.mono _)
      | (with_reducible exact LeO.refl _)
      | (with_reducible exact LeO.none _)
      | (with_reducible refine LeO.ite ?_ ?_)
      | (with_reducible refine LeO.bind ?_ (fun _ => ?_))
      | exact ih0 _ _ _
      | exact ih1 _ _ _
      | exact changelinglaw13_told.mono _
      | exact LeO.none _
      | refine LeO.ite ?_ ?_
      | refine LeO.bind ?_ (fun _ => ?_)
set_option maxHeartbeats 8000000 in
set_option maxRecDepth 100000 in
theorem changelinglaw13_Word32Laws.calls (k : Nat) (a0 : Int) (a1 : Int) (r : Bool) (w : World) (h : changelinglaw13_Word32Laws.f k a0 a1 = some r) :
    Calls Try.prog 4 #[.int .i32 a0, .int .i32 a1] w fun e w' => e = .returned (.bool r) ∧ Below w.heap.size w w' := by
  have HB := Aside0.mk (Below.refl w.heap.size w)
  have H : ((word32_Do.f (⟨#[43]⟩ : ByteArray) a0 a1).bind fun bt150 => ((word32_Do.f (⟨#[45]⟩ : ByteArray) bt150.1 a1).bind fun bt152 => ((word32_Neg.f a1).bind fun t154 => ((word32_Do.f (⟨#[43]⟩ : ByteArray) a0 t154).bind fun bt155 => ((word32_Do.f (⟨#[45]⟩ : ByteArray) a0 a1).bind fun bt157 => (if bt150.2 = true then (if bt152.2 = true then (if bt155.2 = true then (if bt157.2 = true then (if bt152.1 = a0 then (changelinglaw13_Word32Laws.j0 k a0 a1 (bt155.1 != bt157.1)) else (changelinglaw13_Word32Laws.j0 k a0 a1 true)) else (changelinglaw13_Word32Laws.j0 k a0 a1 true)) else (changelinglaw13_Word32Laws.j0 k a0 a1 true)) else (changelinglaw13_Word32Laws.j0 k a0 a1 true)) else (changelinglaw13_Word32Laws.j0 k a0 a1 true))))))) = some r := h
  clear h
  replace H := Option.bind_eq_some_iff.mp H
  obtain ⟨⟨t150, t151⟩, A30, H⟩ := H
  replace H : ((word32_Do.f (⟨#[45]⟩ : ByteArray) t150 a1).bind fun bt152 => ((word32_Neg.f a1).bind fun t154 => ((word32_Do.f (⟨#[43]⟩ : ByteArray) a0 t154).bind fun bt155 => ((word32_Do.f (⟨#[45]⟩ : ByteArray) a0 a1).bind fun bt157 => (if t151 = true then (if bt152.2 = true then (if bt155.2 = true then (if bt157.2 = true then (if bt152.1 = a0 then (changelinglaw13_Word32Laws.j0 k a0 a1 (bt155.1 != bt157.1)) else (changelinglaw13_Word32Laws.j0 k a0 a1 true)) else (changelinglaw13_Word32Laws.j0 k a0 a1 true)) else (changelinglaw13_Word32Laws.j0 k a0 a1 true)) else (changelinglaw13_Word32Laws.j0 k a0 a1 true)) else (changelinglaw13_Word32Laws.j0 k a0 a1 true)))))) = some r := H
  have A3 := Aside0.mk A30
  clear A30
  replace H := Option.bind_eq_some_iff.mp H
  obtain ⟨⟨t152, t153⟩, A40, H⟩ := H
  replace H : ((word32_Neg.f a1).bind fun t154 => ((word32_Do.f (⟨#[43]⟩ : ByteArray) a0 t154).bind fun bt155 => ((word32_Do.f (⟨#[45]⟩ : ByteArray) a0 a1).bind fun bt157 => (if t151 = true then (if t153 = true then (if bt155.2 = true then (if bt157.2 = true then (if t152 = a0 then (changelinglaw13_Word32Laws.j0 k a0 a1 (bt155.1 != bt157.1)) else (changelinglaw13_Word32Laws.j0 k a0 a1 true)) else (changelinglaw13_Word32Laws.j0 k a0 a1 true)) else (changelinglaw13_Word32Laws.j0 k a0 a1 true)) else (changelinglaw13_Word32Laws.j0 k a0 a1 true)) else (changelinglaw13_Word32Laws.j0 k a0 a1 true))))) = some r := H
  have A4 := Aside0.mk A40
  clear A40
  replace H := Option.bind_eq_some_iff.mp H
  obtain ⟨t154, A50, H⟩ := H
  replace H : ((word32_Do.f (⟨#[43]⟩ : ByteArray) a0 t154).bind fun bt155 => ((word32_Do.f (⟨#[45]⟩ : ByteArray) a0 a1).bind fun bt157 => (if t151 = true then (if t153 = true then (if bt155.2 = true then (if bt157.2 = true then (if t152 = a0 then (changelinglaw13_Word32Laws.j0 k a0 a1 (bt155.1 != bt157.1)) else (changelinglaw13_Word32Laws.j0 k a0 a1 true)) else (changelinglaw13_Word32Laws.j0 k a0 a1 true)) else (changelinglaw13_Word32Laws.j0 k a0 a1 true)) else (changelinglaw13_Word32Laws.j0 k a0 a1 true)) else (changelinglaw13_Word32Laws.j0 k a0 a1 true)))) = some r := H
  have A5 := Aside0.mk A50
  clear A50
  replace H := Option.bind_eq_some_iff.mp H
  obtain ⟨⟨t155, t156⟩, A60, H⟩ := H
  replace H : ((word32_Do.f (⟨#[45]⟩ : ByteArray) a0 a1).bind fun bt157 => (if t151 = true then (if t153 = true then (if t156 = true then (if bt157.2 = true then (if t152 = a0 then (changelinglaw13_Word32Laws.j0 k a0 a1 (t155 != bt157.1)) else (changelinglaw13_Word32Laws.j0 k a0 a1 true)) else (changelinglaw13_Word32Laws.j0 k a0 a1 true)) else (changelinglaw13_Word32Laws.j0 k a0 a1 true)) else (changelinglaw13_Word32Laws.j0 k a0 a1 true)) else (changelinglaw13_Word32Laws.j0 k a0 a1 true))) = some r := H
  have A6 := Aside0.mk A60
  clear A60
  replace H := Option.bind_eq_some_iff.mp H
  obtain ⟨⟨t157, t158⟩, A70, H⟩ := H
  replace H : (if t151 = true then (if t153 = true then (if t156 = true then (if t158 = true then (if t152 = a0 then (changelinglaw13_Word32Laws.j0 k a0 a1 (t155 != t157)) else (changelinglaw13_Word32Laws.j0 k a0 a1 true)) else (changelinglaw13_Word32Laws.j0 k a0 a1 true)) else (changelinglaw13_Word32Laws.j0 k a0 a1 true)) else (changelinglaw13_Word32Laws.j0 k a0 a1 true)) else (changelinglaw13_Word32Laws.j0 k a0 a1 true)) = some r := H
  have A7 := Aside0.mk A70
  clear A70
  have HC8 := Aside0.mk H
  clear H
  go_enter Try.func4, Try.ntmps4
  go_upto_region 5 with (first | ((with_reducible refine gate_callee (f := 8) rfl ?_); refine goesL_ (some 30) rfl rfl Try.func8 (by kernel_rfl) rfl #[.string (⟨#[43]⟩ : ByteArray), .int .i32 a0, .int .i32 a1] rfl (by (try simp only [List.map_toArray, List.map_cons, List.map_nil]); first | done | rfl | (simp only [List.length_drop, List.length_take]; rfl)) ?_; (with_reducible refine (word32_Do.calls (⟨#[43]⟩ : ByteArray) a0 a1 t150 t151 _ A3.out).mono ?_); rintro e w' ⟨rfl, ⟨nd, rfl⟩⟩; refine ⟨_, rfl, ?_⟩) | ((with_reducible refine gate_callee (f := 8) rfl ?_); refine goesL_ (some 36) rfl rfl Try.func8 (by kernel_rfl) rfl #[.string (⟨#[45]⟩ : ByteArray), .int .i32 t150, .int .i32 a1] rfl (by (try simp only [List.map_toArray, List.map_cons, List.map_nil]); first | done | rfl | (simp only [List.length_drop, List.length_take]; rfl)) ?_; (with_reducible refine (word32_Do.calls (⟨#[45]⟩ : ByteArray) t150 a1 t152 t153 _ A4.out).mono ?_); rintro e w' ⟨rfl, ⟨nd, rfl⟩⟩; refine ⟨_, rfl, ?_⟩) | ((with_reducible refine gate_callee (f := 12) rfl ?_); refine goesL_ (some 42) rfl rfl Try.func12 (by kernel_rfl) rfl #[.int .i32 a1] rfl (by (try simp only [List.map_toArray, List.map_cons, List.map_nil]); first | done | rfl | (simp only [List.length_drop, List.length_take]; rfl)) ?_; (with_reducible refine (word32_Neg.calls a1 t154 _ A5.out).mono ?_); rintro e w' ⟨rfl, ⟨nd, rfl⟩⟩; refine ⟨_, rfl, ?_⟩) | ((with_reducible refine gate_callee (f := 8) rfl ?_); refine goesL_ (some 43) rfl rfl Try.func8 (by kernel_rfl) rfl #[.string (⟨#[43]⟩ : ByteArray), .int .i32 a0, .int .i32 t154] rfl (by (try simp only [List.map_toArray, List.map_cons, List.map_nil]); first | done | rfl | (simp only [List.length_drop, List.length_take]; rfl)) ?_; (with_reducible refine (word32_Do.calls (⟨#[43]⟩ : ByteArray) a0 t154 t155 t156 _ A6.out).mono ?_); rintro e w' ⟨rfl, ⟨nd, rfl⟩⟩; refine ⟨_, rfl, ?_⟩) | ((with_reducible refine gate_callee (f := 8) rfl ?_); refine goesL_ (some 49) rfl rfl Try.func8 (by kernel_rfl) rfl #[.string (⟨#[45]⟩ : ByteArray), .int .i32 a0, .int .i32 a1] rfl (by (try simp only [List.map_toArray, List.map_cons, List.map_nil]); first | done | rfl | (simp only [List.length_drop, List.length_take]; rfl)) ?_; (with_reducible refine (word32_Do.calls (⟨#[45]⟩ : ByteArray) a0 a1 t157 t158 _ A7.out).mono ?_); rintro e w' ⟨rfl, ⟨nd, rfl⟩⟩; refine ⟨_, rfl, ?_⟩))
  (try simp only [Act.put, List.setIfInBounds_toArray, List.set_cons_zero, List.set_cons_succ])
  go_cut [75] (fun v75 wc => ∃ (kq : Nat) (x75_7 : Bool), v75 = .bool x75_7 ∧ Aside0 (changelinglaw13_Word32Laws.j0 kq a0 a1 x75_7 = some r) ∧ Aside0 (kq ≤ k) ∧ Aside0 (Below w.heap.size w wc))
  case first =>
    have H := HC8.out
    clear HC8
    by_cases c9 : t151 = true
    · subst c9
      have H1 : (if t153 = true then (if t156 = true then (if t158 = true then (if t152 = a0 then (changelinglaw13_Word32Laws.j0 k a0 a1 (t155 != t157)) else (changelinglaw13_Word32Laws.j0 k a0 a1 true)) else (changelinglaw13_Word32Laws.j0 k a0 a1 true)) else (changelinglaw13_Word32Laws.j0 k a0 a1 true)) else (changelinglaw13_Word32Laws.j0 k a0 a1 true)) = some r := by rw [if_pos rfl] at H; exact H
      clear H
      have H := H1
      clear H1
      by_cases c10 : t153 = true
      · subst c10
        have H1 : (if t156 = true then (if t158 = true then (if t152 = a0 then (changelinglaw13_Word32Laws.j0 k a0 a1 (t155 != t157)) else (changelinglaw13_Word32Laws.j0 k a0 a1 true)) else (changelinglaw13_Word32Laws.j0 k a0 a1 true)) else (changelinglaw13_Word32Laws.j0 k a0 a1 true)) = some r := by rw [if_pos rfl] at H; exact H
        clear H
        have H := H1
        clear H1
        by_cases c11 : t156 = true
        · subst c11
          have H1 : (if t158 = true then (if t152 = a0 then (changelinglaw13_Word32Laws.j0 k a0 a1 (t155 != t157)) else (changelinglaw13_Word32Laws.j0 k a0 a1 true)) else (changelinglaw13_Word32Laws.j0 k a0 a1 true)) = some r := by rw [if_pos rfl] at H; exact H
          clear H
          have H := H1
          clear H1
          by_cases c12 : t158 = true
          · subst c12
            have H1 : (if t152 = a0 then (changelinglaw13_Word32Laws.j0 k a0 a1 (t155 != t157)) else (changelinglaw13_Word32Laws.j0 k a0 a1 true)) = some r := by rw [if_pos rfl] at H; exact H
            clear H
            have H := H1
            clear H1
            by_cases c13 : t152 = a0
            · rw [if_pos c13] at H
              have c13b0 : (t152 == a0) = true := beq_iff_eq.mpr c13
              have c13b1 : (t152 != a0) = false := bne_eq_false_iff_eq.mpr c13
              clear c13
              (first | rw [c13b0] | (simp only [i64_w, i32_w]; rw [c13b0]) | skip)
              have H' := Aside0.mk H
              clear H
              go_wp2
              go_meet
              case rel => exact ⟨_, ((t155 != t157)), (by first | rfl | (simp; done) | (simp [*]; done)), H', ⟨by first | omega | exact Nat.le_refl _⟩, ⟨by repeat (first | (with_reducible first | exact HB.out | apply below_alloc | apply pw_below_drewN | apply below_drew1) | exact HB.out)⟩⟩
            · rw [if_neg c13] at H
              have c13b0 : (t152 == a0) = false := beq_eq_false_iff_ne.mpr c13
              have c13b1 : (t152 != a0) = true := bne_iff_ne.mpr c13
              (first | rw [c13b0] | (simp only [i64_w, i32_w]; rw [c13b0]) | skip)
              have H' := Aside0.mk H
              clear H
              go_wp2
              go_meet
              case rel => exact ⟨_, (true), (by first | rfl | (simp; done) | (simp [*]; done)), H', ⟨by first | omega | exact Nat.le_refl _⟩, ⟨by repeat (first | (with_reducible first | exact HB.out | apply below_alloc | apply pw_below_drewN | apply below_drew1) | exact HB.out)⟩⟩
          · replace c12 := Bool.eq_false_iff.mpr c12
            subst c12
            have H1 : (changelinglaw13_Word32Laws.j0 k a0 a1 true) = some r := by rw [if_neg (show ¬ (false = true) by decide)] at H; exact H
            clear H
            have H := H1
            clear H1
            have H' := Aside0.mk H
            clear H
            go_wp2
            go_meet
            case rel => exact ⟨_, (true), (by first | rfl | (simp; done) | (simp [*]; done)), H', ⟨by first | omega | exact Nat.le_refl _⟩, ⟨by repeat (first | (with_reducible first | exact HB.out | apply below_alloc | apply pw_below_drewN | apply below_drew1) | exact HB.out)⟩⟩
        · replace c11 := Bool.eq_false_iff.mpr c11
          subst c11
          have H1 : (changelinglaw13_Word32Laws.j0 k a0 a1 true) = some r := by rw [if_neg (show ¬ (false = true) by decide)] at H; exact H
          clear H
          have H := H1
          clear H1
          have H' := Aside0.mk H
          clear H
          go_wp2
          go_meet
          case rel => exact ⟨_, (true), (by first | rfl | (simp; done) | (simp [*]; done)), H', ⟨by first | omega | exact Nat.le_refl _⟩, ⟨by repeat (first | (with_reducible first | exact HB.out | apply below_alloc | apply pw_below_drewN | apply below_drew1) | exact HB.out)⟩⟩
      · replace c10 := Bool.eq_false_iff.mpr c10
        subst c10
        have H1 : (changelinglaw13_Word32Laws.j0 k a0 a1 true) = some r := by rw [if_neg (show ¬ (false = true) by decide)] at H; exact H
        clear H
        have H := H1
        clear H1
        have H' := Aside0.mk H
        clear H
        go_wp2
        go_meet
        case rel => exact ⟨_, (true), (by first | rfl | (simp; done) | (simp [*]; done)), H', ⟨by first | omega | exact Nat.le_refl _⟩, ⟨by repeat (first | (with_reducible first | exact HB.out | apply below_alloc | apply pw_below_drewN | apply below_drew1) | exact HB.out)⟩⟩
    · replace c9 := Bool.eq_false_iff.mpr c9
      subst c9
      have H1 : (changelinglaw13_Word32Laws.j0 k a0 a1 true) = some r := by rw [if_neg (show ¬ (false = true) by decide)] at H; exact H
      clear H
      have H := H1
      clear H1
      have H' := Aside0.mk H
      clear H
      go_wp2
      go_meet
      case rel => exact ⟨_, (true), (by first | rfl | (simp; done) | (simp [*]; done)), H', ⟨by first | omega | exact Nat.le_refl _⟩, ⟨by repeat (first | (with_reducible first | exact HB.out | apply below_alloc | apply pw_below_drewN | apply below_drew1) | exact HB.out)⟩⟩
  case rest =>
    clear HC8
    try clear c1
    try clear p2
    try clear c4
    try clear c8
    try clear c9
    try clear c10
    try clear c11
    try clear c12
    try clear c13
    try clear c13b0
    try clear c13b1
    obtain ⟨kq, x75_7, rfl, HA, HJ7, HB⟩ := hcut
    cases kq with
    | zero => exact absurd HA.out (by simp [changelinglaw13_Word32Laws.j0])
    | succ kj7 =>
      have H := HA.out
      clear HA
      simp only [changelinglaw13_Word32Laws.j0] at H
      by_cases c14 : x75_7 = true
      · subst c14
        have H1 : (some false) = some r := by rw [if_pos rfl] at H; exact H
        clear H
        have H := H1
        clear H1
        obtain rfl := Option.some.inj H
        go_wp2
        go_ret
        exact ⟨by first | rfl | (simp [errW_none, errW_some] <;> rfl) | (simp [*, errW_none, errW_some] <;> rfl), by repeat (first | (with_reducible first | exact HB.out | apply below_alloc | apply pw_below_drewN | apply below_drew1) | exact HB.out)⟩
      · replace c14 := Bool.eq_false_iff.mpr c14
        subst c14
        have H1 : ((word32_Less.f (⟨#[60]⟩ : ByteArray) a0 a1).bind fun bt159 => ((word32_Less.f (⟨#[60, 61]⟩ : ByteArray) a1 a0).bind fun bt161 => ((word32_Less.f (⟨#[61, 61]⟩ : ByteArray) a0 a1).bind fun bt163 => (if bt159.2 = true then (if bt161.2 = true then (if bt163.2 = true then (if (bt159.1 == bt161.1) = true then (changelinglaw13_Word32Laws.j1 kj7 a0 a1 true) else (changelinglaw13_Word32Laws.j1 kj7 a0 a1 (bt163.1 != (a0 == a1)))) else (changelinglaw13_Word32Laws.j1 kj7 a0 a1 true)) else (changelinglaw13_Word32Laws.j1 kj7 a0 a1 true)) else (changelinglaw13_Word32Laws.j1 kj7 a0 a1 true))))) = some r := by rw [if_neg (show ¬ (false = true) by decide)] at H; exact H
        clear H
        have H := H1
        clear H1
        replace H := Option.bind_eq_some_iff.mp H
        obtain ⟨⟨t159, t160⟩, A150, H⟩ := H
        replace H : ((word32_Less.f (⟨#[60, 61]⟩ : ByteArray) a1 a0).bind fun bt161 => ((word32_Less.f (⟨#[61, 61]⟩ : ByteArray) a0 a1).bind fun bt163 => (if t160 = true then (if bt161.2 = true then (if bt163.2 = true then (if (t159 == bt161.1) = true then (changelinglaw13_Word32Laws.j1 kj7 a0 a1 true) else (changelinglaw13_Word32Laws.j1 kj7 a0 a1 (bt163.1 != (a0 == a1)))) else (changelinglaw13_Word32Laws.j1 kj7 a0 a1 true)) else (changelinglaw13_Word32Laws.j1 kj7 a0 a1 true)) else (changelinglaw13_Word32Laws.j1 kj7 a0 a1 true)))) = some r := H
        have A15 := Aside0.mk A150
        clear A150
        replace H := Option.bind_eq_some_iff.mp H
        obtain ⟨⟨t161, t162⟩, A160, H⟩ := H
        replace H : ((word32_Less.f (⟨#[61, 61]⟩ : ByteArray) a0 a1).bind fun bt163 => (if t160 = true then (if t162 = true then (if bt163.2 = true then (if (t159 == t161) = true then (changelinglaw13_Word32Laws.j1 kj7 a0 a1 true) else (changelinglaw13_Word32Laws.j1 kj7 a0 a1 (bt163.1 != (a0 == a1)))) else (changelinglaw13_Word32Laws.j1 kj7 a0 a1 true)) else (changelinglaw13_Word32Laws.j1 kj7 a0 a1 true)) else (changelinglaw13_Word32Laws.j1 kj7 a0 a1 true))) = some r := H
        have A16 := Aside0.mk A160
        clear A160
        replace H := Option.bind_eq_some_iff.mp H
        obtain ⟨⟨t163, t164⟩, A170, H⟩ := H
        replace H : (if t160 = true then (if t162 = true then (if t164 = true then (if (t159 == t161) = true then (changelinglaw13_Word32Laws.j1 kj7 a0 a1 true) else (changelinglaw13_Word32Laws.j1 kj7 a0 a1 (t163 != (a0 == a1)))) else (changelinglaw13_Word32Laws.j1 kj7 a0 a1 true)) else (changelinglaw13_Word32Laws.j1 kj7 a0 a1 true)) else (changelinglaw13_Word32Laws.j1 kj7 a0 a1 true)) = some r := H
        have A17 := Aside0.mk A170
        clear A170
        have HC18 := Aside0.mk H
        clear H
        go_upto_region 10 with (first | ((with_reducible refine gate_callee (f := 10) rfl ?_); refine goesL_ (some 79) rfl rfl Try.func10 (by kernel_rfl) rfl #[.string (⟨#[60]⟩ : ByteArray), .int .i32 a0, .int .i32 a1] rfl (by (try simp only [List.map_toArray, List.map_cons, List.map_nil]); first | done | rfl | (simp only [List.length_drop, List.length_take]; rfl)) ?_; (with_reducible refine (word32_Less.calls (⟨#[60]⟩ : ByteArray) a0 a1 t159 t160 _ A15.out).mono ?_); rintro e w' ⟨rfl, ⟨nd, rfl⟩⟩; refine ⟨_, rfl, ?_⟩) | ((with_reducible refine gate_callee (f := 10) rfl ?_); refine goesL_ (some 85) rfl rfl Try.func10 (by kernel_rfl) rfl #[.string (⟨#[60, 61]⟩ : ByteArray), .int .i32 a1, .int .i32 a0] rfl (by (try simp only [List.map_toArray, List.map_cons, List.map_nil]); first | done | rfl | (simp only [List.length_drop, List.length_take]; rfl)) ?_; (with_reducible refine (word32_Less.calls (⟨#[60, 61]⟩ : ByteArray) a1 a0 t161 t162 _ A16.out).mono ?_); rintro e w' ⟨rfl, ⟨nd, rfl⟩⟩; refine ⟨_, rfl, ?_⟩) | ((with_reducible refine gate_callee (f := 10) rfl ?_); refine goesL_ (some 91) rfl rfl Try.func10 (by kernel_rfl) rfl #[.string (⟨#[61, 61]⟩ : ByteArray), .int .i32 a0, .int .i32 a1] rfl (by (try simp only [List.map_toArray, List.map_cons, List.map_nil]); first | done | rfl | (simp only [List.length_drop, List.length_take]; rfl)) ?_; (with_reducible refine (word32_Less.calls (⟨#[61, 61]⟩ : ByteArray) a0 a1 t163 t164 _ A17.out).mono ?_); rintro e w' ⟨rfl, ⟨nd, rfl⟩⟩; refine ⟨_, rfl, ?_⟩))
        (try simp only [Act.put, List.setIfInBounds_toArray, List.set_cons_zero, List.set_cons_succ])
        go_cut [115] (fun v115 wc => ∃ (kq : Nat) (x115_17 : Bool), v115 = .bool x115_17 ∧ Aside0 (changelinglaw13_Word32Laws.j1 kq a0 a1 x115_17 = some r) ∧ Aside0 (kq ≤ kj7) ∧ Aside0 (Below w.heap.size w wc))
        case first =>
          have H := HC18.out
          clear HC18
          by_cases c19 : t160 = true
          · subst c19
            have H1 : (if t162 = true then (if t164 = true then (if (t159 == t161) = true then (changelinglaw13_Word32Laws.j1 kj7 a0 a1 true) else (changelinglaw13_Word32Laws.j1 kj7 a0 a1 (t163 != (a0 == a1)))) else (changelinglaw13_Word32Laws.j1 kj7 a0 a1 true)) else (changelinglaw13_Word32Laws.j1 kj7 a0 a1 true)) = some r := by rw [if_pos rfl] at H; exact H
            clear H
            have H := H1
            clear H1
            by_cases c20 : t162 = true
            · subst c20
              have H1 : (if t164 = true then (if (t159 == t161) = true then (changelinglaw13_Word32Laws.j1 kj7 a0 a1 true) else (changelinglaw13_Word32Laws.j1 kj7 a0 a1 (t163 != (a0 == a1)))) else (changelinglaw13_Word32Laws.j1 kj7 a0 a1 true)) = some r := by rw [if_pos rfl] at H; exact H
              clear H
              have H := H1
              clear H1
              by_cases c21 : t164 = true
              · subst c21
                have H1 : (if (t159 == t161) = true then (changelinglaw13_Word32Laws.j1 kj7 a0 a1 true) else (changelinglaw13_Word32Laws.j1 kj7 a0 a1 (t163 != (a0 == a1)))) = some r := by rw [if_pos rfl] at H; exact H
                clear H
                have H := H1
                clear H1
                by_cases c22 : (t159 == t161) = true
                · rw [if_pos c22] at H
                  have c22b0 : (t159 == t161) = true := c22
                  (try (have c22b1 : decide (t159 = t161) = true := by simpa using c22))
                  (try (have c22b2 : (t159 == t161) = true := by simpa using c22))
                  clear c22
                  (first | rw [c22b0] | (simp only [i64_w, i32_w]; rw [c22b0]) | skip)
                  have H' := Aside0.mk H
                  clear H
                  go_wp2
                  go_meet
                  case rel => exact ⟨_, (true), (by first | rfl | (simp; done) | (simp [*]; done)), H', ⟨by have := HJ7.out; first | omega | exact Nat.le_refl _⟩, ⟨by repeat (first | (with_reducible first | exact HB.out | apply below_alloc | apply pw_below_drewN | apply below_drew1) | exact HB.out)⟩⟩
                · rw [if_neg c22] at H
                  have c22b0 : (t159 == t161) = false := by simpa using c22
                  (try (have c22b1 : decide (t159 = t161) = false := by simpa using c22))
                  (try (have c22b2 : (t159 == t161) = false := by simpa using c22))
                  (try (have c22b3 : ¬ (t159 = t161) := by simpa using c22))
                  clear c22
                  (first | rw [c22b0] | (simp only [i64_w, i32_w]; rw [c22b0]) | skip)
                  have H' := Aside0.mk H
                  clear H
                  go_wp2
                  go_meet
                  case rel => exact ⟨_, ((t163 != (a0 == a1))), (by first | rfl | (simp; done) | (simp [*]; done)), H', ⟨by have := HJ7.out; first | omega | exact Nat.le_refl _⟩, ⟨by repeat (first | (with_reducible first | exact HB.out | apply below_alloc | apply pw_below_drewN | apply below_drew1) | exact HB.out)⟩⟩
              · replace c21 := Bool.eq_false_iff.mpr c21
                subst c21
                have H1 : (changelinglaw13_Word32Laws.j1 kj7 a0 a1 true) = some r := by rw [if_neg (show ¬ (false = true) by decide)] at H; exact H
                clear H
                have H := H1
                clear H1
                have H' := Aside0.mk H
                clear H
                go_wp2
                go_meet
                case rel => exact ⟨_, (true), (by first | rfl | (simp; done) | (simp [*]; done)), H', ⟨by have := HJ7.out; first | omega | exact Nat.le_refl _⟩, ⟨by repeat (first | (with_reducible first | exact HB.out | apply below_alloc | apply pw_below_drewN | apply below_drew1) | exact HB.out)⟩⟩
            · replace c20 := Bool.eq_false_iff.mpr c20
              subst c20
              have H1 : (changelinglaw13_Word32Laws.j1 kj7 a0 a1 true) = some r := by rw [if_neg (show ¬ (false = true) by decide)] at H; exact H
              clear H
              have H := H1
              clear H1
              have H' := Aside0.mk H
              clear H
              go_wp2
              go_meet
              case rel => exact ⟨_, (true), (by first | rfl | (simp; done) | (simp [*]; done)), H', ⟨by have := HJ7.out; first | omega | exact Nat.le_refl _⟩, ⟨by repeat (first | (with_reducible first | exact HB.out | apply below_alloc | apply pw_below_drewN | apply below_drew1) | exact HB.out)⟩⟩
          · replace c19 := Bool.eq_false_iff.mpr c19
            subst c19
            have H1 : (changelinglaw13_Word32Laws.j1 kj7 a0 a1 true) = some r := by rw [if_neg (show ¬ (false = true) by decide)] at H; exact H
            clear H
            have H := H1
            clear H1
            have H' := Aside0.mk H
            clear H
            go_wp2
            go_meet
            case rel => exact ⟨_, (true), (by first | rfl | (simp; done) | (simp [*]; done)), H', ⟨by have := HJ7.out; first | omega | exact Nat.le_refl _⟩, ⟨by repeat (first | (with_reducible first | exact HB.out | apply below_alloc | apply pw_below_drewN | apply below_drew1) | exact HB.out)⟩⟩
        case rest =>
          clear HC18
          try clear c1
          try clear c2
          try clear p2
          try clear c4
          try clear c8
          try clear c9
          try clear c10
          try clear c11
          try clear c12
          try clear c13
          try clear c13b0
          try clear c13b1
          try clear c14
          try clear c19
          try clear c20
          try clear c21
          try clear c22
          try clear c22b0
          try clear c22b1
          try clear c22b2
          try clear p2
          obtain ⟨kq, x115_17, rfl, HA, HJ17, HB⟩ := hcut
          cases kq with
          | zero => exact absurd HA.out (by simp [changelinglaw13_Word32Laws.j1])
          | succ kj17 =>
            have H := HA.out
            clear HA
            simp only [changelinglaw13_Word32Laws.j1] at H
            by_cases c23 : x115_17 = true
            · subst c23
              have H1 : (some false) = some r := by rw [if_pos rfl] at H; exact H
              clear H
              have H := H1
              clear H1
              obtain rfl := Option.some.inj H
              go_wp2
              go_ret
              exact ⟨by first | rfl | (simp [errW_none, errW_some] <;> rfl) | (simp [*, errW_none, errW_some] <;> rfl), by repeat (first | (with_reducible first | exact HB.out | apply below_alloc | apply pw_below_drewN | apply below_drew1) | exact HB.out)⟩
            · replace c23 := Bool.eq_false_iff.mpr c23
              subst c23
              have H1 : ((word32_Do.f (⟨#[47]⟩ : ByteArray) a0 a1).bind fun bt165 => ((word32_Do.f (⟨#[37]⟩ : ByteArray) a0 a1).bind fun bt167 => (if a1 = 0 then ((changelinglaw13_told.f kj17).bind fun t169 => (if t169 = true then (if bt165.2 = true then (some false) else (if bt167.2 = true then (some false) else (if bt165.1 = 0 then (some (bt167.1 == 0)) else (some false)))) else (some false))) else ((word32_Do.f (⟨#[42]⟩ : ByteArray) bt165.1 a1).bind fun bt170 => ((word32_Do.f (⟨#[43]⟩ : ByteArray) bt170.1 bt167.1).bind fun bt172 => ((changelinglaw13_told.f kj17).bind fun t174 => (if t174 = true then (if bt165.2 = true then (if bt167.2 = true then (if bt170.2 = true then (if bt172.2 = true then (if bt172.1 = a0 then (if bt167.1 = 0 then (some true) else (some ((decide (bt167.1 < 0)) == (decide (a0 < 0))))) else (some false)) else (some false)) else (some false)) else (some false)) else (some false)) else (some false)))))))) = some r := by rw [if_neg (show ¬ (false = true) by decide)] at H; exact H
              clear H
              have H := H1
              clear H1
              replace H := Option.bind_eq_some_iff.mp H
              obtain ⟨⟨t165, t166⟩, A240, H⟩ := H
              replace H : ((word32_Do.f (⟨#[37]⟩ : ByteArray) a0 a1).bind fun bt167 => (if a1 = 0 then ((changelinglaw13_told.f kj17).bind fun t169 => (if t169 = true then (if t166 = true then (some false) else (if bt167.2 = true then (some false) else (if t165 = 0 then (some (bt167.1 == 0)) else (some false)))) else (some false))) else ((word32_Do.f (⟨#[42]⟩ : ByteArray) t165 a1).bind fun bt170 => ((word32_Do.f (⟨#[43]⟩ : ByteArray) bt170.1 bt167.1).bind fun bt172 => ((changelinglaw13_told.f kj17).bind fun t174 => (if t174 = true then (if t166 = true then (if bt167.2 = true then (if bt170.2 = true then (if bt172.2 = true then (if bt172.1 = a0 then (if bt167.1 = 0 then (some true) else (some ((decide (bt167.1 < 0)) == (decide (a0 < 0))))) else (some false)) else (some false)) else (some false)) else (some false)) else (some false)) else (some false))))))) = some r := H
              have A24 := Aside0.mk A240
              clear A240
              replace H := Option.bind_eq_some_iff.mp H
              obtain ⟨⟨t167, t168⟩, A250, H⟩ := H
              replace H : (if a1 = 0 then ((changelinglaw13_told.f kj17).bind fun t169 => (if t169 = true then (if t166 = true then (some false) else (if t168 = true then (some false) else (if t165 = 0 then (some (t167 == 0)) else (some false)))) else (some false))) else ((word32_Do.f (⟨#[42]⟩ : ByteArray) t165 a1).bind fun bt170 => ((word32_Do.f (⟨#[43]⟩ : ByteArray) bt170.1 t167).bind fun bt172 => ((changelinglaw13_told.f kj17).bind fun t174 => (if t174 = true then (if t166 = true then (if t168 = true then (if bt170.2 = true then (if bt172.2 = true then (if bt172.1 = a0 then (if t167 = 0 then (some true) else (some ((decide (t167 < 0)) == (decide (a0 < 0))))) else (some false)) else (some false)) else (some false)) else (some false)) else (some false)) else (some false)))))) = some r := H
              have A25 := Aside0.mk A250
              clear A250
              by_cases c26 : a1 = 0
              · rw [if_pos c26] at H
                have c26b0 : (a1 == 0) = true := beq_iff_eq.mpr c26
                have c26b1 : (a1 != 0) = false := bne_eq_false_iff_eq.mpr c26
                clear c26
                replace H := Option.bind_eq_some_iff.mp H
                obtain ⟨t169, A270, H⟩ := H
                replace H : (if t169 = true then (if t166 = true then (some false) else (if t168 = true then (some false) else (if t165 = 0 then (some (t167 == 0)) else (some false)))) else (some false)) = some r := H
                have A27 := Aside0.mk A270
                clear A270
                by_cases c28 : t169 = true
                · subst c28
                  have H1 : (if t166 = true then (some false) else (if t168 = true then (some false) else (if t165 = 0 then (some (t167 == 0)) else (some false)))) = some r := by rw [if_pos rfl] at H; exact H
                  clear H
                  have H := H1
                  clear H1
                  by_cases c29 : t166 = true
                  · subst c29
                    have H1 : (some false) = some r := by rw [if_pos rfl] at H; exact H
                    clear H
                    have H := H1
                    clear H1
                    obtain rfl := Option.some.inj H
                    go_wp2_with (first | ((with_reducible refine gate_callee (f := 8) rfl ?_); refine goesL_ (some 119) rfl rfl Try.func8 (by kernel_rfl) rfl #[.string (⟨#[47]⟩ : ByteArray), .int .i32 a0, .int .i32 a1] rfl (by (try simp only [List.map_toArray, List.map_cons, List.map_nil]); first | done | rfl | (simp only [List.length_drop, List.length_take]; rfl)) ?_; (with_reducible refine (word32_Do.calls (⟨#[47]⟩ : ByteArray) a0 a1 t165 true _ A24.out).mono ?_); rintro e w' ⟨rfl, ⟨nd, rfl⟩⟩; refine ⟨_, rfl, ?_⟩) | ((with_reducible refine gate_callee (f := 8) rfl ?_); refine goesL_ (some 125) rfl rfl Try.func8 (by kernel_rfl) rfl #[.string (⟨#[37]⟩ : ByteArray), .int .i32 a0, .int .i32 a1] rfl (by (try simp only [List.map_toArray, List.map_cons, List.map_nil]); first | done | rfl | (simp only [List.length_drop, List.length_take]; rfl)) ?_; (with_reducible refine (word32_Do.calls (⟨#[37]⟩ : ByteArray) a0 a1 t167 t168 _ A25.out).mono ?_); rintro e w' ⟨rfl, ⟨nd, rfl⟩⟩; refine ⟨_, rfl, ?_⟩) | ((with_reducible refine gate_callee (f := 7) rfl ?_); refine goesL_ (some 130) rfl rfl Try.func7 (by kernel_rfl) rfl #[] rfl (by (try simp only [List.map_toArray, List.map_cons, List.map_nil]); first | done | rfl | (simp only [List.length_drop, List.length_take]; rfl)) ?_; (with_reducible refine (changelinglaw13_told.calls kj17  true _ A27.out).mono ?_); rintro e w30 ⟨rfl, hb⟩; refine ⟨_, rfl, ?_⟩; have n0_ := Aside0.mk (below_step (by repeat (first | (with_reducible first | exact HB.out | apply below_alloc | apply pw_below_drewN | apply below_drew1) | exact HB.out)) hb); clear HB; have HB := n0_; clear n0_; (try clear hb); (try clear hb2); (try clear hk); (try clear hi)))
                    go_ret
                    exact ⟨by first | rfl | (simp [errW_none, errW_some] <;> rfl) | (simp [*, errW_none, errW_some] <;> rfl), by repeat (first | (with_reducible first | exact HB.out | apply below_alloc | apply pw_below_drewN | apply below_drew1) | exact HB.out)⟩
                  · replace c29 := Bool.eq_false_iff.mpr c29
                    subst c29
                    have H1 : (if t168 = true then (some false) else (if t165 = 0 then (some (t167 == 0)) else (some false))) = some r := by rw [if_neg (show ¬ (false = true) by decide)] at H; exact H
                    clear H
                    have H := H1
                    clear H1
                    by_cases c31 : t168 = true
                    · subst c31
                      have H1 : (some false) = some r := by rw [if_pos rfl] at H; exact H
                      clear H
                      have H := H1
                      clear H1
                      obtain rfl := Option.some.inj H
                      go_wp2_with (first | ((with_reducible refine gate_callee (f := 8) rfl ?_); refine goesL_ (some 119) rfl rfl Try.func8 (by kernel_rfl) rfl #[.string (⟨#[47]⟩ : ByteArray), .int .i32 a0, .int .i32 a1] rfl (by (try simp only [List.map_toArray, List.map_cons, List.map_nil]); first | done | rfl | (simp only [List.length_drop, List.length_take]; rfl)) ?_; (with_reducible refine (word32_Do.calls (⟨#[47]⟩ : ByteArray) a0 a1 t165 false _ A24.out).mono ?_); rintro e w' ⟨rfl, ⟨nd, rfl⟩⟩; refine ⟨_, rfl, ?_⟩) | ((with_reducible refine gate_callee (f := 8) rfl ?_); refine goesL_ (some 125) rfl rfl Try.func8 (by kernel_rfl) rfl #[.string (⟨#[37]⟩ : ByteArray), .int .i32 a0, .int .i32 a1] rfl (by (try simp only [List.map_toArray, List.map_cons, List.map_nil]); first | done | rfl | (simp only [List.length_drop, List.length_take]; rfl)) ?_; (with_reducible refine (word32_Do.calls (⟨#[37]⟩ : ByteArray) a0 a1 t167 true _ A25.out).mono ?_); rintro e w' ⟨rfl, ⟨nd, rfl⟩⟩; refine ⟨_, rfl, ?_⟩) | ((with_reducible refine gate_callee (f := 7) rfl ?_); refine goesL_ (some 130) rfl rfl Try.func7 (by kernel_rfl) rfl #[] rfl (by (try simp only [List.map_toArray, List.map_cons, List.map_nil]); first | done | rfl | (simp only [List.length_drop, List.length_take]; rfl)) ?_; (with_reducible refine (changelinglaw13_told.calls kj17  true _ A27.out).mono ?_); rintro e w32 ⟨rfl, hb⟩; refine ⟨_, rfl, ?_⟩; have n0_ := Aside0.mk (below_step (by repeat (first | (with_reducible first | exact HB.out | apply below_alloc | apply pw_below_drewN | apply below_drew1) | exact HB.out)) hb); clear HB; have HB := n0_; clear n0_; (try clear hb); (try clear hb2); (try clear hk); (try clear hi)))
                      go_ret
                      exact ⟨by first | rfl | (simp [errW_none, errW_some] <;> rfl) | (simp [*, errW_none, errW_some] <;> rfl), by repeat (first | (with_reducible first | exact HB.out | apply below_alloc | apply pw_below_drewN | apply below_drew1) | exact HB.out)⟩
                    · replace c31 := Bool.eq_false_iff.mpr c31
                      subst c31
                      have H1 : (if t165 = 0 then (some (t167 == 0)) else (some false)) = some r := by rw [if_neg (show ¬ (false = true) by decide)] at H; exact H
                      clear H
                      have H := H1
                      clear H1
                      by_cases c33 : t165 = 0
                      · rw [if_pos c33] at H
                        have c33b0 : (t165 == 0) = true := beq_iff_eq.mpr c33
                        have c33b1 : (t165 != 0) = false := bne_eq_false_iff_eq.mpr c33
                        clear c33
                        obtain rfl := Option.some.inj H
                        go_wp2_with (first | ((with_reducible refine gate_callee (f := 8) rfl ?_); refine goesL_ (some 119) rfl rfl Try.func8 (by kernel_rfl) rfl #[.string (⟨#[47]⟩ : ByteArray), .int .i32 a0, .int .i32 a1] rfl (by (try simp only [List.map_toArray, List.map_cons, List.map_nil]); first | done | rfl | (simp only [List.length_drop, List.length_take]; rfl)) ?_; (with_reducible refine (word32_Do.calls (⟨#[47]⟩ : ByteArray) a0 a1 t165 false _ A24.out).mono ?_); rintro e w' ⟨rfl, ⟨nd, rfl⟩⟩; refine ⟨_, rfl, ?_⟩) | ((with_reducible refine gate_callee (f := 8) rfl ?_); refine goesL_ (some 125) rfl rfl Try.func8 (by kernel_rfl) rfl #[.string (⟨#[37]⟩ : ByteArray), .int .i32 a0, .int .i32 a1] rfl (by (try simp only [List.map_toArray, List.map_cons, List.map_nil]); first | done | rfl | (simp only [List.length_drop, List.length_take]; rfl)) ?_; (with_reducible refine (word32_Do.calls (⟨#[37]⟩ : ByteArray) a0 a1 t167 false _ A25.out).mono ?_); rintro e w' ⟨rfl, ⟨nd, rfl⟩⟩; refine ⟨_, rfl, ?_⟩) | ((with_reducible refine gate_callee (f := 7) rfl ?_); refine goesL_ (some 130) rfl rfl Try.func7 (by kernel_rfl) rfl #[] rfl (by (try simp only [List.map_toArray, List.map_cons, List.map_nil]); first | done | rfl | (simp only [List.length_drop, List.length_take]; rfl)) ?_; (with_reducible refine (changelinglaw13_told.calls kj17  true _ A27.out).mono ?_); rintro e w34 ⟨rfl, hb⟩; refine ⟨_, rfl, ?_⟩; have n0_ := Aside0.mk (below_step (by repeat (first | (with_reducible first | exact HB.out | apply below_alloc | apply pw_below_drewN | apply below_drew1) | exact HB.out)) hb); clear HB; have HB := n0_; clear n0_; (try clear hb); (try clear hb2); (try clear hk); (try clear hi)))
                        go_ret
                        exact ⟨by first | rfl | (simp [errW_none, errW_some] <;> rfl) | (simp [*, errW_none, errW_some] <;> rfl), by repeat (first | (with_reducible first | exact HB.out | apply below_alloc | apply pw_below_drewN | apply below_drew1) | exact HB.out)⟩
                      · rw [if_neg c33] at H
                        have c33b0 : (t165 == 0) = false := beq_eq_false_iff_ne.mpr c33
                        have c33b1 : (t165 != 0) = true := bne_iff_ne.mpr c33
                        obtain rfl := Option.some.inj H
                        go_wp2_with (first | ((with_reducible refine gate_callee (f := 8) rfl ?_); refine goesL_ (some 119) rfl rfl Try.func8 (by kernel_rfl) rfl #[.string (⟨#[47]⟩ : ByteArray), .int .i32 a0, .int .i32 a1] rfl (by (try simp only [List.map_toArray, List.map_cons, List.map_nil]); first | done | rfl | (simp only [List.length_drop, List.length_take]; rfl)) ?_; (with_reducible refine (word32_Do.calls (⟨#[47]⟩ : ByteArray) a0 a1 t165 false _ A24.out).mono ?_); rintro e w' ⟨rfl, ⟨nd, rfl⟩⟩; refine ⟨_, rfl, ?_⟩) | ((with_reducible refine gate_callee (f := 8) rfl ?_); refine goesL_ (some 125) rfl rfl Try.func8 (by kernel_rfl) rfl #[.string (⟨#[37]⟩ : ByteArray), .int .i32 a0, .int .i32 a1] rfl (by (try simp only [List.map_toArray, List.map_cons, List.map_nil]); first | done | rfl | (simp only [List.length_drop, List.length_take]; rfl)) ?_; (with_reducible refine (word32_Do.calls (⟨#[37]⟩ : ByteArray) a0 a1 t167 false _ A25.out).mono ?_); rintro e w' ⟨rfl, ⟨nd, rfl⟩⟩; refine ⟨_, rfl, ?_⟩) | ((with_reducible refine gate_callee (f := 7) rfl ?_); refine goesL_ (some 130) rfl rfl Try.func7 (by kernel_rfl) rfl #[] rfl (by (try simp only [List.map_toArray, List.map_cons, List.map_nil]); first | done | rfl | (simp only [List.length_drop, List.length_take]; rfl)) ?_; (with_reducible refine (changelinglaw13_told.calls kj17  true _ A27.out).mono ?_); rintro e w35 ⟨rfl, hb⟩; refine ⟨_, rfl, ?_⟩; have n0_ := Aside0.mk (below_step (by repeat (first | (with_reducible first | exact HB.out | apply below_alloc | apply pw_below_drewN | apply below_drew1) | exact HB.out)) hb); clear HB; have HB := n0_; clear n0_; (try clear hb); (try clear hb2); (try clear hk); (try clear hi)))
                        go_ret
                        exact ⟨by first | rfl | (simp [errW_none, errW_some] <;> rfl) | (simp [*, errW_none, errW_some] <;> rfl), by repeat (first | (with_reducible first | exact HB.out | apply below_alloc | apply pw_below_drewN | apply below_drew1) | exact HB.out)⟩
                · replace c28 := Bool.eq_false_iff.mpr c28
                  subst c28
                  have H1 : (some false) = some r := by rw [if_neg (show ¬ (false = true) by decide)] at H; exact H
                  clear H
                  have H := H1
                  clear H1
                  obtain rfl := Option.some.inj H
                  go_wp2_with (first | ((with_reducible refine gate_callee (f := 8) rfl ?_); refine goesL_ (some 119) rfl rfl Try.func8 (by kernel_rfl) rfl #[.string (⟨#[47]⟩ : ByteArray), .int .i32 a0, .int .i32 a1] rfl (by (try simp only [List.map_toArray, List.map_cons, List.map_nil]); first | done | rfl | (simp only [List.length_drop, List.length_take]; rfl)) ?_; (with_reducible refine (word32_Do.calls (⟨#[47]⟩ : ByteArray) a0 a1 t165 t166 _ A24.out).mono ?_); rintro e w' ⟨rfl, ⟨nd, rfl⟩⟩; refine ⟨_, rfl, ?_⟩) | ((with_reducible refine gate_callee (f := 8) rfl ?_); refine goesL_ (some 125) rfl rfl Try.func8 (by kernel_rfl) rfl #[.string (⟨#[37]⟩ : ByteArray), .int .i32 a0, .int .i32 a1] rfl (by (try simp only [List.map_toArray, List.map_cons, List.map_nil]); first | done | rfl | (simp only [List.length_drop, List.length_take]; rfl)) ?_; (with_reducible refine (word32_Do.calls (⟨#[37]⟩ : ByteArray) a0 a1 t167 t168 _ A25.out).mono ?_); rintro e w' ⟨rfl, ⟨nd, rfl⟩⟩; refine ⟨_, rfl, ?_⟩) | ((with_reducible refine gate_callee (f := 7) rfl ?_); refine goesL_ (some 130) rfl rfl Try.func7 (by kernel_rfl) rfl #[] rfl (by (try simp only [List.map_toArray, List.map_cons, List.map_nil]); first | done | rfl | (simp only [List.length_drop, List.length_take]; rfl)) ?_; (with_reducible refine (changelinglaw13_told.calls kj17  false _ A27.out).mono ?_); rintro e w36 ⟨rfl, hb⟩; refine ⟨_, rfl, ?_⟩; have n0_ := Aside0.mk (below_step (by repeat (first | (with_reducible first | exact HB.out | apply below_alloc | apply pw_below_drewN | apply below_drew1) | exact HB.out)) hb); clear HB; have HB := n0_; clear n0_; (try clear hb); (try clear hb2); (try clear hk); (try clear hi)))
                  go_ret
                  exact ⟨by first | rfl | (simp [errW_none, errW_some] <;> rfl) | (simp [*, errW_none, errW_some] <;> rfl), by repeat (first | (with_reducible first | exact HB.out | apply below_alloc | apply pw_below_drewN | apply below_drew1) | exact HB.out)⟩
              · rw [if_neg c26] at H
                have c26b0 : (a1 == 0) = false := beq_eq_false_iff_ne.mpr c26
                have c26b1 : (a1 != 0) = true := bne_iff_ne.mpr c26
                replace H := Option.bind_eq_some_iff.mp H
                obtain ⟨⟨t170, t171⟩, A370, H⟩ := H
                replace H : ((word32_Do.f (⟨#[43]⟩ : ByteArray) t170 t167).bind fun bt172 => ((changelinglaw13_told.f kj17).bind fun t174 => (if t174 = true then (if t166 = true then (if t168 = true then (if t171 = true then (if bt172.2 = true then (if bt172.1 = a0 then (if t167 = 0 then (some true) else (some ((decide (t167 < 0)) == (decide (a0 < 0))))) else (some false)) else (some false)) else (some false)) else (some false)) else (some false)) else (some false)))) = some r := H
                have A37 := Aside0.mk A370
                clear A370
                replace H := Option.bind_eq_some_iff.mp H
                obtain ⟨⟨t172, t173⟩, A380, H⟩ := H
                replace H : ((changelinglaw13_told.f kj17).bind fun t174 => (if t174 = true then (if t166 = true then (if t168 = true then (if t171 = true then (if t173 = true then (if t172 = a0 then (if t167 = 0 then (some true) else (some ((decide (t167 < 0)) == (decide (a0 < 0))))) else (some false)) else (some false)) else (some false)) else (some false)) else (some false)) else (some false))) = some r := H
                have A38 := Aside0.mk A380
                clear A380
                replace H := Option.bind_eq_some_iff.mp H
                obtain ⟨t174, A390, H⟩ := H
                replace H : (if t174 = true then (if t166 = true then (if t168 = true then (if t171 = true then (if t173 = true then (if t172 = a0 then (if t167 = 0 then (some true) else (some ((decide (t167 < 0)) == (decide (a0 < 0))))) else (some false)) else (some false)) else (some false)) else (some false)) else (some false)) else (some false)) = some r := H
                have A39 := Aside0.mk A390
                clear A390
                by_cases c40 : t174 = true
                · subst c40
                  have H1 : (if t166 = true then (if t168 = true then (if t171 = true then (if t173 = true then (if t172 = a0 then (if t167 = 0 then (some true) else (some ((decide (t167 < 0)) == (decide (a0 < 0))))) else (some false)) else (some false)) else (some false)) else (some false)) else (some false)) = some r := by rw [if_pos rfl] at H; exact H
                  clear H
                  have H := H1
                  clear H1
                  by_cases c41 : t166 = true
                  · subst c41
                    have H1 : (if t168 = true then (if t171 = true then (if t173 = true then (if t172 = a0 then (if t167 = 0 then (some true) else (some ((decide (t167 < 0)) == (decide (a0 < 0))))) else (some false)) else (some false)) else (some false)) else (some false)) = some r := by rw [if_pos rfl] at H; exact H
                    clear H
                    have H := H1
                    clear H1
                    by_cases c42 : t168 = true
                    · subst c42
                      have H1 : (if t171 = true then (if t173 = true then (if t172 = a0 then (if t167 = 0 then (some true) else (some ((decide (t167 < 0)) == (decide (a0 < 0))))) else (some false)) else (some false)) else (some false)) = some r := by rw [if_pos rfl] at H; exact H
                      clear H
                      have H := H1
                      clear H1
                      by_cases c43 : t171 = true
                      · subst c43
                        have H1 : (if t173 = true then (if t172 = a0 then (if t167 = 0 then (some true) else (some ((decide (t167 < 0)) == (decide (a0 < 0))))) else (some false)) else (some false)) = some r := by rw [if_pos rfl] at H; exact H
                        clear H
                        have H := H1
                        clear H1
                        by_cases c44 : t173 = true
                        · subst c44
                          have H1 : (if t172 = a0 then (if t167 = 0 then (some true) else (some ((decide (t167 < 0)) == (decide (a0 < 0))))) else (some false)) = some r := by rw [if_pos rfl] at H; exact H
                          clear H
                          have H := H1
                          clear H1
                          by_cases c45 : t172 = a0
                          · rw [if_pos c45] at H
                            have c45b0 : (t172 == a0) = true := beq_iff_eq.mpr c45
                            have c45b1 : (t172 != a0) = false := bne_eq_false_iff_eq.mpr c45
                            clear c45
                            by_cases c46 : t167 = 0
                            · rw [if_pos c46] at H
                              have c46b0 : (t167 == 0) = true := beq_iff_eq.mpr c46
                              have c46b1 : (t167 != 0) = false := bne_eq_false_iff_eq.mpr c46
                              clear c46
                              obtain rfl := Option.some.inj H
                              go_wp2_with (first | ((with_reducible refine gate_callee (f := 8) rfl ?_); refine goesL_ (some 119) rfl rfl Try.func8 (by kernel_rfl) rfl #[.string (⟨#[47]⟩ : ByteArray), .int .i32 a0, .int .i32 a1] rfl (by (try simp only [List.map_toArray, List.map_cons, List.map_nil]); first | done | rfl | (simp only [List.length_drop, List.length_take]; rfl)) ?_; (with_reducible refine (word32_Do.calls (⟨#[47]⟩ : ByteArray) a0 a1 t165 true _ A24.out).mono ?_); rintro e w' ⟨rfl, ⟨nd, rfl⟩⟩; refine ⟨_, rfl, ?_⟩) | ((with_reducible refine gate_callee (f := 8) rfl ?_); refine goesL_ (some 125) rfl rfl Try.func8 (by kernel_rfl) rfl #[.string (⟨#[37]⟩ : ByteArray), .int .i32 a0, .int .i32 a1] rfl (by (try simp only [List.map_toArray, List.map_cons, List.map_nil]); first | done | rfl | (simp only [List.length_drop, List.length_take]; rfl)) ?_; (with_reducible refine (word32_Do.calls (⟨#[37]⟩ : ByteArray) a0 a1 t167 true _ A25.out).mono ?_); rintro e w' ⟨rfl, ⟨nd, rfl⟩⟩; refine ⟨_, rfl, ?_⟩) | ((with_reducible refine gate_callee (f := 8) rfl ?_); refine goesL_ (some 150) rfl rfl Try.func8 (by kernel_rfl) rfl #[.string (⟨#[42]⟩ : ByteArray), .int .i32 t165, .int .i32 a1] rfl (by (try simp only [List.map_toArray, List.map_cons, List.map_nil]); first | done | rfl | (simp only [List.length_drop, List.length_take]; rfl)) ?_; (with_reducible refine (word32_Do.calls (⟨#[42]⟩ : ByteArray) t165 a1 t170 true _ A37.out).mono ?_); rintro e w' ⟨rfl, ⟨nd, rfl⟩⟩; refine ⟨_, rfl, ?_⟩) | ((with_reducible refine gate_callee (f := 8) rfl ?_); refine goesL_ (some 156) rfl rfl Try.func8 (by kernel_rfl) rfl #[.string (⟨#[43]⟩ : ByteArray), .int .i32 t170, .int .i32 t167] rfl (by (try simp only [List.map_toArray, List.map_cons, List.map_nil]); first | done | rfl | (simp only [List.length_drop, List.length_take]; rfl)) ?_; (with_reducible refine (word32_Do.calls (⟨#[43]⟩ : ByteArray) t170 t167 t172 true _ A38.out).mono ?_); rintro e w' ⟨rfl, ⟨nd, rfl⟩⟩; refine ⟨_, rfl, ?_⟩) | ((with_reducible refine gate_callee (f := 7) rfl ?_); refine goesL_ (some 159) rfl rfl Try.func7 (by kernel_rfl) rfl #[] rfl (by (try simp only [List.map_toArray, List.map_cons, List.map_nil]); first | done | rfl | (simp only [List.length_drop, List.length_take]; rfl)) ?_; (with_reducible refine (changelinglaw13_told.calls kj17  true _ A39.out).mono ?_); rintro e w47 ⟨rfl, hb⟩; refine ⟨_, rfl, ?_⟩; have n0_ := Aside0.mk (below_step (by repeat (first | (with_reducible first | exact HB.out | apply below_alloc | apply pw_below_drewN | apply below_drew1) | exact HB.out)) hb); clear HB; have HB := n0_; clear n0_; (try clear hb); (try clear hb2); (try clear hk); (try clear hi)))
                              go_ret
                              exact ⟨by first | rfl | (simp [errW_none, errW_some] <;> rfl) | (simp [*, errW_none, errW_some] <;> rfl), by repeat (first | (with_reducible first | exact HB.out | apply below_alloc | apply pw_below_drewN | apply below_drew1) | exact HB.out)⟩
                            · rw [if_neg c46] at H
                              have c46b0 : (t167 == 0) = false := beq_eq_false_iff_ne.mpr c46
                              have c46b1 : (t167 != 0) = true := bne_iff_ne.mpr c46
                              obtain rfl := Option.some.inj H
                              go_wp2_with (first | ((with_reducible refine gate_callee (f := 8) rfl ?_); refine goesL_ (some 119) rfl rfl Try.func8 (by kernel_rfl) rfl #[.string (⟨#[47]⟩ : ByteArray), .int .i32 a0, .int .i32 a1] rfl (by (try simp only [List.map_toArray, List.map_cons, List.map_nil]); first | done | rfl | (simp only [List.length_drop, List.length_take]; rfl)) ?_; (with_reducible refine (word32_Do.calls (⟨#[47]⟩ : ByteArray) a0 a1 t165 true _ A24.out).mono ?_); rintro e w' ⟨rfl, ⟨nd, rfl⟩⟩; refine ⟨_, rfl, ?_⟩) | ((with_reducible refine gate_callee (f := 8) rfl ?_); refine goesL_ (some 125) rfl rfl Try.func8 (by kernel_rfl) rfl #[.string (⟨#[37]⟩ : ByteArray), .int .i32 a0, .int .i32 a1] rfl (by (try simp only [List.map_toArray, List.map_cons, List.map_nil]); first | done | rfl | (simp only [List.length_drop, List.length_take]; rfl)) ?_; (with_reducible refine (word32_Do.calls (⟨#[37]⟩ : ByteArray) a0 a1 t167 true _ A25.out).mono ?_); rintro e w' ⟨rfl, ⟨nd, rfl⟩⟩; refine ⟨_, rfl, ?_⟩) | ((with_reducible refine gate_callee (f := 8) rfl ?_); refine goesL_ (some 150) rfl rfl Try.func8 (by kernel_rfl) rfl #[.string (⟨#[42]⟩ : ByteArray), .int .i32 t165, .int .i32 a1] rfl (by (try simp only [List.map_toArray, List.map_cons, List.map_nil]); first | done | rfl | (simp only [List.length_drop, List.length_take]; rfl)) ?_; (with_reducible refine (word32_Do.calls (⟨#[42]⟩ : ByteArray) t165 a1 t170 true _ A37.out).mono ?_); rintro e w' ⟨rfl, ⟨nd, rfl⟩⟩; refine ⟨_, rfl, ?_⟩) | ((with_reducible refine gate_callee (f := 8) rfl ?_); refine goesL_ (some 156) rfl rfl Try.func8 (by kernel_rfl) rfl #[.string (⟨#[43]⟩ : ByteArray), .int .i32 t170, .int .i32 t167] rfl (by (try simp only [List.map_toArray, List.map_cons, List.map_nil]); first | done | rfl | (simp only [List.length_drop, List.length_take]; rfl)) ?_; (with_reducible refine (word32_Do.calls (⟨#[43]⟩ : ByteArray) t170 t167 t172 true _ A38.out).mono ?_); rintro e w' ⟨rfl, ⟨nd, rfl⟩⟩; refine ⟨_, rfl, ?_⟩) | ((with_reducible refine gate_callee (f := 7) rfl ?_); refine goesL_ (some 159) rfl rfl Try.func7 (by kernel_rfl) rfl #[] rfl (by (try simp only [List.map_toArray, List.map_cons, List.map_nil]); first | done | rfl | (simp only [List.length_drop, List.length_take]; rfl)) ?_; (with_reducible refine (changelinglaw13_told.calls kj17  true _ A39.out).mono ?_); rintro e w48 ⟨rfl, hb⟩; refine ⟨_, rfl, ?_⟩; have n0_ := Aside0.mk (below_step (by repeat (first | (with_reducible first | exact HB.out | apply below_alloc | apply pw_below_drewN | apply below_drew1) | exact HB.out)) hb); clear HB; have HB := n0_; clear n0_; (try clear hb); (try clear hb2); (try clear hk); (try clear hi)))
                              go_ret
                              exact ⟨by first | rfl | (simp [errW_none, errW_some] <;> rfl) | (simp [*, errW_none, errW_some] <;> rfl), by repeat (first | (with_reducible first | exact HB.out | apply below_alloc | apply pw_below_drewN | apply below_drew1) | exact HB.out)⟩
                          · rw [if_neg c45] at H
                            have c45b0 : (t172 == a0) = false := beq_eq_false_iff_ne.mpr c45
                            have c45b1 : (t172 != a0) = true := bne_iff_ne.mpr c45
                            obtain rfl := Option.some.inj H
                            go_wp2_with (first | ((with_reducible refine gate_callee (f := 8) rfl ?_); refine goesL_ (some 119) rfl rfl Try.func8 (by kernel_rfl) rfl #[.string (⟨#[47]⟩ : ByteArray), .int .i32 a0, .int .i32 a1] rfl (by (try simp only [List.map_toArray, List.map_cons, List.map_nil]); first | done | rfl | (simp only [List.length_drop, List.length_take]; rfl)) ?_; (with_reducible refine (word32_Do.calls (⟨#[47]⟩ : ByteArray) a0 a1 t165 true _ A24.out).mono ?_); rintro e w' ⟨rfl, ⟨nd, rfl⟩⟩; refine ⟨_, rfl, ?_⟩) | ((with_reducible refine gate_callee (f := 8) rfl ?_); refine goesL_ (some 125) rfl rfl Try.func8 (by kernel_rfl) rfl #[.string (⟨#[37]⟩ : ByteArray), .int .i32 a0, .int .i32 a1] rfl (by (try simp only [List.map_toArray, List.map_cons, List.map_nil]); first | done | rfl | (simp only [List.length_drop, List.length_take]; rfl)) ?_; (with_reducible refine (word32_Do.calls (⟨#[37]⟩ : ByteArray) a0 a1 t167 true _ A25.out).mono ?_); rintro e w' ⟨rfl, ⟨nd, rfl⟩⟩; refine ⟨_, rfl, ?_⟩) | ((with_reducible refine gate_callee (f := 8) rfl ?_); refine goesL_ (some 150) rfl rfl Try.func8 (by kernel_rfl) rfl #[.string (⟨#[42]⟩ : ByteArray), .int .i32 t165, .int .i32 a1] rfl (by (try simp only [List.map_toArray, List.map_cons, List.map_nil]); first | done | rfl | (simp only [List.length_drop, List.length_take]; rfl)) ?_; (with_reducible refine (word32_Do.calls (⟨#[42]⟩ : ByteArray) t165 a1 t170 true _ A37.out).mono ?_); rintro e w' ⟨rfl, ⟨nd, rfl⟩⟩; refine ⟨_, rfl, ?_⟩) | ((with_reducible refine gate_callee (f := 8) rfl ?_); refine goesL_ (some 156) rfl rfl Try.func8 (by kernel_rfl) rfl #[.string (⟨#[43]⟩ : ByteArray), .int .i32 t170, .int .i32 t167] rfl (by (try simp only [List.map_toArray, List.map_cons, List.map_nil]); first | done | rfl | (simp only [List.length_drop, List.length_take]; rfl)) ?_; (with_reducible refine (word32_Do.calls (⟨#[43]⟩ : ByteArray) t170 t167 t172 true _ A38.out).mono ?_); rintro e w' ⟨rfl, ⟨nd, rfl⟩⟩; refine ⟨_, rfl, ?_⟩) | ((with_reducible refine gate_callee (f := 7) rfl ?_); refine goesL_ (some 159) rfl rfl Try.func7 (by kernel_rfl) rfl #[] rfl (by (try simp only [List.map_toArray, List.map_cons, List.map_nil]); first | done | rfl | (simp only [List.length_drop, List.length_take]; rfl)) ?_; (with_reducible refine (changelinglaw13_told.calls kj17  true _ A39.out).mono ?_); rintro e w49 ⟨rfl, hb⟩; refine ⟨_, rfl, ?_⟩; have n0_ := Aside0.mk (below_step (by repeat (first | (with_reducible first | exact HB.out | apply below_alloc | apply pw_below_drewN | apply below_drew1) | exact HB.out)) hb); clear HB; have HB := n0_; clear n0_; (try clear hb); (try clear hb2); (try clear hk); (try clear hi)))
                            go_ret
                            exact ⟨by first | rfl | (simp [errW_none, errW_some] <;> rfl) | (simp [*, errW_none, errW_some] <;> rfl), by repeat (first | (with_reducible first | exact HB.out | apply below_alloc | apply pw_below_drewN | apply below_drew1) | exact HB.out)⟩
                        · replace c44 := Bool.eq_false_iff.mpr c44
                          subst c44
                          have H1 : (some false) = some r := by rw [if_neg (show ¬ (false = true) by decide)] at H; exact H
                          clear H
                          have H := H1
                          clear H1
                          obtain rfl := Option.some.inj H
                          go_wp2_with (first | ((with_reducible refine gate_callee (f := 8) rfl ?_); refine goesL_ (some 119) rfl rfl Try.func8 (by kernel_rfl) rfl #[.string (⟨#[47]⟩ : ByteArray), .int .i32 a0, .int .i32 a1] rfl (by (try simp only [List.map_toArray, List.map_cons, List.map_nil]); first | done | rfl | (simp only [List.length_drop, List.length_take]; rfl)) ?_; (with_reducible refine (word32_Do.calls (⟨#[47]⟩ : ByteArray) a0 a1 t165 true _ A24.out).mono ?_); rintro e w' ⟨rfl, ⟨nd, rfl⟩⟩; refine ⟨_, rfl, ?_⟩) | ((with_reducible refine gate_callee (f := 8) rfl ?_); refine goesL_ (some 125) rfl rfl Try.func8 (by kernel_rfl) rfl #[.string (⟨#[37]⟩ : ByteArray), .int .i32 a0, .int .i32 a1] rfl (by (try simp only [List.map_toArray, List.map_cons, List.map_nil]); first | done | rfl | (simp only [List.length_drop, List.length_take]; rfl)) ?_; (with_reducible refine (word32_Do.calls (⟨#[37]⟩ : ByteArray) a0 a1 t167 true _ A25.out).mono ?_); rintro e w' ⟨rfl, ⟨nd, rfl⟩⟩; refine ⟨_, rfl, ?_⟩) | ((with_reducible refine gate_callee (f := 8) rfl ?_); refine goesL_ (some 150) rfl rfl Try.func8 (by kernel_rfl) rfl #[.string (⟨#[42]⟩ : ByteArray), .int .i32 t165, .int .i32 a1] rfl (by (try simp only [List.map_toArray, List.map_cons, List.map_nil]); first | done | rfl | (simp only [List.length_drop, List.length_take]; rfl)) ?_; (with_reducible refine (word32_Do.calls (⟨#[42]⟩ : ByteArray) t165 a1 t170 true _ A37.out).mono ?_); rintro e w' ⟨rfl, ⟨nd, rfl⟩⟩; refine ⟨_, rfl, ?_⟩) | ((with_reducible refine gate_callee (f := 8) rfl ?_); refine goesL_ (some 156) rfl rfl Try.func8 (by kernel_rfl) rfl #[.string (⟨#[43]⟩ : ByteArray), .int .i32 t170, .int .i32 t167] rfl (by (try simp only [List.map_toArray, List.map_cons, List.map_nil]); first | done | rfl | (simp only [List.length_drop, List.length_take]; rfl)) ?_; (with_reducible refine (word32_Do.calls (⟨#[43]⟩ : ByteArray) t170 t167 t172 false _ A38.out).mono ?_); rintro e w' ⟨rfl, ⟨nd, rfl⟩⟩; refine ⟨_, rfl, ?_⟩) | ((with_reducible refine gate_callee (f := 7) rfl ?_); refine goesL_ (some 159) rfl rfl Try.func7 (by kernel_rfl) rfl #[] rfl (by (try simp only [List.map_toArray, List.map_cons, List.map_nil]); first | done | rfl | (simp only [List.length_drop, List.length_take]; rfl)) ?_; (with_reducible refine (changelinglaw13_told.calls kj17  true _ A39.out).mono ?_); rintro e w50 ⟨rfl, hb⟩; refine ⟨_, rfl, ?_⟩; have n0_ := Aside0.mk (below_step (by repeat (first | (with_reducible first | exact HB.out | apply below_alloc | apply pw_below_drewN | apply below_drew1) | exact HB.out)) hb); clear HB; have HB := n0_; clear n0_; (try clear hb); (try clear hb2); (try clear hk); (try clear hi)))
                          go_ret
                          exact ⟨by first | rfl | (simp [errW_none, errW_some] <;> rfl) | (simp [*, errW_none, errW_some] <;> rfl), by repeat (first | (with_reducible first | exact HB.out | apply below_alloc | apply pw_below_drewN | apply below_drew1) | exact HB.out)⟩
                      · replace c43 := Bool.eq_false_iff.mpr c43
                        subst c43
                        have H1 : (some false) = some r := by rw [if_neg (show ¬ (false = true) by decide)] at H; exact H
                        clear H
                        have H := H1
                        clear H1
                        obtain rfl := Option.some.inj H
                        go_wp2_with (first | ((with_reducible refine gate_callee (f := 8) rfl ?_); refine goesL_ (some 119) rfl rfl Try.func8 (by kernel_rfl) rfl #[.string (⟨#[47]⟩ : ByteArray), .int .i32 a0, .int .i32 a1] rfl (by (try simp only [List.map_toArray, List.map_cons, List.map_nil]); first | done | rfl | (simp only [List.length_drop, List.length_take]; rfl)) ?_; (with_reducible refine (word32_Do.calls (⟨#[47]⟩ : ByteArray) a0 a1 t165 true _ A24.out).mono ?_); rintro e w' ⟨rfl, ⟨nd, rfl⟩⟩; refine ⟨_, rfl, ?_⟩) | ((with_reducible refine gate_callee (f := 8) rfl ?_); refine goesL_ (some 125) rfl rfl Try.func8 (by kernel_rfl) rfl #[.string (⟨#[37]⟩ : ByteArray), .int .i32 a0, .int .i32 a1] rfl (by (try simp only [List.map_toArray, List.map_cons, List.map_nil]); first | done | rfl | (simp only [List.length_drop, List.length_take]; rfl)) ?_; (with_reducible refine (word32_Do.calls (⟨#[37]⟩ : ByteArray) a0 a1 t167 true _ A25.out).mono ?_); rintro e w' ⟨rfl, ⟨nd, rfl⟩⟩; refine ⟨_, rfl, ?_⟩) | ((with_reducible refine gate_callee (f := 8) rfl ?_); refine goesL_ (some 150) rfl rfl Try.func8 (by kernel_rfl) rfl #[.string (⟨#[42]⟩ : ByteArray), .int .i32 t165, .int .i32 a1] rfl (by (try simp only [List.map_toArray, List.map_cons, List.map_nil]); first | done | rfl | (simp only [List.length_drop, List.length_take]; rfl)) ?_; (with_reducible refine (word32_Do.calls (⟨#[42]⟩ : ByteArray) t165 a1 t170 false _ A37.out).mono ?_); rintro e w' ⟨rfl, ⟨nd, rfl⟩⟩; refine ⟨_, rfl, ?_⟩) | ((with_reducible refine gate_callee (f := 8) rfl ?_); refine goesL_ (some 156) rfl rfl Try.func8 (by kernel_rfl) rfl #[.string (⟨#[43]⟩ : ByteArray), .int .i32 t170, .int .i32 t167] rfl (by (try simp only [List.map_toArray, List.map_cons, List.map_nil]); first | done | rfl | (simp only [List.length_drop, List.length_take]; rfl)) ?_; (with_reducible refine (word32_Do.calls (⟨#[43]⟩ : ByteArray) t170 t167 t172 t173 _ A38.out).mono ?_); rintro e w' ⟨rfl, ⟨nd, rfl⟩⟩; refine ⟨_, rfl, ?_⟩) | ((with_reducible refine gate_callee (f := 7) rfl ?_); refine goesL_ (some 159) rfl rfl Try.func7 (by kernel_rfl) rfl #[] rfl (by (try simp only [List.map_toArray, List.map_cons, List.map_nil]); first | done | rfl | (simp only [List.length_drop, List.length_take]; rfl)) ?_; (with_reducible refine (changelinglaw13_told.calls kj17  true _ A39.out).mono ?_); rintro e w51 ⟨rfl, hb⟩; refine ⟨_, rfl, ?_⟩; have n0_ := Aside0.mk (below_step (by repeat (first | (with_reducible first | exact HB.out | apply below_alloc | apply pw_below_drewN | apply below_drew1) | exact HB.out)) hb); clear HB; have HB := n0_; clear n0_; (try clear hb); (try clear hb2); (try clear hk); (try clear hi)))
                        go_ret
                        exact ⟨by first | rfl | (simp [errW_none, errW_some] <;> rfl) | (simp [*, errW_none, errW_some] <;> rfl), by repeat (first | (with_reducible first | exact HB.out | apply below_alloc | apply pw_below_drewN | apply below_drew1) | exact HB.out)⟩
                    · replace c42 := Bool.eq_false_iff.mpr c42
                      subst c42
                      have H1 : (some false) = some r := by rw [if_neg (show ¬ (false = true) by decide)] at H; exact H
                      clear H
                      have H := H1
                      clear H1
                      obtain rfl := Option.some.inj H
                      go_wp2_with (first | ((with_reducible refine gate_callee (f := 8) rfl ?_); refine goesL_ (some 119) rfl rfl Try.func8 (by kernel_rfl) rfl #[.string (⟨#[47]⟩ : ByteArray), .int .i32 a0, .int .i32 a1] rfl (by (try simp only [List.map_toArray, List.map_cons, List.map_nil]); first | done | rfl | (simp only [List.length_drop, List.length_take]; rfl)) ?_; (with_reducible refine (word32_Do.calls (⟨#[47]⟩ : ByteArray) a0 a1 t165 true _ A24.out).mono ?_); rintro e w' ⟨rfl, ⟨nd, rfl⟩⟩; refine ⟨_, rfl, ?_⟩) | ((with_reducible refine gate_callee (f := 8) rfl ?_); refine goesL_ (some 125) rfl rfl Try.func8 (by kernel_rfl) rfl #[.string (⟨#[37]⟩ : ByteArray), .int .i32 a0, .int .i32 a1] rfl (by (try simp only [List.map_toArray, List.map_cons, List.map_nil]); first | done | rfl | (simp only [List.length_drop, List.length_take]; rfl)) ?_; (with_reducible refine (word32_Do.calls (⟨#[37]⟩ : ByteArray) a0 a1 t167 false _ A25.out).mono ?_); rintro e w' ⟨rfl, ⟨nd, rfl⟩⟩; refine ⟨_, rfl, ?_⟩) | ((with_reducible refine gate_callee (f := 8) rfl ?_); refine goesL_ (some 150) rfl rfl Try.func8 (by kernel_rfl) rfl #[.string (⟨#[42]⟩ : ByteArray), .int .i32 t165, .int .i32 a1] rfl (by (try simp only [List.map_toArray, List.map_cons, List.map_nil]); first | done | rfl | (simp only [List.length_drop, List.length_take]; rfl)) ?_; (with_reducible refine (word32_Do.calls (⟨#[42]⟩ : ByteArray) t165 a1 t170 t171 _ A37.out).mono ?_); rintro e w' ⟨rfl, ⟨nd, rfl⟩⟩; refine ⟨_, rfl, ?_⟩) | ((with_reducible refine gate_callee (f := 8) rfl ?_); refine goesL_ (some 156) rfl rfl Try.func8 (by kernel_rfl) rfl #[.string (⟨#[43]⟩ : ByteArray), .int .i32 t170, .int .i32 t167] rfl (by (try simp only [List.map_toArray, List.map_cons, List.map_nil]); first | done | rfl | (simp only [List.length_drop, List.length_take]; rfl)) ?_; (with_reducible refine (word32_Do.calls (⟨#[43]⟩ : ByteArray) t170 t167 t172 t173 _ A38.out).mono ?_); rintro e w' ⟨rfl, ⟨nd, rfl⟩⟩; refine ⟨_, rfl, ?_⟩) | ((with_reducible refine gate_callee (f := 7) rfl ?_); refine goesL_ (some 159) rfl rfl Try.func7 (by kernel_rfl) rfl #[] rfl (by (try simp only [List.map_toArray, List.map_cons, List.map_nil]); first | done | rfl | (simp only [List.length_drop, List.length_take]; rfl)) ?_; (with_reducible refine (changelinglaw13_told.calls kj17  true _ A39.out).mono ?_); rintro e w52 ⟨rfl, hb⟩; refine ⟨_, rfl, ?_⟩; have n0_ := Aside0.mk (below_step (by repeat (first | (with_reducible first | exact HB.out | apply below_alloc | apply pw_below_drewN | apply below_drew1) | exact HB.out)) hb); clear HB; have HB := n0_; clear n0_; (try clear hb); (try clear hb2); (try clear hk); (try clear hi)))
                      go_ret
                      exact ⟨by first | rfl | (simp [errW_none, errW_some] <;> rfl) | (simp [*, errW_none, errW_some] <;> rfl), by repeat (first | (with_reducible first | exact HB.out | apply below_alloc | apply pw_below_drewN | apply below_drew1) | exact HB.out)⟩
                  · replace c41 := Bool.eq_false_iff.mpr c41
                    subst c41
                    have H1 : (some false) = some r := by rw [if_neg (show ¬ (false = true) by decide)] at H; exact H
                    clear H
                    have H := H1
                    clear H1
                    obtain rfl := Option.some.inj H
                    go_wp2_with (first | ((with_reducible refine gate_callee (f := 8) rfl ?_); refine goesL_ (some 119) rfl rfl Try.func8 (by kernel_rfl) rfl #[.string (⟨#[47]⟩ : ByteArray), .int .i32 a0, .int .i32 a1] rfl (by (try simp only [List.map_toArray, List.map_cons, List.map_nil]); first | done | rfl | (simp only [List.length_drop, List.length_take]; rfl)) ?_; (with_reducible refine (word32_Do.calls (⟨#[47]⟩ : ByteArray) a0 a1 t165 false _ A24.out).mono ?_); rintro e w' ⟨rfl, ⟨nd, rfl⟩⟩; refine ⟨_, rfl, ?_⟩) | ((with_reducible refine gate_callee (f := 8) rfl ?_); refine goesL_ (some 125) rfl rfl Try.func8 (by kernel_rfl) rfl #[.string (⟨#[37]⟩ : ByteArray), .int .i32 a0, .int .i32 a1] rfl (by (try simp only [List.map_toArray, List.map_cons, List.map_nil]); first | done | rfl | (simp only [List.length_drop, List.length_take]; rfl)) ?_; (with_reducible refine (word32_Do.calls (⟨#[37]⟩ : ByteArray) a0 a1 t167 t168 _ A25.out).mono ?_); rintro e w' ⟨rfl, ⟨nd, rfl⟩⟩; refine ⟨_, rfl, ?_⟩) | ((with_reducible refine gate_callee (f := 8) rfl ?_); refine goesL_ (some 150) rfl rfl Try.func8 (by kernel_rfl) rfl #[.string (⟨#[42]⟩ : ByteArray), .int .i32 t165, .int .i32 a1] rfl (by (try simp only [List.map_toArray, List.map_cons, List.map_nil]); first | done | rfl | (simp only [List.length_drop, List.length_take]; rfl)) ?_; (with_reducible refine (word32_Do.calls (⟨#[42]⟩ : ByteArray) t165 a1 t170 t171 _ A37.out).mono ?_); rintro e w' ⟨rfl, ⟨nd, rfl⟩⟩; refine ⟨_, rfl, ?_⟩) | ((with_reducible refine gate_callee (f := 8) rfl ?_); refine goesL_ (some 156) rfl rfl Try.func8 (by kernel_rfl) rfl #[.string (⟨#[43]⟩ : ByteArray), .int .i32 t170, .int .i32 t167] rfl (by (try simp only [List.map_toArray, List.map_cons, List.map_nil]); first | done | rfl | (simp only [List.length_drop, List.length_take]; rfl)) ?_; (with_reducible refine (word32_Do.calls (⟨#[43]⟩ : ByteArray) t170 t167 t172 t173 _ A38.out).mono ?_); rintro e w' ⟨rfl, ⟨nd, rfl⟩⟩; refine ⟨_, rfl, ?_⟩) | ((with_reducible refine gate_callee (f := 7) rfl ?_); refine goesL_ (some 159) rfl rfl Try.func7 (by kernel_rfl) rfl #[] rfl (by (try simp only [List.map_toArray, List.map_cons, List.map_nil]); first | done | rfl | (simp only [List.length_drop, List.length_take]; rfl)) ?_; (with_reducible refine (changelinglaw13_told.calls kj17  true _ A39.out).mono ?_); rintro e w53 ⟨rfl, hb⟩; refine ⟨_, rfl, ?_⟩; have n0_ := Aside0.mk (below_step (by repeat (first | (with_reducible first | exact HB.out | apply below_alloc | apply pw_below_drewN | apply below_drew1) | exact HB.out)) hb); clear HB; have HB := n0_; clear n0_; (try clear hb); (try clear hb2); (try clear hk); (try clear hi)))
                    go_ret
                    exact ⟨by first | rfl | (simp [errW_none, errW_some] <;> rfl) | (simp [*, errW_none, errW_some] <;> rfl), by repeat (first | (with_reducible first | exact HB.out | apply below_alloc | apply pw_below_drewN | apply below_drew1) | exact HB.out)⟩
                · replace c40 := Bool.eq_false_iff.mpr c40
                  subst c40
                  have H1 : (some false) = some r := by rw [if_neg (show ¬ (false = true) by decide)] at H; exact H
                  clear H
                  have H := H1
                  clear H1
                  obtain rfl := Option.some.inj H
                  go_wp2_with (first | ((with_reducible refine gate_callee (f := 8) rfl ?_); refine goesL_ (some 119) rfl rfl Try.func8 (by kernel_rfl) rfl #[.string (⟨#[47]⟩ : ByteArray), .int .i32 a0, .int .i32 a1] rfl (by (try simp only [List.map_toArray, List.map_cons, List.map_nil]); first | done | rfl | (simp only [List.length_drop, List.length_take]; rfl)) ?_; (with_reducible refine (word32_Do.calls (⟨#[47]⟩ : ByteArray) a0 a1 t165 t166 _ A24.out).mono ?_); rintro e w' ⟨rfl, ⟨nd, rfl⟩⟩; refine ⟨_, rfl, ?_⟩) | ((with_reducible refine gate_callee (f := 8) rfl ?_); refine goesL_ (some 125) rfl rfl Try.func8 (by kernel_rfl) rfl #[.string (⟨#[37]⟩ : ByteArray), .int .i32 a0, .int .i32 a1] rfl (by (try simp only [List.map_toArray, List.map_cons, List.map_nil]); first | done | rfl | (simp only [List.length_drop, List.length_take]; rfl)) ?_; (with_reducible refine (word32_Do.calls (⟨#[37]⟩ : ByteArray) a0 a1 t167 t168 _ A25.out).mono ?_); rintro e w' ⟨rfl, ⟨nd, rfl⟩⟩; refine ⟨_, rfl, ?_⟩) | ((with_reducible refine gate_callee (f := 8) rfl ?_); refine goesL_ (some 150) rfl rfl Try.func8 (by kernel_rfl) rfl #[.string (⟨#[42]⟩ : ByteArray), .int .i32 t165, .int .i32 a1] rfl (by (try simp only [List.map_toArray, List.map_cons, List.map_nil]); first | done | rfl | (simp only [List.length_drop, List.length_take]; rfl)) ?_; (with_reducible refine (word32_Do.calls (⟨#[42]⟩ : ByteArray) t165 a1 t170 t171 _ A37.out).mono ?_); rintro e w' ⟨rfl, ⟨nd, rfl⟩⟩; refine ⟨_, rfl, ?_⟩) | ((with_reducible refine gate_callee (f := 8) rfl ?_); refine goesL_ (some 156) rfl rfl Try.func8 (by kernel_rfl) rfl #[.string (⟨#[43]⟩ : ByteArray), .int .i32 t170, .int .i32 t167] rfl (by (try simp only [List.map_toArray, List.map_cons, List.map_nil]); first | done | rfl | (simp only [List.length_drop, List.length_take]; rfl)) ?_; (with_reducible refine (word32_Do.calls (⟨#[43]⟩ : ByteArray) t170 t167 t172 t173 _ A38.out).mono ?_); rintro e w' ⟨rfl, ⟨nd, rfl⟩⟩; refine ⟨_, rfl, ?_⟩) | ((with_reducible refine gate_callee (f := 7) rfl ?_); refine goesL_ (some 159) rfl rfl Try.func7 (by kernel_rfl) rfl #[] rfl (by (try simp only [List.map_toArray, List.map_cons, List.map_nil]); first | done | rfl | (simp only [List.length_drop, List.length_take]; rfl)) ?_; (with_reducible refine (changelinglaw13_told.calls kj17  false _ A39.out).mono ?_); rintro e w54 ⟨rfl, hb⟩; refine ⟨_, rfl, ?_⟩; have n0_ := Aside0.mk (below_step (by repeat (first | (with_reducible first | exact HB.out | apply below_alloc | apply pw_below_drewN | apply below_drew1) | exact HB.out)) hb); clear HB; have HB := n0_; clear n0_; (try clear hb); (try clear hb2); (try clear hk); (try clear hi)))
                  go_ret
                  exact ⟨by first | rfl | (simp [errW_none, errW_some] <;> rfl) | (simp [*, errW_none, errW_some] <;> rfl), by repeat (first | (with_reducible first | exact HB.out | apply below_alloc | apply pw_below_drewN | apply below_drew1) | exact HB.out)⟩

/-- THE ONE PURE STATEMENT of changelinglaw13_Word32Laws: yours. -/
def changelinglaw13_Word32Laws.Pure : Prop := ∀ (a0 : Int) (a1 : Int), (Lit.int .i32 a0).wf = true → (Lit.int .i32 a1).wf = true → ∃ k, changelinglaw13_Word32Laws.f k a0 a1 = some true
theorem changelinglaw13_Word32Laws.walk (P : changelinglaw13_Word32Laws.Pure) (a0 : Int) (a1 : Int) (w : World) (w0 : (Lit.int .i32 a0).wf = true) (w1 : (Lit.int .i32 a1).wf = true) :
    Calls Try.prog 4 #[.int .i32 a0, .int .i32 a1] w fun e w' => e = .returned (.bool true) ∧ Below w.heap.size w w' := by
  obtain ⟨k, h⟩ := P a0 a1 w0 w1
  refine (changelinglaw13_Word32Laws.calls k a0 a1 true w h).mono ?_
  rintro e w' ⟨rfl, hd⟩
  exact ⟨rfl, hd⟩

-- NOT PRINTED: function 5 (changelinglaw13_Word32Texts)

/-! ### changelinglaw13_Word32Wraps: function 6 -/
def changelinglaw13_Word32Wraps.f (k : Nat) (a0 : Int) : Option (Bool) := (word32_Do.f (⟨#[43]⟩ : ByteArray) a0 a0).bind fun bt177 => ((word32_Do.f (⟨#[42]⟩ : ByteArray) a0 2).bind fun bt179 => ((word32_Do.f (⟨#[43]⟩ : ByteArray) a0 1).bind fun bt181 => ((word32_Do.f (⟨#[45]⟩ : ByteArray) bt181.1 1).bind fun bt183 => ((word32_Do.f (⟨#[42]⟩ : ByteArray) a0 (-1)).bind fun bt185 => ((word32_Less.f (⟨#[60]⟩ : ByteArray) a0 bt181.1).bind fun bt187 => ((changelinglaw13_told.f k).bind fun t189 => (if t189 = true then (if bt177.2 = true then (if bt179.2 = true then (if bt181.2 = true then (if bt183.2 = true then (if bt185.2 = true then (if bt187.2 = true then (if bt177.1 = bt179.1 then (if bt183.1 = a0 then ((word32_Neg.f a0).bind fun t190 => (if bt185.1 = t190 then (if (bt187.1 == (a0 != 2147483647)) = true then ((word32_Neg.f t190).bind fun t191 => (some (t191 == a0))) else (some false)) else (some false))) else (some false)) else (some false)) else (some false)) else (some false)) else (some false)) else (some false)) else (some false)) else (some false)) else (some false))))))))
theorem changelinglaw13_Word32Wraps.mono : ∀ a0 k, LeO (changelinglaw13_Word32Wraps.f k a0) (changelinglaw13_Word32Wraps.f (k + 1) a0) := by
  intro a0 k
  unfold changelinglaw13_Word32Wraps.f
  repeat' first
      | (with_reducible exact changelinglaw13_told.mono _)
      | (with_reducible exact LeO.refl _)
      | (with_reducible exact LeO.none _)
      | (with_reducible refine LeO.ite ?_ ?_)
      | (with_reducible refine LeO.bind ?_ (fun _ => ?_))
      | exact changelinglaw13_told.mono _
      | exact LeO.none _
      | refine LeO.ite ?_ ?_
      | refine LeO.bind ?_ (fun _ => ?_)
set_option maxHeartbeats 8000000 in
set_option maxRecDepth 100000 in
theorem changelinglaw13_Word32Wraps.calls (k : Nat) (a0 : Int) (r : Bool) (w : World) (h : changelinglaw13_Word32Wraps.f k a0 = some r) :
    Calls Try.prog 6 #[.int .i32 a0] w fun e w' => e = .returned (.bool r) ∧ Below w.heap.size w w' := by
  have HB := Aside0.mk (Below.refl w.heap.size w)
  have H : ((word32_Do.f (⟨#[43]⟩ : ByteArray) a0 a0).bind fun bt177 => ((word32_Do.f (⟨#[42]⟩ : ByteArray) a0 2).bind fun bt179 => ((word32_Do.f (⟨#[43]⟩ : ByteArray) a0 1).bind fun bt181 => ((word32_Do.f (⟨#[45]⟩ : ByteArray) bt181.1 1).bind fun bt183 => ((word32_Do.f (⟨#[42]⟩ : ByteArray) a0 (-1)).bind fun bt185 => ((word32_Less.f (⟨#[60]⟩ : ByteArray) a0 bt181.1).bind fun bt187 => ((changelinglaw13_told.f k).bind fun t189 => (if t189 = true then (if bt177.2 = true then (if bt179.2 = true then (if bt181.2 = true then (if bt183.2 = true then (if bt185.2 = true then (if bt187.2 = true then (if bt177.1 = bt179.1 then (if bt183.1 = a0 then ((word32_Neg.f a0).bind fun t190 => (if bt185.1 = t190 then (if (bt187.1 == (a0 != 2147483647)) = true then ((word32_Neg.f t190).bind fun t191 => (some (t191 == a0))) else (some false)) else (some false))) else (some false)) else (some false)) else (some false)) else (some false)) else (some false)) else (some false)) else (some false)) else (some false)) else (some false))))))))) = some r := h
  clear h
  replace H := Option.bind_eq_some_iff.mp H
  obtain ⟨⟨t177, t178⟩, A20, H⟩ := H
  replace H : ((word32_Do.f (⟨#[42]⟩ : ByteArray) a0 2).bind fun bt179 => ((word32_Do.f (⟨#[43]⟩ : ByteArray) a0 1).bind fun bt181 => ((word32_Do.f (⟨#[45]⟩ : ByteArray) bt181.1 1).bind fun bt183 => ((word32_Do.f (⟨#[42]⟩ : ByteArray) a0 (-1)).bind fun bt185 => ((word32_Less.f (⟨#[60]⟩ : ByteArray) a0 bt181.1).bind fun bt187 => ((changelinglaw13_told.f k).bind fun t189 => (if t189 = true then (if t178 = true then (if bt179.2 = true then (if bt181.2 = true then (if bt183.2 = true then (if bt185.2 = true then (if bt187.2 = true then (if t177 = bt179.1 then (if bt183.1 = a0 then ((word32_Neg.f a0).bind fun t190 => (if bt185.1 = t190 then (if (bt187.1 == (a0 != 2147483647)) = true then ((word32_Neg.f t190).bind fun t191 => (some (t191 == a0))) else (some false)) else (some false))) else (some false)) else (some false)) else (some false)) else (some false)) else (some false)) else (some false)) else (some false)) else (some false)) else (some false)))))))) = some r := H
  have A2 := Aside0.mk A20
  clear A20
  replace H := Option.bind_eq_some_iff.mp H
  obtain ⟨⟨t179, t180⟩, A30, H⟩ := H
  replace H : ((word32_Do.f (⟨#[43]⟩ : ByteArray) a0 1).bind fun bt181 => ((word32_Do.f (⟨#[45]⟩ : ByteArray) bt181.1 1).bind fun bt183 => ((word32_Do.f (⟨#[42]⟩ : ByteArray) a0 (-1)).bind fun bt185 => ((word32_Less.f (⟨#[60]⟩ : ByteArray) a0 bt181.1).bind fun bt187 => ((changelinglaw13_told.f k).bind fun t189 => (if t189 = true then (if t178 = true then (if t180 = true then (if bt181.2 = true then (if bt183.2 = true then (if bt185.2 = true then (if bt187.2 = true then (if t177 = t179 then (if bt183.1 = a0 then ((word32_Neg.f a0).bind fun t190 => (if bt185.1 = t190 then (if (bt187.1 == (a0 != 2147483647)) = true then ((word32_Neg.f t190).bind fun t191 => (some (t191 == a0))) else (some false)) else (some false))) else (some false)) else (some false)) else (some false)) else (some false)) else (some false)) else (some false)) else (some false)) else (some false)) else (some false))))))) = some r := H
  have A3 := Aside0.mk A30
  clear A30
  replace H := Option.bind_eq_some_iff.mp H
  obtain ⟨⟨t181, t182⟩, A40, H⟩ := H
  replace H : ((word32_Do.f (⟨#[45]⟩ : ByteArray) t181 1).bind fun bt183 => ((word32_Do.f (⟨#[42]⟩ : ByteArray) a0 (-1)).bind fun bt185 => ((word32_Less.f (⟨#[60]⟩ : ByteArray) a0 t181).bind fun bt187 => ((changelinglaw13_told.f k).bind fun t189 => (if t189 = true then (if t178 = true then (if t180 = true then (if t182 = true then (if bt183.2 = true then (if bt185.2 = true then (if bt187.2 = true then (if t177 = t179 then (if bt183.1 = a0 then ((word32_Neg.f a0).bind fun t190 => (if bt185.1 = t190 then (if (bt187.1 == (a0 != 2147483647)) = true then ((word32_Neg.f t190).bind fun t191 => (some (t191 == a0))) else (some false)) else (some false))) else (some false)) else (some false)) else (some false)) else (some false)) else (some false)) else (some false)) else (some false)) else (some false)) else (some false)))))) = some r := H
  have A4 := Aside0.mk A40
  clear A40
  replace H := Option.bind_eq_some_iff.mp H
  obtain ⟨⟨t183, t184⟩, A50, H⟩ := H
  replace H : ((word32_Do.f (⟨#[42]⟩ : ByteArray) a0 (-1)).bind fun bt185 => ((word32_Less.f (⟨#[60]⟩ : ByteArray) a0 t181).bind fun bt187 => ((changelinglaw13_told.f k).bind fun t189 => (if t189 = true then (if t178 = true then (if t180 = true then (if t182 = true then (if t184 = true then (if bt185.2 = true then (if bt187.2 = true then (if t177 = t179 then (if t183 = a0 then ((word32_Neg.f a0).bind fun t190 => (if bt185.1 = t190 then (if (bt187.1 == (a0 != 2147483647)) = true then ((word32_Neg.f t190).bind fun t191 => (some (t191 == a0))) else (some false)) else (some false))) else (some false)) else (some false)) else (some false)) else (some false)) else (some false)) else (some false)) else (some false)) else (some false)) else (some false))))) = some r := H
  have A5 := Aside0.mk A50
  clear A50
  replace H := Option.bind_eq_some_iff.mp H
  obtain ⟨⟨t185, t186⟩, A60, H⟩ := H
  replace H : ((word32_Less.f (⟨#[60]⟩ : ByteArray) a0 t181).bind fun bt187 => ((changelinglaw13_told.f k).bind fun t189 => (if t189 = true then (if t178 = true then (if t180 = true then (if t182 = true then (if t184 = true then (if t186 = true then (if bt187.2 = true then (if t177 = t179 then (if t183 = a0 then ((word32_Neg.f a0).bind fun t190 => (if t185 = t190 then (if (bt187.1 == (a0 != 2147483647)) = true then ((word32_Neg.f t190).bind fun t191 => (some (t191 == a0))) else (some false)) else (some false))) else (some false)) else (some false)) else (some false)) else (some false)) else (some false)) else (some false)) else (some false)) else (some false)) else (some false)))) = some r := H
  have A6 := Aside0.mk A60
  clear A60
  replace H := Option.bind_eq_some_iff.mp H
  obtain ⟨⟨t187, t188⟩, A70, H⟩ := H
  replace H : ((changelinglaw13_told.f k).bind fun t189 => (if t189 = true then (if t178 = true then (if t180 = true then (if t182 = true then (if t184 = true then (if t186 = true then (if t188 = true then (if t177 = t179 then (if t183 = a0 then ((word32_Neg.f a0).bind fun t190 => (if t185 = t190 then (if (t187 == (a0 != 2147483647)) = true then ((word32_Neg.f t190).bind fun t191 => (some (t191 == a0))) else (some false)) else (some false))) else (some false)) else (some false)) else (some false)) else (some false)) else (some false)) else (some false)) else (some false)) else (some false)) else (some false))) = some r := H
  have A7 := Aside0.mk A70
  clear A70
  replace H := Option.bind_eq_some_iff.mp H
  obtain ⟨t189, A80, H⟩ := H
  replace H : (if t189 = true then (if t178 = true then (if t180 = true then (if t182 = true then (if t184 = true then (if t186 = true then (if t188 = true then (if t177 = t179 then (if t183 = a0 then ((word32_Neg.f a0).bind fun t190 => (if t185 = t190 then (if (t187 == (a0 != 2147483647)) = true then ((word32_Neg.f t190).bind fun t191 => (some (t191 == a0))) else (some false)) else (some false))) else (some false)) else (some false)) else (some false)) else (some false)) else (some false)) else (some false)) else (some false)) else (some false)) else (some false)) = some r := H
  have A8 := Aside0.mk A80
  clear A80
  by_cases c9 : t189 = true
  · subst c9
    have H1 : (if t178 = true then (if t180 = true then (if t182 = true then (if t184 = true then (if t186 = true then (if t188 = true then (if t177 = t179 then (if t183 = a0 then ((word32_Neg.f a0).bind fun t190 => (if t185 = t190 then (if (t187 == (a0 != 2147483647)) = true then ((word32_Neg.f t190).bind fun t191 => (some (t191 == a0))) else (some false)) else (some false))) else (some false)) else (some false)) else (some false)) else (some false)) else (some false)) else (some false)) else (some false)) else (some false)) = some r := by rw [if_pos rfl] at H; exact H
    clear H
    have H := H1
    clear H1
    by_cases c10 : t178 = true
    · subst c10
      have H1 : (if t180 = true then (if t182 = true then (if t184 = true then (if t186 = true then (if t188 = true then (if t177 = t179 then (if t183 = a0 then ((word32_Neg.f a0).bind fun t190 => (if t185 = t190 then (if (t187 == (a0 != 2147483647)) = true then ((word32_Neg.f t190).bind fun t191 => (some (t191 == a0))) else (some false)) else (some false))) else (some false)) else (some false)) else (some false)) else (some false)) else (some false)) else (some false)) else (some false)) = some r := by rw [if_pos rfl] at H; exact H
      clear H
      have H := H1
      clear H1
      by_cases c11 : t180 = true
      · subst c11
        have H1 : (if t182 = true then (if t184 = true then (if t186 = true then (if t188 = true then (if t177 = t179 then (if t183 = a0 then ((word32_Neg.f a0).bind fun t190 => (if t185 = t190 then (if (t187 == (a0 != 2147483647)) = true then ((word32_Neg.f t190).bind fun t191 => (some (t191 == a0))) else (some false)) else (some false))) else (some false)) else (some false)) else (some false)) else (some false)) else (some false)) else (some false)) = some r := by rw [if_pos rfl] at H; exact H
        clear H
        have H := H1
        clear H1
        by_cases c12 : t182 = true
        · subst c12
          have H1 : (if t184 = true then (if t186 = true then (if t188 = true then (if t177 = t179 then (if t183 = a0 then ((word32_Neg.f a0).bind fun t190 => (if t185 = t190 then (if (t187 == (a0 != 2147483647)) = true then ((word32_Neg.f t190).bind fun t191 => (some (t191 == a0))) else (some false)) else (some false))) else (some false)) else (some false)) else (some false)) else (some false)) else (some false)) = some r := by rw [if_pos rfl] at H; exact H
          clear H
          have H := H1
          clear H1
          by_cases c13 : t184 = true
          · subst c13
            have H1 : (if t186 = true then (if t188 = true then (if t177 = t179 then (if t183 = a0 then ((word32_Neg.f a0).bind fun t190 => (if t185 = t190 then (if (t187 == (a0 != 2147483647)) = true then ((word32_Neg.f t190).bind fun t191 => (some (t191 == a0))) else (some false)) else (some false))) else (some false)) else (some false)) else (some false)) else (some false)) = some r := by rw [if_pos rfl] at H; exact H
            clear H
            have H := H1
            clear H1
            by_cases c14 : t186 = true
            · subst c14
              have H1 : (if t188 = true then (if t177 = t179 then (if t183 = a0 then ((word32_Neg.f a0).bind fun t190 => (if t185 = t190 then (if (t187 == (a0 != 2147483647)) = true then ((word32_Neg.f t190).bind fun t191 => (some (t191 == a0))) else (some false)) else (some false))) else (some false)) else (some false)) else (some false)) = some r := by rw [if_pos rfl] at H; exact H
              clear H
              have H := H1
              clear H1
              by_cases c15 : t188 = true
              · subst c15
                have H1 : (if t177 = t179 then (if t183 = a0 then ((word32_Neg.f a0).bind fun t190 => (if t185 = t190 then (if (t187 == (a0 != 2147483647)) = true then ((word32_Neg.f t190).bind fun t191 => (some (t191 == a0))) else (some false)) else (some false))) else (some false)) else (some false)) = some r := by rw [if_pos rfl] at H; exact H
                clear H
                have H := H1
                clear H1
                by_cases c16 : t177 = t179
                · rw [if_pos c16] at H
                  have c16b0 : (t177 == t179) = true := beq_iff_eq.mpr c16
                  have c16b1 : (t177 != t179) = false := bne_eq_false_iff_eq.mpr c16
                  clear c16
                  by_cases c17 : t183 = a0
                  · rw [if_pos c17] at H
                    have c17b0 : (t183 == a0) = true := beq_iff_eq.mpr c17
                    have c17b1 : (t183 != a0) = false := bne_eq_false_iff_eq.mpr c17
                    clear c17
                    replace H := Option.bind_eq_some_iff.mp H
                    obtain ⟨t190, A180, H⟩ := H
                    replace H : (if t185 = t190 then (if (t187 == (a0 != 2147483647)) = true then ((word32_Neg.f t190).bind fun t191 => (some (t191 == a0))) else (some false)) else (some false)) = some r := H
                    have A18 := Aside0.mk A180
                    clear A180
                    by_cases c19 : t185 = t190
                    · rw [if_pos c19] at H
                      have c19b0 : (t185 == t190) = true := beq_iff_eq.mpr c19
                      have c19b1 : (t185 != t190) = false := bne_eq_false_iff_eq.mpr c19
                      clear c19
                      by_cases c20 : (t187 == (a0 != 2147483647)) = true
                      · rw [if_pos c20] at H
                        have c20b0 : (t187 == (a0 != 2147483647)) = true := c20
                        (try (have c20b1 : decide (t187 = (a0 != 2147483647)) = true := by simpa using c20))
                        (try (have c20b2 : (t187 == (a0 != 2147483647)) = true := by simpa using c20))
                        clear c20
                        replace H := Option.bind_eq_some_iff.mp H
                        obtain ⟨t191, A210, H⟩ := H
                        replace H : (some (t191 == a0)) = some r := H
                        have A21 := Aside0.mk A210
                        clear A210
                        obtain rfl := Option.some.inj H
                        go_enter Try.func6, Try.ntmps6
                        go_wp2_with (first | ((with_reducible refine gate_callee (f := 8) rfl ?_); refine goesL_ (some 18) rfl rfl Try.func8 (by kernel_rfl) rfl #[.string (⟨#[43]⟩ : ByteArray), .int .i32 a0, .int .i32 a0] rfl (by (try simp only [List.map_toArray, List.map_cons, List.map_nil]); first | done | rfl | (simp only [List.length_drop, List.length_take]; rfl)) ?_; (with_reducible refine (word32_Do.calls (⟨#[43]⟩ : ByteArray) a0 a0 t177 true _ A2.out).mono ?_); rintro e w' ⟨rfl, ⟨nd, rfl⟩⟩; refine ⟨_, rfl, ?_⟩) | ((with_reducible refine gate_callee (f := 8) rfl ?_); refine goesL_ (some 23) rfl rfl Try.func8 (by kernel_rfl) rfl #[.string (⟨#[42]⟩ : ByteArray), .int .i32 a0, .int .i32 2] rfl (by (try simp only [List.map_toArray, List.map_cons, List.map_nil]); first | done | rfl | (simp only [List.length_drop, List.length_take]; rfl)) ?_; (with_reducible refine (word32_Do.calls (⟨#[42]⟩ : ByteArray) a0 2 t179 true _ A3.out).mono ?_); rintro e w' ⟨rfl, ⟨nd, rfl⟩⟩; refine ⟨_, rfl, ?_⟩) | ((with_reducible refine gate_callee (f := 8) rfl ?_); refine goesL_ (some 28) rfl rfl Try.func8 (by kernel_rfl) rfl #[.string (⟨#[43]⟩ : ByteArray), .int .i32 a0, .int .i32 1] rfl (by (try simp only [List.map_toArray, List.map_cons, List.map_nil]); first | done | rfl | (simp only [List.length_drop, List.length_take]; rfl)) ?_; (with_reducible refine (word32_Do.calls (⟨#[43]⟩ : ByteArray) a0 1 t181 true _ A4.out).mono ?_); rintro e w' ⟨rfl, ⟨nd, rfl⟩⟩; refine ⟨_, rfl, ?_⟩) | ((with_reducible refine gate_callee (f := 8) rfl ?_); refine goesL_ (some 33) rfl rfl Try.func8 (by kernel_rfl) rfl #[.string (⟨#[45]⟩ : ByteArray), .int .i32 t181, .int .i32 1] rfl (by (try simp only [List.map_toArray, List.map_cons, List.map_nil]); first | done | rfl | (simp only [List.length_drop, List.length_take]; rfl)) ?_; (with_reducible refine (word32_Do.calls (⟨#[45]⟩ : ByteArray) t181 1 t183 true _ A5.out).mono ?_); rintro e w' ⟨rfl, ⟨nd, rfl⟩⟩; refine ⟨_, rfl, ?_⟩) | ((with_reducible refine gate_callee (f := 8) rfl ?_); refine goesL_ (some 38) rfl rfl Try.func8 (by kernel_rfl) rfl #[.string (⟨#[42]⟩ : ByteArray), .int .i32 a0, .int .i32 (-1)] rfl (by (try simp only [List.map_toArray, List.map_cons, List.map_nil]); first | done | rfl | (simp only [List.length_drop, List.length_take]; rfl)) ?_; (with_reducible refine (word32_Do.calls (⟨#[42]⟩ : ByteArray) a0 (-1) t185 true _ A6.out).mono ?_); rintro e w' ⟨rfl, ⟨nd, rfl⟩⟩; refine ⟨_, rfl, ?_⟩) | ((with_reducible refine gate_callee (f := 10) rfl ?_); refine goesL_ (some 44) rfl rfl Try.func10 (by kernel_rfl) rfl #[.string (⟨#[60]⟩ : ByteArray), .int .i32 a0, .int .i32 t181] rfl (by (try simp only [List.map_toArray, List.map_cons, List.map_nil]); first | done | rfl | (simp only [List.length_drop, List.length_take]; rfl)) ?_; (with_reducible refine (word32_Less.calls (⟨#[60]⟩ : ByteArray) a0 t181 t187 true _ A7.out).mono ?_); rintro e w' ⟨rfl, ⟨nd, rfl⟩⟩; refine ⟨_, rfl, ?_⟩) | ((with_reducible refine gate_callee (f := 7) rfl ?_); refine goesL_ (some 47) rfl rfl Try.func7 (by kernel_rfl) rfl #[] rfl (by (try simp only [List.map_toArray, List.map_cons, List.map_nil]); first | done | rfl | (simp only [List.length_drop, List.length_take]; rfl)) ?_; (with_reducible refine (changelinglaw13_told.calls k  true _ A8.out).mono ?_); rintro e w22 ⟨rfl, hb⟩; refine ⟨_, rfl, ?_⟩; have n0_ := Aside0.mk (below_step (by repeat (first | (with_reducible first | exact HB.out | apply below_alloc | apply pw_below_drewN | apply below_drew1) | exact HB.out)) hb); clear HB; have HB := n0_; clear n0_; (try clear hb); (try clear hb2); (try clear hk); (try clear hi)) | (go_at_call 12; (with_reducible refine (word32_Neg.calls a0 t190 _ A18.out).mono ?_); rintro e w' ⟨rfl, ⟨nd, rfl⟩⟩) | (go_at_call 12; (with_reducible refine (word32_Neg.calls t190 t191 _ A21.out).mono ?_); rintro e w' ⟨rfl, ⟨nd, rfl⟩⟩))
                        go_ret
                        exact ⟨by first | rfl | (simp [errW_none, errW_some] <;> rfl) | (simp [*, errW_none, errW_some] <;> rfl), by repeat (first | (with_reducible first | exact HB.out | apply below_alloc | apply pw_below_drewN | apply below_drew1) | exact HB.out)⟩
                      · rw [if_neg c20] at H
                        have c20b0 : (t187 == (a0 != 2147483647)) = false := by simpa using c20
                        (try (have c20b1 : decide (t187 = (a0 != 2147483647)) = false := by simpa using c20))
                        (try (have c20b2 : (t187 == (a0 != 2147483647)) = false := by simpa using c20))
                        (try (have c20b3 : ¬ (t187 = (a0 != 2147483647)) := by simpa using c20))
                        clear c20
                        obtain rfl := Option.some.inj H
                        go_enter Try.func6, Try.ntmps6
                        go_wp2_with (first | ((with_reducible refine gate_callee (f := 8) rfl ?_); refine goesL_ (some 18) rfl rfl Try.func8 (by kernel_rfl) rfl #[.string (⟨#[43]⟩ : ByteArray), .int .i32 a0, .int .i32 a0] rfl (by (try simp only [List.map_toArray, List.map_cons, List.map_nil]); first | done | rfl | (simp only [List.length_drop, List.length_take]; rfl)) ?_; (with_reducible refine (word32_Do.calls (⟨#[43]⟩ : ByteArray) a0 a0 t177 true _ A2.out).mono ?_); rintro e w' ⟨rfl, ⟨nd, rfl⟩⟩; refine ⟨_, rfl, ?_⟩) | ((with_reducible refine gate_callee (f := 8) rfl ?_); refine goesL_ (some 23) rfl rfl Try.func8 (by kernel_rfl) rfl #[.string (⟨#[42]⟩ : ByteArray), .int .i32 a0, .int .i32 2] rfl (by (try simp only [List.map_toArray, List.map_cons, List.map_nil]); first | done | rfl | (simp only [List.length_drop, List.length_take]; rfl)) ?_; (with_reducible refine (word32_Do.calls (⟨#[42]⟩ : ByteArray) a0 2 t179 true _ A3.out).mono ?_); rintro e w' ⟨rfl, ⟨nd, rfl⟩⟩; refine ⟨_, rfl, ?_⟩) | ((with_reducible refine gate_callee (f := 8) rfl ?_); refine goesL_ (some 28) rfl rfl Try.func8 (by kernel_rfl) rfl #[.string (⟨#[43]⟩ : ByteArray), .int .i32 a0, .int .i32 1] rfl (by (try simp only [List.map_toArray, List.map_cons, List.map_nil]); first | done | rfl | (simp only [List.length_drop, List.length_take]; rfl)) ?_; (with_reducible refine (word32_Do.calls (⟨#[43]⟩ : ByteArray) a0 1 t181 true _ A4.out).mono ?_); rintro e w' ⟨rfl, ⟨nd, rfl⟩⟩; refine ⟨_, rfl, ?_⟩) | ((with_reducible refine gate_callee (f := 8) rfl ?_); refine goesL_ (some 33) rfl rfl Try.func8 (by kernel_rfl) rfl #[.string (⟨#[45]⟩ : ByteArray), .int .i32 t181, .int .i32 1] rfl (by (try simp only [List.map_toArray, List.map_cons, List.map_nil]); first | done | rfl | (simp only [List.length_drop, List.length_take]; rfl)) ?_; (with_reducible refine (word32_Do.calls (⟨#[45]⟩ : ByteArray) t181 1 t183 true _ A5.out).mono ?_); rintro e w' ⟨rfl, ⟨nd, rfl⟩⟩; refine ⟨_, rfl, ?_⟩) | ((with_reducible refine gate_callee (f := 8) rfl ?_); refine goesL_ (some 38) rfl rfl Try.func8 (by kernel_rfl) rfl #[.string (⟨#[42]⟩ : ByteArray), .int .i32 a0, .int .i32 (-1)] rfl (by (try simp only [List.map_toArray, List.map_cons, List.map_nil]); first | done | rfl | (simp only [List.length_drop, List.length_take]; rfl)) ?_; (with_reducible refine (word32_Do.calls (⟨#[42]⟩ : ByteArray) a0 (-1) t185 true _ A6.out).mono ?_); rintro e w' ⟨rfl, ⟨nd, rfl⟩⟩; refine ⟨_, rfl, ?_⟩) | ((with_reducible refine gate_callee (f := 10) rfl ?_); refine goesL_ (some 44) rfl rfl Try.func10 (by kernel_rfl) rfl #[.string (⟨#[60]⟩ : ByteArray), .int .i32 a0, .int .i32 t181] rfl (by (try simp only [List.map_toArray, List.map_cons, List.map_nil]); first | done | rfl | (simp only [List.length_drop, List.length_take]; rfl)) ?_; (with_reducible refine (word32_Less.calls (⟨#[60]⟩ : ByteArray) a0 t181 t187 true _ A7.out).mono ?_); rintro e w' ⟨rfl, ⟨nd, rfl⟩⟩; refine ⟨_, rfl, ?_⟩) | ((with_reducible refine gate_callee (f := 7) rfl ?_); refine goesL_ (some 47) rfl rfl Try.func7 (by kernel_rfl) rfl #[] rfl (by (try simp only [List.map_toArray, List.map_cons, List.map_nil]); first | done | rfl | (simp only [List.length_drop, List.length_take]; rfl)) ?_; (with_reducible refine (changelinglaw13_told.calls k  true _ A8.out).mono ?_); rintro e w23 ⟨rfl, hb⟩; refine ⟨_, rfl, ?_⟩; have n0_ := Aside0.mk (below_step (by repeat (first | (with_reducible first | exact HB.out | apply below_alloc | apply pw_below_drewN | apply below_drew1) | exact HB.out)) hb); clear HB; have HB := n0_; clear n0_; (try clear hb); (try clear hb2); (try clear hk); (try clear hi)) | (go_at_call 12; (with_reducible refine (word32_Neg.calls a0 t190 _ A18.out).mono ?_); rintro e w' ⟨rfl, ⟨nd, rfl⟩⟩))
                        go_ret
                        exact ⟨by first | rfl | (simp [errW_none, errW_some] <;> rfl) | (simp [*, errW_none, errW_some] <;> rfl), by repeat (first | (with_reducible first | exact HB.out | apply below_alloc | apply pw_below_drewN | apply below_drew1) | exact HB.out)⟩
                    · rw [if_neg c19] at H
                      have c19b0 : (t185 == t190) = false := beq_eq_false_iff_ne.mpr c19
                      have c19b1 : (t185 != t190) = true := bne_iff_ne.mpr c19
                      obtain rfl := Option.some.inj H
                      go_enter Try.func6, Try.ntmps6
                      go_wp2_with (first | ((with_reducible refine gate_callee (f := 8) rfl ?_); refine goesL_ (some 18) rfl rfl Try.func8 (by kernel_rfl) rfl #[.string (⟨#[43]⟩ : ByteArray), .int .i32 a0, .int .i32 a0] rfl (by (try simp only [List.map_toArray, List.map_cons, List.map_nil]); first | done | rfl | (simp only [List.length_drop, List.length_take]; rfl)) ?_; (with_reducible refine (word32_Do.calls (⟨#[43]⟩ : ByteArray) a0 a0 t177 true _ A2.out).mono ?_); rintro e w' ⟨rfl, ⟨nd, rfl⟩⟩; refine ⟨_, rfl, ?_⟩) | ((with_reducible refine gate_callee (f := 8) rfl ?_); refine goesL_ (some 23) rfl rfl Try.func8 (by kernel_rfl) rfl #[.string (⟨#[42]⟩ : ByteArray), .int .i32 a0, .int .i32 2] rfl (by (try simp only [List.map_toArray, List.map_cons, List.map_nil]); first | done | rfl | (simp only [List.length_drop, List.length_take]; rfl)) ?_; (with_reducible refine (word32_Do.calls (⟨#[42]⟩ : ByteArray) a0 2 t179 true _ A3.out).mono ?_); rintro e w' ⟨rfl, ⟨nd, rfl⟩⟩; refine ⟨_, rfl, ?_⟩) | ((with_reducible refine gate_callee (f := 8) rfl ?_); refine goesL_ (some 28) rfl rfl Try.func8 (by kernel_rfl) rfl #[.string (⟨#[43]⟩ : ByteArray), .int .i32 a0, .int .i32 1] rfl (by (try simp only [List.map_toArray, List.map_cons, List.map_nil]); first | done | rfl | (simp only [List.length_drop, List.length_take]; rfl)) ?_; (with_reducible refine (word32_Do.calls (⟨#[43]⟩ : ByteArray) a0 1 t181 true _ A4.out).mono ?_); rintro e w' ⟨rfl, ⟨nd, rfl⟩⟩; refine ⟨_, rfl, ?_⟩) | ((with_reducible refine gate_callee (f := 8) rfl ?_); refine goesL_ (some 33) rfl rfl Try.func8 (by kernel_rfl) rfl #[.string (⟨#[45]⟩ : ByteArray), .int .i32 t181, .int .i32 1] rfl (by (try simp only [List.map_toArray, List.map_cons, List.map_nil]); first | done | rfl | (simp only [List.length_drop, List.length_take]; rfl)) ?_; (with_reducible refine (word32_Do.calls (⟨#[45]⟩ : ByteArray) t181 1 t183 true _ A5.out).mono ?_); rintro e w' ⟨rfl, ⟨nd, rfl⟩⟩; refine ⟨_, rfl, ?_⟩) | ((with_reducible refine gate_callee (f := 8) rfl ?_); refine goesL_ (some 38) rfl rfl Try.func8 (by kernel_rfl) rfl #[.string (⟨#[42]⟩ : ByteArray), .int .i32 a0, .int .i32 (-1)] rfl (by (try simp only [List.map_toArray, List.map_cons, List.map_nil]); first | done | rfl | (simp only [List.length_drop, List.length_take]; rfl)) ?_; (with_reducible refine (word32_Do.calls (⟨#[42]⟩ : ByteArray) a0 (-1) t185 true _ A6.out).mono ?_); rintro e w' ⟨rfl, ⟨nd, rfl⟩⟩; refine ⟨_, rfl, ?_⟩) | ((with_reducible refine gate_callee (f := 10) rfl ?_); refine goesL_ (some 44) rfl rfl Try.func10 (by kernel_rfl) rfl #[.string (⟨#[60]⟩ : ByteArray), .int .i32 a0, .int .i32 t181] rfl (by (try simp only [List.map_toArray, List.map_cons, List.map_nil]); first | done | rfl | (simp only [List.length_drop, List.length_take]; rfl)) ?_; (with_reducible refine (word32_Less.calls (⟨#[60]⟩ : ByteArray) a0 t181 t187 true _ A7.out).mono ?_); rintro e w' ⟨rfl, ⟨nd, rfl⟩⟩; refine ⟨_, rfl, ?_⟩) | ((with_reducible refine gate_callee (f := 7) rfl ?_); refine goesL_ (some 47) rfl rfl Try.func7 (by kernel_rfl) rfl #[] rfl (by (try simp only [List.map_toArray, List.map_cons, List.map_nil]); first | done | rfl | (simp only [List.length_drop, List.length_take]; rfl)) ?_; (with_reducible refine (changelinglaw13_told.calls k  true _ A8.out).mono ?_); rintro e w24 ⟨rfl, hb⟩; refine ⟨_, rfl, ?_⟩; have n0_ := Aside0.mk (below_step (by repeat (first | (with_reducible first | exact HB.out | apply below_alloc | apply pw_below_drewN | apply below_drew1) | exact HB.out)) hb); clear HB; have HB := n0_; clear n0_; (try clear hb); (try clear hb2); (try clear hk); (try clear hi)) | (go_at_call 12; (with_reducible refine (word32_Neg.calls a0 t190 _ A18.out).mono ?_); rintro e w' ⟨rfl, ⟨nd, rfl⟩⟩))
                      go_ret
                      exact ⟨by first | rfl | (simp [errW_none, errW_some] <;> rfl) | (simp [*, errW_none, errW_some] <;> rfl), by repeat (first | (with_reducible first | exact HB.out | apply below_alloc | apply pw_below_drewN | apply below_drew1) | exact HB.out)⟩
                  · rw [if_neg c17] at H
                    have c17b0 : (t183 == a0) = false := beq_eq_false_iff_ne.mpr c17
                    have c17b1 : (t183 != a0) = true := bne_iff_ne.mpr c17
                    obtain rfl := Option.some.inj H
                    go_enter Try.func6, Try.ntmps6
                    go_wp2_with (first | ((with_reducible refine gate_callee (f := 8) rfl ?_); refine goesL_ (some 18) rfl rfl Try.func8 (by kernel_rfl) rfl #[.string (⟨#[43]⟩ : ByteArray), .int .i32 a0, .int .i32 a0] rfl (by (try simp only [List.map_toArray, List.map_cons, List.map_nil]); first | done | rfl | (simp only [List.length_drop, List.length_take]; rfl)) ?_; (with_reducible refine (word32_Do.calls (⟨#[43]⟩ : ByteArray) a0 a0 t177 true _ A2.out).mono ?_); rintro e w' ⟨rfl, ⟨nd, rfl⟩⟩; refine ⟨_, rfl, ?_⟩) | ((with_reducible refine gate_callee (f := 8) rfl ?_); refine goesL_ (some 23) rfl rfl Try.func8 (by kernel_rfl) rfl #[.string (⟨#[42]⟩ : ByteArray), .int .i32 a0, .int .i32 2] rfl (by (try simp only [List.map_toArray, List.map_cons, List.map_nil]); first | done | rfl | (simp only [List.length_drop, List.length_take]; rfl)) ?_; (with_reducible refine (word32_Do.calls (⟨#[42]⟩ : ByteArray) a0 2 t179 true _ A3.out).mono ?_); rintro e w' ⟨rfl, ⟨nd, rfl⟩⟩; refine ⟨_, rfl, ?_⟩) | ((with_reducible refine gate_callee (f := 8) rfl ?_); refine goesL_ (some 28) rfl rfl Try.func8 (by kernel_rfl) rfl #[.string (⟨#[43]⟩ : ByteArray), .int .i32 a0, .int .i32 1] rfl (by (try simp only [List.map_toArray, List.map_cons, List.map_nil]); first | done | rfl | (simp only [List.length_drop, List.length_take]; rfl)) ?_; (with_reducible refine (word32_Do.calls (⟨#[43]⟩ : ByteArray) a0 1 t181 true _ A4.out).mono ?_); rintro e w' ⟨rfl, ⟨nd, rfl⟩⟩; refine ⟨_, rfl, ?_⟩) | ((with_reducible refine gate_callee (f := 8) rfl ?_); refine goesL_ (some 33) rfl rfl Try.func8 (by kernel_rfl) rfl #[.string (⟨#[45]⟩ : ByteArray), .int .i32 t181, .int .i32 1] rfl (by (try simp only [List.map_toArray, List.map_cons, List.map_nil]); first | done | rfl | (simp only [List.length_drop, List.length_take]; rfl)) ?_; (with_reducible refine (word32_Do.calls (⟨#[45]⟩ : ByteArray) t181 1 t183 true _ A5.out).mono ?_); rintro e w' ⟨rfl, ⟨nd, rfl⟩⟩; refine ⟨_, rfl, ?_⟩) | ((with_reducible refine gate_callee (f := 8) rfl ?_); refine goesL_ (some 38) rfl rfl Try.func8 (by kernel_rfl) rfl #[.string (⟨#[42]⟩ : ByteArray), .int .i32 a0, .int .i32 (-1)] rfl (by (try simp only [List.map_toArray, List.map_cons, List.map_nil]); first | done | rfl | (simp only [List.length_drop, List.length_take]; rfl)) ?_; (with_reducible refine (word32_Do.calls (⟨#[42]⟩ : ByteArray) a0 (-1) t185 true _ A6.out).mono ?_); rintro e w' ⟨rfl, ⟨nd, rfl⟩⟩; refine ⟨_, rfl, ?_⟩) | ((with_reducible refine gate_callee (f := 10) rfl ?_); refine goesL_ (some 44) rfl rfl Try.func10 (by kernel_rfl) rfl #[.string (⟨#[60]⟩ : ByteArray), .int .i32 a0, .int .i32 t181] rfl (by (try simp only [List.map_toArray, List.map_cons, List.map_nil]); first | done | rfl | (simp only [List.length_drop, List.length_take]; rfl)) ?_; (with_reducible refine (word32_Less.calls (⟨#[60]⟩ : ByteArray) a0 t181 t187 true _ A7.out).mono ?_); rintro e w' ⟨rfl, ⟨nd, rfl⟩⟩; refine ⟨_, rfl, ?_⟩) | ((with_reducible refine gate_callee (f := 7) rfl ?_); refine goesL_ (some 47) rfl rfl Try.func7 (by kernel_rfl) rfl #[] rfl (by (try simp only [List.map_toArray, List.map_cons, List.map_nil]); first | done | rfl | (simp only [List.length_drop, List.length_take]; rfl)) ?_; (with_reducible refine (changelinglaw13_told.calls k  true _ A8.out).mono ?_); rintro e w25 ⟨rfl, hb⟩; refine ⟨_, rfl, ?_⟩; have n0_ := Aside0.mk (below_step (by repeat (first | (with_reducible first | exact HB.out | apply below_alloc | apply pw_below_drewN | apply below_drew1) | exact HB.out)) hb); clear HB; have HB := n0_; clear n0_; (try clear hb); (try clear hb2); (try clear hk); (try clear hi)))
                    go_ret
                    exact ⟨by first | rfl | (simp [errW_none, errW_some] <;> rfl) | (simp [*, errW_none, errW_some] <;> rfl), by repeat (first | (with_reducible first | exact HB.out | apply below_alloc | apply pw_below_drewN | apply below_drew1) | exact HB.out)⟩
                · rw [if_neg c16] at H
                  have c16b0 : (t177 == t179) = false := beq_eq_false_iff_ne.mpr c16
                  have c16b1 : (t177 != t179) = true := bne_iff_ne.mpr c16
                  obtain rfl := Option.some.inj H
                  go_enter Try.func6, Try.ntmps6
                  go_wp2_with (first | ((with_reducible refine gate_callee (f := 8) rfl ?_); refine goesL_ (some 18) rfl rfl Try.func8 (by kernel_rfl) rfl #[.string (⟨#[43]⟩ : ByteArray), .int .i32 a0, .int .i32 a0] rfl (by (try simp only [List.map_toArray, List.map_cons, List.map_nil]); first | done | rfl | (simp only [List.length_drop, List.length_take]; rfl)) ?_; (with_reducible refine (word32_Do.calls (⟨#[43]⟩ : ByteArray) a0 a0 t177 true _ A2.out).mono ?_); rintro e w' ⟨rfl, ⟨nd, rfl⟩⟩; refine ⟨_, rfl, ?_⟩) | ((with_reducible refine gate_callee (f := 8) rfl ?_); refine goesL_ (some 23) rfl rfl Try.func8 (by kernel_rfl) rfl #[.string (⟨#[42]⟩ : ByteArray), .int .i32 a0, .int .i32 2] rfl (by (try simp only [List.map_toArray, List.map_cons, List.map_nil]); first | done | rfl | (simp only [List.length_drop, List.length_take]; rfl)) ?_; (with_reducible refine (word32_Do.calls (⟨#[42]⟩ : ByteArray) a0 2 t179 true _ A3.out).mono ?_); rintro e w' ⟨rfl, ⟨nd, rfl⟩⟩; refine ⟨_, rfl, ?_⟩) | ((with_reducible refine gate_callee (f := 8) rfl ?_); refine goesL_ (some 28) rfl rfl Try.func8 (by kernel_rfl) rfl #[.string (⟨#[43]⟩ : ByteArray), .int .i32 a0, .int .i32 1] rfl (by (try simp only [List.map_toArray, List.map_cons, List.map_nil]); first | done | rfl | (simp only [List.length_drop, List.length_take]; rfl)) ?_; (with_reducible refine (word32_Do.calls (⟨#[43]⟩ : ByteArray) a0 1 t181 true _ A4.out).mono ?_); rintro e w' ⟨rfl, ⟨nd, rfl⟩⟩; refine ⟨_, rfl, ?_⟩) | ((with_reducible refine gate_callee (f := 8) rfl ?_); refine goesL_ (some 33) rfl rfl Try.func8 (by kernel_rfl) rfl #[.string (⟨#[45]⟩ : ByteArray), .int .i32 t181, .int .i32 1] rfl (by (try simp only [List.map_toArray, List.map_cons, List.map_nil]); first | done | rfl | (simp only [List.length_drop, List.length_take]; rfl)) ?_; (with_reducible refine (word32_Do.calls (⟨#[45]⟩ : ByteArray) t181 1 t183 true _ A5.out).mono ?_); rintro e w' ⟨rfl, ⟨nd, rfl⟩⟩; refine ⟨_, rfl, ?_⟩) | ((with_reducible refine gate_callee (f := 8) rfl ?_); refine goesL_ (some 38) rfl rfl Try.func8 (by kernel_rfl) rfl #[.string (⟨#[42]⟩ : ByteArray), .int .i32 a0, .int .i32 (-1)] rfl (by (try simp only [List.map_toArray, List.map_cons, List.map_nil]); first | done | rfl | (simp only [List.length_drop, List.length_take]; rfl)) ?_; (with_reducible refine (word32_Do.calls (⟨#[42]⟩ : ByteArray) a0 (-1) t185 true _ A6.out).mono ?_); rintro e w' ⟨rfl, ⟨nd, rfl⟩⟩; refine ⟨_, rfl, ?_⟩) | ((with_reducible refine gate_callee (f := 10) rfl ?_); refine goesL_ (some 44) rfl rfl Try.func10 (by kernel_rfl) rfl #[.string (⟨#[60]⟩ : ByteArray), .int .i32 a0, .int .i32 t181] rfl (by (try simp only [List.map_toArray, List.map_cons, List.map_nil]); first | done | rfl | (simp only [List.length_drop, List.length_take]; rfl)) ?_; (with_reducible refine (word32_Less.calls (⟨#[60]⟩ : ByteArray) a0 t181 t187 true _ A7.out).mono ?_); rintro e w' ⟨rfl, ⟨nd, rfl⟩⟩; refine ⟨_, rfl, ?_⟩) | ((with_reducible refine gate_callee (f := 7) rfl ?_); refine goesL_ (some 47) rfl rfl Try.func7 (by kernel_rfl) rfl #[] rfl (by (try simp only [List.map_toArray, List.map_cons, List.map_nil]); first | done | rfl | (simp only [List.length_drop, List.length_take]; rfl)) ?_; (with_reducible refine (changelinglaw13_told.calls k  true _ A8.out).mono ?_); rintro e w26 ⟨rfl, hb⟩; refine ⟨_, rfl, ?_⟩; have n0_ := Aside0.mk (below_step (by repeat (first | (with_reducible first | exact HB.out | apply below_alloc | apply pw_below_drewN | apply below_drew1) | exact HB.out)) hb); clear HB; have HB := n0_; clear n0_; (try clear hb); (try clear hb2); (try clear hk); (try clear hi)))
                  go_ret
                  exact ⟨by first | rfl | (simp [errW_none, errW_some] <;> rfl) | (simp [*, errW_none, errW_some] <;> rfl), by repeat (first | (with_reducible first | exact HB.out | apply below_alloc | apply pw_below_drewN | apply below_drew1) | exact HB.out)⟩
              · replace c15 := Bool.eq_false_iff.mpr c15
                subst c15
                have H1 : (some false) = some r := by rw [if_neg (show ¬ (false = true) by decide)] at H; exact H
                clear H
                have H := H1
                clear H1
                obtain rfl := Option.some.inj H
                go_enter Try.func6, Try.ntmps6
                go_wp2_with (first | ((with_reducible refine gate_callee (f := 8) rfl ?_); refine goesL_ (some 18) rfl rfl Try.func8 (by kernel_rfl) rfl #[.string (⟨#[43]⟩ : ByteArray), .int .i32 a0, .int .i32 a0] rfl (by (try simp only [List.map_toArray, List.map_cons, List.map_nil]); first | done | rfl | (simp only [List.length_drop, List.length_take]; rfl)) ?_; (with_reducible refine (word32_Do.calls (⟨#[43]⟩ : ByteArray) a0 a0 t177 true _ A2.out).mono ?_); rintro e w' ⟨rfl, ⟨nd, rfl⟩⟩; refine ⟨_, rfl, ?_⟩) | ((with_reducible refine gate_callee (f := 8) rfl ?_); refine goesL_ (some 23) rfl rfl Try.func8 (by kernel_rfl) rfl #[.string (⟨#[42]⟩ : ByteArray), .int .i32 a0, .int .i32 2] rfl (by (try simp only [List.map_toArray, List.map_cons, List.map_nil]); first | done | rfl | (simp only [List.length_drop, List.length_take]; rfl)) ?_; (with_reducible refine (word32_Do.calls (⟨#[42]⟩ : ByteArray) a0 2 t179 true _ A3.out).mono ?_); rintro e w' ⟨rfl, ⟨nd, rfl⟩⟩; refine ⟨_, rfl, ?_⟩) | ((with_reducible refine gate_callee (f := 8) rfl ?_); refine goesL_ (some 28) rfl rfl Try.func8 (by kernel_rfl) rfl #[.string (⟨#[43]⟩ : ByteArray), .int .i32 a0, .int .i32 1] rfl (by (try simp only [List.map_toArray, List.map_cons, List.map_nil]); first | done | rfl | (simp only [List.length_drop, List.length_take]; rfl)) ?_; (with_reducible refine (word32_Do.calls (⟨#[43]⟩ : ByteArray) a0 1 t181 true _ A4.out).mono ?_); rintro e w' ⟨rfl, ⟨nd, rfl⟩⟩; refine ⟨_, rfl, ?_⟩) | ((with_reducible refine gate_callee (f := 8) rfl ?_); refine goesL_ (some 33) rfl rfl Try.func8 (by kernel_rfl) rfl #[.string (⟨#[45]⟩ : ByteArray), .int .i32 t181, .int .i32 1] rfl (by (try simp only [List.map_toArray, List.map_cons, List.map_nil]); first | done | rfl | (simp only [List.length_drop, List.length_take]; rfl)) ?_; (with_reducible refine (word32_Do.calls (⟨#[45]⟩ : ByteArray) t181 1 t183 true _ A5.out).mono ?_); rintro e w' ⟨rfl, ⟨nd, rfl⟩⟩; refine ⟨_, rfl, ?_⟩) | ((with_reducible refine gate_callee (f := 8) rfl ?_); refine goesL_ (some 38) rfl rfl Try.func8 (by kernel_rfl) rfl #[.string (⟨#[42]⟩ : ByteArray), .int .i32 a0, .int .i32 (-1)] rfl (by (try simp only [List.map_toArray, List.map_cons, List.map_nil]); first | done | rfl | (simp only [List.length_drop, List.length_take]; rfl)) ?_; (with_reducible refine (word32_Do.calls (⟨#[42]⟩ : ByteArray) a0 (-1) t185 true _ A6.out).mono ?_); rintro e w' ⟨rfl, ⟨nd, rfl⟩⟩; refine ⟨_, rfl, ?_⟩) | ((with_reducible refine gate_callee (f := 10) rfl ?_); refine goesL_ (some 44) rfl rfl Try.func10 (by kernel_rfl) rfl #[.string (⟨#[60]⟩ : ByteArray), .int .i32 a0, .int .i32 t181] rfl (by (try simp only [List.map_toArray, List.map_cons, List.map_nil]); first | done | rfl | (simp only [List.length_drop, List.length_take]; rfl)) ?_; (with_reducible refine (word32_Less.calls (⟨#[60]⟩ : ByteArray) a0 t181 t187 false _ A7.out).mono ?_); rintro e w' ⟨rfl, ⟨nd, rfl⟩⟩; refine ⟨_, rfl, ?_⟩) | ((with_reducible refine gate_callee (f := 7) rfl ?_); refine goesL_ (some 47) rfl rfl Try.func7 (by kernel_rfl) rfl #[] rfl (by (try simp only [List.map_toArray, List.map_cons, List.map_nil]); first | done | rfl | (simp only [List.length_drop, List.length_take]; rfl)) ?_; (with_reducible refine (changelinglaw13_told.calls k  true _ A8.out).mono ?_); rintro e w27 ⟨rfl, hb⟩; refine ⟨_, rfl, ?_⟩; have n0_ := Aside0.mk (below_step (by repeat (first | (with_reducible first | exact HB.out | apply below_alloc | apply pw_below_drewN | apply below_drew1) | exact HB.out)) hb); clear HB; have HB := n0_; clear n0_; (try clear hb); (try clear hb2); (try clear hk); (try clear hi)))
                go_ret
                exact ⟨by first | rfl | (simp [errW_none, errW_some] <;> rfl) | (simp [*, errW_none, errW_some] <;> rfl), by repeat (first | (with_reducible first | exact HB.out | apply below_alloc | apply pw_below_drewN | apply below_drew1) | exact HB.out)⟩
            · replace c14 := Bool.eq_false_iff.mpr c14
              subst c14
              have H1 : (some false) = some r := by rw [if_neg (show ¬ (false = true) by decide)] at H; exact H
              clear H
              have H := H1
              clear H1
              obtain rfl := Option.some.inj H
              go_enter Try.func6, Try.ntmps6
              go_wp2_with (first | ((with_reducible refine gate_callee (f := 8) rfl ?_); refine goesL_ (some 18) rfl rfl Try.func8 (by kernel_rfl) rfl #[.string (⟨#[43]⟩ : ByteArray), .int .i32 a0, .int .i32 a0] rfl (by (try simp only [List.map_toArray, List.map_cons, List.map_nil]); first | done | rfl | (simp only [List.length_drop, List.length_take]; rfl)) ?_; (with_reducible refine (word32_Do.calls (⟨#[43]⟩ : ByteArray) a0 a0 t177 true _ A2.out).mono ?_); rintro e w' ⟨rfl, ⟨nd, rfl⟩⟩; refine ⟨_, rfl, ?_⟩) | ((with_reducible refine gate_callee (f := 8) rfl ?_); refine goesL_ (some 23) rfl rfl Try.func8 (by kernel_rfl) rfl #[.string (⟨#[42]⟩ : ByteArray), .int .i32 a0, .int .i32 2] rfl (by (try simp only [List.map_toArray, List.map_cons, List.map_nil]); first | done | rfl | (simp only [List.length_drop, List.length_take]; rfl)) ?_; (with_reducible refine (word32_Do.calls (⟨#[42]⟩ : ByteArray) a0 2 t179 true _ A3.out).mono ?_); rintro e w' ⟨rfl, ⟨nd, rfl⟩⟩; refine ⟨_, rfl, ?_⟩) | ((with_reducible refine gate_callee (f := 8) rfl ?_); refine goesL_ (some 28) rfl rfl Try.func8 (by kernel_rfl) rfl #[.string (⟨#[43]⟩ : ByteArray), .int .i32 a0, .int .i32 1] rfl (by (try simp only [List.map_toArray, List.map_cons, List.map_nil]); first | done | rfl | (simp only [List.length_drop, List.length_take]; rfl)) ?_; (with_reducible refine (word32_Do.calls (⟨#[43]⟩ : ByteArray) a0 1 t181 true _ A4.out).mono ?_); rintro e w' ⟨rfl, ⟨nd, rfl⟩⟩; refine ⟨_, rfl, ?_⟩) | ((with_reducible refine gate_callee (f := 8) rfl ?_); refine goesL_ (some 33) rfl rfl Try.func8 (by kernel_rfl) rfl #[.string (⟨#[45]⟩ : ByteArray), .int .i32 t181, .int .i32 1] rfl (by (try simp only [List.map_toArray, List.map_cons, List.map_nil]); first | done | rfl | (simp only [List.length_drop, List.length_take]; rfl)) ?_; (with_reducible refine (word32_Do.calls (⟨#[45]⟩ : ByteArray) t181 1 t183 true _ A5.out).mono ?_); rintro e w' ⟨rfl, ⟨nd, rfl⟩⟩; refine ⟨_, rfl, ?_⟩) | ((with_reducible refine gate_callee (f := 8) rfl ?_); refine goesL_ (some 38) rfl rfl Try.func8 (by kernel_rfl) rfl #[.string (⟨#[42]⟩ : ByteArray), .int .i32 a0, .int .i32 (-1)] rfl (by (try simp only [List.map_toArray, List.map_cons, List.map_nil]); first | done | rfl | (simp only [List.length_drop, List.length_take]; rfl)) ?_; (with_reducible refine (word32_Do.calls (⟨#[42]⟩ : ByteArray) a0 (-1) t185 false _ A6.out).mono ?_); rintro e w' ⟨rfl, ⟨nd, rfl⟩⟩; refine ⟨_, rfl, ?_⟩) | ((with_reducible refine gate_callee (f := 10) rfl ?_); refine goesL_ (some 44) rfl rfl Try.func10 (by kernel_rfl) rfl #[.string (⟨#[60]⟩ : ByteArray), .int .i32 a0, .int .i32 t181] rfl (by (try simp only [List.map_toArray, List.map_cons, List.map_nil]); first | done | rfl | (simp only [List.length_drop, List.length_take]; rfl)) ?_; (with_reducible refine (word32_Less.calls (⟨#[60]⟩ : ByteArray) a0 t181 t187 t188 _ A7.out).mono ?_); rintro e w' ⟨rfl, ⟨nd, rfl⟩⟩; refine ⟨_, rfl, ?_⟩) | ((with_reducible refine gate_callee (f := 7) rfl ?_); refine goesL_ (some 47) rfl rfl Try.func7 (by kernel_rfl) rfl #[] rfl (by (try simp only [List.map_toArray, List.map_cons, List.map_nil]); first | done | rfl | (simp only [List.length_drop, List.length_take]; rfl)) ?_; (with_reducible refine (changelinglaw13_told.calls k  true _ A8.out).mono ?_); rintro e w28 ⟨rfl, hb⟩; refine ⟨_, rfl, ?_⟩; have n0_ := Aside0.mk (below_step (by repeat (first | (with_reducible first | exact HB.out | apply below_alloc | apply pw_below_drewN | apply below_drew1) | exact HB.out)) hb); clear HB; have HB := n0_; clear n0_; (try clear hb); (try clear hb2); (try clear hk); (try clear hi)))
              go_ret
              exact ⟨by first | rfl | (simp [errW_none, errW_some] <;> rfl) | (simp [*, errW_none, errW_some] <;> rfl), by repeat (first | (with_reducible first | exact HB.out | apply below_alloc | apply pw_below_drewN | apply below_drew1) | exact HB.out)⟩
          · replace c13 := Bool.eq_false_iff.mpr c13
            subst c13
            have H1 : (some false) = some r := by rw [if_neg (show ¬ (false = true) by decide)] at H; exact H
            clear H
            have H := H1
            clear H1
            obtain rfl := Option.some.inj H
            go_enter Try.func6, Try.ntmps6
            go_wp2_with (first | ((with_reducible refine gate_callee (f := 8) rfl ?_); refine goesL_ (some 18) rfl rfl Try.func8 (by kernel_rfl) rfl #[.string (⟨#[43]⟩ : ByteArray), .int .i32 a0, .int .i32 a0] rfl (by (try simp only [List.map_toArray, List.map_cons, List.map_nil]); first | done | rfl | (simp only [List.length_drop, List.length_take]; rfl)) ?_; (with_reducible refine (word32_Do.calls (⟨#[43]⟩ : ByteArray) a0 a0 t177 true _ A2.out).mono ?_); rintro e w' ⟨rfl, ⟨nd, rfl⟩⟩; refine ⟨_, rfl, ?_⟩) | ((with_reducible refine gate_callee (f := 8) rfl ?_); refine goesL_ (some 23) rfl rfl Try.func8 (by kernel_rfl) rfl #[.string (⟨#[42]⟩ : ByteArray), .int .i32 a0, .int .i32 2] rfl (by (try simp only [List.map_toArray, List.map_cons, List.map_nil]); first | done | rfl | (simp only [List.length_drop, List.length_take]; rfl)) ?_; (with_reducible refine (word32_Do.calls (⟨#[42]⟩ : ByteArray) a0 2 t179 true _ A3.out).mono ?_); rintro e w' ⟨rfl, ⟨nd, rfl⟩⟩; refine ⟨_, rfl, ?_⟩) | ((with_reducible refine gate_callee (f := 8) rfl ?_); refine goesL_ (some 28) rfl rfl Try.func8 (by kernel_rfl) rfl #[.string (⟨#[43]⟩ : ByteArray), .int .i32 a0, .int .i32 1] rfl (by (try simp only [List.map_toArray, List.map_cons, List.map_nil]); first | done | rfl | (simp only [List.length_drop, List.length_take]; rfl)) ?_; (with_reducible refine (word32_Do.calls (⟨#[43]⟩ : ByteArray) a0 1 t181 true _ A4.out).mono ?_); rintro e w' ⟨rfl, ⟨nd, rfl⟩⟩; refine ⟨_, rfl, ?_⟩) | ((with_reducible refine gate_callee (f := 8) rfl ?_); refine goesL_ (some 33) rfl rfl Try.func8 (by kernel_rfl) rfl #[.string (⟨#[45]⟩ : ByteArray), .int .i32 t181, .int .i32 1] rfl (by (try simp only [List.map_toArray, List.map_cons, List.map_nil]); first | done | rfl | (simp only [List.length_drop, List.length_take]; rfl)) ?_; (with_reducible refine (word32_Do.calls (⟨#[45]⟩ : ByteArray) t181 1 t183 false _ A5.out).mono ?_); rintro e w' ⟨rfl, ⟨nd, rfl⟩⟩; refine ⟨_, rfl, ?_⟩) | ((with_reducible refine gate_callee (f := 8) rfl ?_); refine goesL_ (some 38) rfl rfl Try.func8 (by kernel_rfl) rfl #[.string (⟨#[42]⟩ : ByteArray), .int .i32 a0, .int .i32 (-1)] rfl (by (try simp only [List.map_toArray, List.map_cons, List.map_nil]); first | done | rfl | (simp only [List.length_drop, List.length_take]; rfl)) ?_; (with_reducible refine (word32_Do.calls (⟨#[42]⟩ : ByteArray) a0 (-1) t185 t186 _ A6.out).mono ?_); rintro e w' ⟨rfl, ⟨nd, rfl⟩⟩; refine ⟨_, rfl, ?_⟩) | ((with_reducible refine gate_callee (f := 10) rfl ?_); refine goesL_ (some 44) rfl rfl Try.func10 (by kernel_rfl) rfl #[.string (⟨#[60]⟩ : ByteArray), .int .i32 a0, .int .i32 t181] rfl (by (try simp only [List.map_toArray, List.map_cons, List.map_nil]); first | done | rfl | (simp only [List.length_drop, List.length_take]; rfl)) ?_; (with_reducible refine (word32_Less.calls (⟨#[60]⟩ : ByteArray) a0 t181 t187 t188 _ A7.out).mono ?_); rintro e w' ⟨rfl, ⟨nd, rfl⟩⟩; refine ⟨_, rfl, ?_⟩) | ((with_reducible refine gate_callee (f := 7) rfl ?_); refine goesL_ (some 47) rfl rfl Try.func7 (by kernel_rfl) rfl #[] rfl (by (try simp only [List.map_toArray, List.map_cons, List.map_nil]); first | done | rfl | (simp only [List.length_drop, List.length_take]; rfl)) ?_; (with_reducible refine (changelinglaw13_told.calls k  true _ A8.out).mono ?_); rintro e w29 ⟨rfl, hb⟩; refine ⟨_, rfl, ?_⟩; have n0_ := Aside0.mk (below_step (by repeat (first | (with_reducible first | exact HB.out | apply below_alloc | apply pw_below_drewN | apply below_drew1) | exact HB.out)) hb); clear HB; have HB := n0_; clear n0_; (try clear hb); (try clear hb2); (try clear hk); (try clear hi)))
            go_ret
            exact ⟨by first | rfl | (simp [errW_none, errW_some] <;> rfl) | (simp [*, errW_none, errW_some] <;> rfl), by repeat (first | (with_reducible first | exact HB.out | apply below_alloc | apply pw_below_drewN | apply below_drew1) | exact HB.out)⟩
        · replace c12 := Bool.eq_false_iff.mpr c12
          subst c12
          have H1 : (some false) = some r := by rw [if_neg (show ¬ (false = true) by decide)] at H; exact H
          clear H
          have H := H1
          clear H1
          obtain rfl := Option.some.inj H
          go_enter Try.func6, Try.ntmps6
          go_wp2_with (first | ((with_reducible refine gate_callee (f := 8) rfl ?_); refine goesL_ (some 18) rfl rfl Try.func8 (by kernel_rfl) rfl #[.string (⟨#[43]⟩ : ByteArray), .int .i32 a0, .int .i32 a0] rfl (by (try simp only [List.map_toArray, List.map_cons, List.map_nil]); first | done | rfl | (simp only [List.length_drop, List.length_take]; rfl)) ?_; (with_reducible refine (word32_Do.calls (⟨#[43]⟩ : ByteArray) a0 a0 t177 true _ A2.out).mono ?_); rintro e w' ⟨rfl, ⟨nd, rfl⟩⟩; refine ⟨_, rfl, ?_⟩) | ((with_reducible refine gate_callee (f := 8) rfl ?_); refine goesL_ (some 23) rfl rfl Try.func8 (by kernel_rfl) rfl #[.string (⟨#[42]⟩ : ByteArray), .int .i32 a0, .int .i32 2] rfl (by (try simp only [List.map_toArray, List.map_cons, List.map_nil]); first | done | rfl | (simp only [List.length_drop, List.length_take]; rfl)) ?_; (with_reducible refine (word32_Do.calls (⟨#[42]⟩ : ByteArray) a0 2 t179 true _ A3.out).mono ?_); rintro e w' ⟨rfl, ⟨nd, rfl⟩⟩; refine ⟨_, rfl, ?_⟩) | ((with_reducible refine gate_callee (f := 8) rfl ?_); refine goesL_ (some 28) rfl rfl Try.func8 (by kernel_rfl) rfl #[.string (⟨#[43]⟩ : ByteArray), .int .i32 a0, .int .i32 1] rfl (by (try simp only [List.map_toArray, List.map_cons, List.map_nil]); first | done | rfl | (simp only [List.length_drop, List.length_take]; rfl)) ?_; (with_reducible refine (word32_Do.calls (⟨#[43]⟩ : ByteArray) a0 1 t181 false _ A4.out).mono ?_); rintro e w' ⟨rfl, ⟨nd, rfl⟩⟩; refine ⟨_, rfl, ?_⟩) | ((with_reducible refine gate_callee (f := 8) rfl ?_); refine goesL_ (some 33) rfl rfl Try.func8 (by kernel_rfl) rfl #[.string (⟨#[45]⟩ : ByteArray), .int .i32 t181, .int .i32 1] rfl (by (try simp only [List.map_toArray, List.map_cons, List.map_nil]); first | done | rfl | (simp only [List.length_drop, List.length_take]; rfl)) ?_; (with_reducible refine (word32_Do.calls (⟨#[45]⟩ : ByteArray) t181 1 t183 t184 _ A5.out).mono ?_); rintro e w' ⟨rfl, ⟨nd, rfl⟩⟩; refine ⟨_, rfl, ?_⟩) | ((with_reducible refine gate_callee (f := 8) rfl ?_); refine goesL_ (some 38) rfl rfl Try.func8 (by kernel_rfl) rfl #[.string (⟨#[42]⟩ : ByteArray), .int .i32 a0, .int .i32 (-1)] rfl (by (try simp only [List.map_toArray, List.map_cons, List.map_nil]); first | done | rfl | (simp only [List.length_drop, List.length_take]; rfl)) ?_; (with_reducible refine (word32_Do.calls (⟨#[42]⟩ : ByteArray) a0 (-1) t185 t186 _ A6.out).mono ?_); rintro e w' ⟨rfl, ⟨nd, rfl⟩⟩; refine ⟨_, rfl, ?_⟩) | ((with_reducible refine gate_callee (f := 10) rfl ?_); refine goesL_ (some 44) rfl rfl Try.func10 (by kernel_rfl) rfl #[.string (⟨#[60]⟩ : ByteArray), .int .i32 a0, .int .i32 t181] rfl (by (try simp only [List.map_toArray, List.map_cons, List.map_nil]); first | done | rfl | (simp only [List.length_drop, List.length_take]; rfl)) ?_; (with_reducible refine (word32_Less.calls (⟨#[60]⟩ : ByteArray) a0 t181 t187 t188 _ A7.out).mono ?_); rintro e w' ⟨rfl, ⟨nd, rfl⟩⟩; refine ⟨_, rfl, ?_⟩) | ((with_reducible refine gate_callee (f := 7) rfl ?_); refine goesL_ (some 47) rfl rfl Try.func7 (by kernel_rfl) rfl #[] rfl (by (try simp only [List.map_toArray, List.map_cons, List.map_nil]); first | done | rfl | (simp only [List.length_drop, List.length_take]; rfl)) ?_; (with_reducible refine (changelinglaw13_told.calls k  true _ A8.out).mono ?_); rintro e w30 ⟨rfl, hb⟩; refine ⟨_, rfl, ?_⟩; have n0_ := Aside0.mk (below_step (by repeat (first | (with_reducible first | exact HB.out | apply below_alloc | apply pw_below_drewN | apply below_drew1) | exact HB.out)) hb); clear HB; have HB := n0_; clear n0_; (try clear hb); (try clear hb2); (try clear hk); (try clear hi)))
          go_ret
          exact ⟨by first | rfl | (simp [errW_none, errW_some] <;> rfl) | (simp [*, errW_none, errW_some] <;> rfl), by repeat (first | (with_reducible first | exact HB.out | apply below_alloc | apply pw_below_drewN | apply below_drew1) | exact HB.out)⟩
      · replace c11 := Bool.eq_false_iff.mpr c11
        subst c11
        have H1 : (some false) = some r := by rw [if_neg (show ¬ (false = true) by decide)] at H; exact H
        clear H
        have H := H1
        clear H1
        obtain rfl := Option.some.inj H
        go_enter Try.func6, Try.ntmps6
        go_wp2_with (first | ((with_reducible refine gate_callee (f := 8) rfl ?_); refine goesL_ (some 18) rfl rfl Try.func8 (by kernel_rfl) rfl #[.string (⟨#[43]⟩ : ByteArray), .int .i32 a0, .int .i32 a0] rfl (by (try simp only [List.map_toArray, List.map_cons, List.map_nil]); first | done | rfl | (simp only [List.length_drop, List.length_take]; rfl)) ?_; (with_reducible refine (word32_Do.calls (⟨#[43]⟩ : ByteArray) a0 a0 t177 true _ A2.out).mono ?_); rintro e w' ⟨rfl, ⟨nd, rfl⟩⟩; refine ⟨_, rfl, ?_⟩) | ((with_reducible refine gate_callee (f := 8) rfl ?_); refine goesL_ (some 23) rfl rfl Try.func8 (by kernel_rfl) rfl #[.string (⟨#[42]⟩ : ByteArray), .int .i32 a0, .int .i32 2] rfl (by (try simp only [List.map_toArray, List.map_cons, List.map_nil]); first | done | rfl | (simp only [List.length_drop, List.length_take]; rfl)) ?_; (with_reducible refine (word32_Do.calls (⟨#[42]⟩ : ByteArray) a0 2 t179 false _ A3.out).mono ?_); rintro e w' ⟨rfl, ⟨nd, rfl⟩⟩; refine ⟨_, rfl, ?_⟩) | ((with_reducible refine gate_callee (f := 8) rfl ?_); refine goesL_ (some 28) rfl rfl Try.func8 (by kernel_rfl) rfl #[.string (⟨#[43]⟩ : ByteArray), .int .i32 a0, .int .i32 1] rfl (by (try simp only [List.map_toArray, List.map_cons, List.map_nil]); first | done | rfl | (simp only [List.length_drop, List.length_take]; rfl)) ?_; (with_reducible refine (word32_Do.calls (⟨#[43]⟩ : ByteArray) a0 1 t181 t182 _ A4.out).mono ?_); rintro e w' ⟨rfl, ⟨nd, rfl⟩⟩; refine ⟨_, rfl, ?_⟩) | ((with_reducible refine gate_callee (f := 8) rfl ?_); refine goesL_ (some 33) rfl rfl Try.func8 (by kernel_rfl) rfl #[.string (⟨#[45]⟩ : ByteArray), .int .i32 t181, .int .i32 1] rfl (by (try simp only [List.map_toArray, List.map_cons, List.map_nil]); first | done | rfl | (simp only [List.length_drop, List.length_take]; rfl)) ?_; (with_reducible refine (word32_Do.calls (⟨#[45]⟩ : ByteArray) t181 1 t183 t184 _ A5.out).mono ?_); rintro e w' ⟨rfl, ⟨nd, rfl⟩⟩; refine ⟨_, rfl, ?_⟩) | ((with_reducible refine gate_callee (f := 8) rfl ?_); refine goesL_ (some 38) rfl rfl Try.func8 (by kernel_rfl) rfl #[.string (⟨#[42]⟩ : ByteArray), .int .i32 a0, .int .i32 (-1)] rfl (by (try simp only [List.map_toArray, List.map_cons, List.map_nil]); first | done | rfl | (simp only [List.length_drop, List.length_take]; rfl)) ?_; (with_reducible refine (word32_Do.calls (⟨#[42]⟩ : ByteArray) a0 (-1) t185 t186 _ A6.out).mono ?_); rintro e w' ⟨rfl, ⟨nd, rfl⟩⟩; refine ⟨_, rfl, ?_⟩) | ((with_reducible refine gate_callee (f := 10) rfl ?_); refine goesL_ (some 44) rfl rfl Try.func10 (by kernel_rfl) rfl #[.string (⟨#[60]⟩ : ByteArray), .int .i32 a0, .int .i32 t181] rfl (by (try simp only [List.map_toArray, List.map_cons, List.map_nil]); first | done | rfl | (simp only [List.length_drop, List.length_take]; rfl)) ?_; (with_reducible refine (word32_Less.calls (⟨#[60]⟩ : ByteArray) a0 t181 t187 t188 _ A7.out).mono ?_); rintro e w' ⟨rfl, ⟨nd, rfl⟩⟩; refine ⟨_, rfl, ?_⟩) | ((with_reducible refine gate_callee (f := 7) rfl ?_); refine goesL_ (some 47) rfl rfl Try.func7 (by kernel_rfl) rfl #[] rfl (by (try simp only [List.map_toArray, List.map_cons, List.map_nil]); first | done | rfl | (simp only [List.length_drop, List.length_take]; rfl)) ?_; (with_reducible refine (changelinglaw13_told.calls k  true _ A8.out).mono ?_); rintro e w31 ⟨rfl, hb⟩; refine ⟨_, rfl, ?_⟩; have n0_ := Aside0.mk (below_step (by repeat (first | (with_reducible first | exact HB.out | apply below_alloc | apply pw_below_drewN | apply below_drew1) | exact HB.out)) hb); clear HB; have HB := n0_; clear n0_; (try clear hb); (try clear hb2); (try clear hk); (try clear hi)))
        go_ret
        exact ⟨by first | rfl | (simp [errW_none, errW_some] <;> rfl) | (simp [*, errW_none, errW_some] <;> rfl), by repeat (first | (with_reducible first | exact HB.out | apply below_alloc | apply pw_below_drewN | apply below_drew1) | exact HB.out)⟩
    · replace c10 := Bool.eq_false_iff.mpr c10
      subst c10
      have H1 : (some false) = some r := by rw [if_neg (show ¬ (false = true) by decide)] at H; exact H
      clear H
      have H := H1
      clear H1
      obtain rfl := Option.some.inj H
      go_enter Try.func6, Try.ntmps6
      go_wp2_with (first | ((with_reducible refine gate_callee (f := 8) rfl ?_); refine goesL_ (some 18) rfl rfl Try.func8 (by kernel_rfl) rfl #[.string (⟨#[43]⟩ : ByteArray), .int .i32 a0, .int .i32 a0] rfl (by (try simp only [List.map_toArray, List.map_cons, List.map_nil]); first | done | rfl | (simp only [List.length_drop, List.length_take]; rfl)) ?_; (with_reducible refine (word32_Do.calls (⟨#[43]⟩ : ByteArray) a0 a0 t177 false _ A2.out).mono ?_); rintro e w' ⟨rfl, ⟨nd, rfl⟩⟩; refine ⟨_, rfl, ?_⟩) | ((with_reducible refine gate_callee (f := 8) rfl ?_); refine goesL_ (some 23) rfl rfl Try.func8 (by kernel_rfl) rfl #[.string (⟨#[42]⟩ : ByteArray), .int .i32 a0, .int .i32 2] rfl (by (try simp only [List.map_toArray, List.map_cons, List.map_nil]); first | done | rfl | (simp only [List.length_drop, List.length_take]; rfl)) ?_; (with_reducible refine (word32_Do.calls (⟨#[42]⟩ : ByteArray) a0 2 t179 t180 _ A3.out).mono ?_); rintro e w' ⟨rfl, ⟨nd, rfl⟩⟩; refine ⟨_, rfl, ?_⟩) | ((with_reducible refine gate_callee (f := 8) rfl ?_); refine goesL_ (some 28) rfl rfl Try.func8 (by kernel_rfl) rfl #[.string (⟨#[43]⟩ : ByteArray), .int .i32 a0, .int .i32 1] rfl (by (try simp only [List.map_toArray, List.map_cons, List.map_nil]); first | done | rfl | (simp only [List.length_drop, List.length_take]; rfl)) ?_; (with_reducible refine (word32_Do.calls (⟨#[43]⟩ : ByteArray) a0 1 t181 t182 _ A4.out).mono ?_); rintro e w' ⟨rfl, ⟨nd, rfl⟩⟩; refine ⟨_, rfl, ?_⟩) | ((with_reducible refine gate_callee (f := 8) rfl ?_); refine goesL_ (some 33) rfl rfl Try.func8 (by kernel_rfl) rfl #[.string (⟨#[45]⟩ : ByteArray), .int .i32 t181, .int .i32 1] rfl (by (try simp only [List.map_toArray, List.map_cons, List.map_nil]); first | done | rfl | (simp only [List.length_drop, List.length_take]; rfl)) ?_; (with_reducible refine (word32_Do.calls (⟨#[45]⟩ : ByteArray) t181 1 t183 t184 _ A5.out).mono ?_); rintro e w' ⟨rfl, ⟨nd, rfl⟩⟩; refine ⟨_, rfl, ?_⟩) | ((with_reducible refine gate_callee (f := 8) rfl ?_); refine goesL_ (some 38) rfl rfl Try.func8 (by kernel_rfl) rfl #[.string (⟨#[42]⟩ : ByteArray), .int .i32 a0, .int .i32 (-1)] rfl (by (try simp only [List.map_toArray, List.map_cons, List.map_nil]); first | done | rfl | (simp only [List.length_drop, List.length_take]; rfl)) ?_; (with_reducible refine (word32_Do.calls (⟨#[42]⟩ : ByteArray) a0 (-1) t185 t186 _ A6.out).mono ?_); rintro e w' ⟨rfl, ⟨nd, rfl⟩⟩; refine ⟨_, rfl, ?_⟩) | ((with_reducible refine gate_callee (f := 10) rfl ?_); refine goesL_ (some 44) rfl rfl Try.func10 (by kernel_rfl) rfl #[.string (⟨#[60]⟩ : ByteArray), .int .i32 a0, .int .i32 t181] rfl (by (try simp only [List.map_toArray, List.map_cons, List.map_nil]); first | done | rfl | (simp only [List.length_drop, List.length_take]; rfl)) ?_; (with_reducible refine (word32_Less.calls (⟨#[60]⟩ : ByteArray) a0 t181 t187 t188 _ A7.out).mono ?_); rintro e w' ⟨rfl, ⟨nd, rfl⟩⟩; refine ⟨_, rfl, ?_⟩) | ((with_reducible refine gate_callee (f := 7) rfl ?_); refine goesL_ (some 47) rfl rfl Try.func7 (by kernel_rfl) rfl #[] rfl (by (try simp only [List.map_toArray, List.map_cons, List.map_nil]); first | done | rfl | (simp only [List.length_drop, List.length_take]; rfl)) ?_; (with_reducible refine (changelinglaw13_told.calls k  true _ A8.out).mono ?_); rintro e w32 ⟨rfl, hb⟩; refine ⟨_, rfl, ?_⟩; have n0_ := Aside0.mk (below_step (by repeat (first | (with_reducible first | exact HB.out | apply below_alloc | apply pw_below_drewN | apply below_drew1) | exact HB.out)) hb); clear HB; have HB := n0_; clear n0_; (try clear hb); (try clear hb2); (try clear hk); (try clear hi)))
      go_ret
      exact ⟨by first | rfl | (simp [errW_none, errW_some] <;> rfl) | (simp [*, errW_none, errW_some] <;> rfl), by repeat (first | (with_reducible first | exact HB.out | apply below_alloc | apply pw_below_drewN | apply below_drew1) | exact HB.out)⟩
  · replace c9 := Bool.eq_false_iff.mpr c9
    subst c9
    have H1 : (some false) = some r := by rw [if_neg (show ¬ (false = true) by decide)] at H; exact H
    clear H
    have H := H1
    clear H1
    obtain rfl := Option.some.inj H
    go_enter Try.func6, Try.ntmps6
    go_wp2_with (first | ((with_reducible refine gate_callee (f := 8) rfl ?_); refine goesL_ (some 18) rfl rfl Try.func8 (by kernel_rfl) rfl #[.string (⟨#[43]⟩ : ByteArray), .int .i32 a0, .int .i32 a0] rfl (by (try simp only [List.map_toArray, List.map_cons, List.map_nil]); first | done | rfl | (simp only [List.length_drop, List.length_take]; rfl)) ?_; (with_reducible refine (word32_Do.calls (⟨#[43]⟩ : ByteArray) a0 a0 t177 t178 _ A2.out).mono ?_); rintro e w' ⟨rfl, ⟨nd, rfl⟩⟩; refine ⟨_, rfl, ?_⟩) | ((with_reducible refine gate_callee (f := 8) rfl ?_); refine goesL_ (some 23) rfl rfl Try.func8 (by kernel_rfl) rfl #[.string (⟨#[42]⟩ : ByteArray), .int .i32 a0, .int .i32 2] rfl (by (try simp only [List.map_toArray, List.map_cons, List.map_nil]); first | done | rfl | (simp only [List.length_drop, List.length_take]; rfl)) ?_; (with_reducible refine (word32_Do.calls (⟨#[42]⟩ : ByteArray) a0 2 t179 t180 _ A3.out).mono ?_); rintro e w' ⟨rfl, ⟨nd, rfl⟩⟩; refine ⟨_, rfl, ?_⟩) | ((with_reducible refine gate_callee (f := 8) rfl ?_); refine goesL_ (some 28) rfl rfl Try.func8 (by kernel_rfl) rfl #[.string (⟨#[43]⟩ : ByteArray), .int .i32 a0, .int .i32 1] rfl (by (try simp only [List.map_toArray, List.map_cons, List.map_nil]); first | done | rfl | (simp only [List.length_drop, List.length_take]; rfl)) ?_; (with_reducible refine (word32_Do.calls (⟨#[43]⟩ : ByteArray) a0 1 t181 t182 _ A4.out).mono ?_); rintro e w' ⟨rfl, ⟨nd, rfl⟩⟩; refine ⟨_, rfl, ?_⟩) | ((with_reducible refine gate_callee (f := 8) rfl ?_); refine goesL_ (some 33) rfl rfl Try.func8 (by kernel_rfl) rfl #[.string (⟨#[45]⟩ : ByteArray), .int .i32 t181, .int .i32 1] rfl (by (try simp only [List.map_toArray, List.map_cons, List.map_nil]); first | done | rfl | (simp only [List.length_drop, List.length_take]; rfl)) ?_; (with_reducible refine (word32_Do.calls (⟨#[45]⟩ : ByteArray) t181 1 t183 t184 _ A5.out).mono ?_); rintro e w' ⟨rfl, ⟨nd, rfl⟩⟩; refine ⟨_, rfl, ?_⟩) | ((with_reducible refine gate_callee (f := 8) rfl ?_); refine goesL_ (some 38) rfl rfl Try.func8 (by kernel_rfl) rfl #[.string (⟨#[42]⟩ : ByteArray), .int .i32 a0, .int .i32 (-1)] rfl (by (try simp only [List.map_toArray, List.map_cons, List.map_nil]); first | done | rfl | (simp only [List.length_drop, List.length_take]; rfl)) ?_; (with_reducible refine (word32_Do.calls (⟨#[42]⟩ : ByteArray) a0 (-1) t185 t186 _ A6.out).mono ?_); rintro e w' ⟨rfl, ⟨nd, rfl⟩⟩; refine ⟨_, rfl, ?_⟩) | ((with_reducible refine gate_callee (f := 10) rfl ?_); refine goesL_ (some 44) rfl rfl Try.func10 (by kernel_rfl) rfl #[.string (⟨#[60]⟩ : ByteArray), .int .i32 a0, .int .i32 t181] rfl (by (try simp only [List.map_toArray, List.map_cons, List.map_nil]); first | done | rfl | (simp only [List.length_drop, List.length_take]; rfl)) ?_; (with_reducible refine (word32_Less.calls (⟨#[60]⟩ : ByteArray) a0 t181 t187 t188 _ A7.out).mono ?_); rintro e w' ⟨rfl, ⟨nd, rfl⟩⟩; refine ⟨_, rfl, ?_⟩) | ((with_reducible refine gate_callee (f := 7) rfl ?_); refine goesL_ (some 47) rfl rfl Try.func7 (by kernel_rfl) rfl #[] rfl (by (try simp only [List.map_toArray, List.map_cons, List.map_nil]); first | done | rfl | (simp only [List.length_drop, List.length_take]; rfl)) ?_; (with_reducible refine (changelinglaw13_told.calls k  false _ A8.out).mono ?_); rintro e w33 ⟨rfl, hb⟩; refine ⟨_, rfl, ?_⟩; have n0_ := Aside0.mk (below_step (by repeat (first | (with_reducible first | exact HB.out | apply below_alloc | apply pw_below_drewN | apply below_drew1) | exact HB.out)) hb); clear HB; have HB := n0_; clear n0_; (try clear hb); (try clear hb2); (try clear hk); (try clear hi)))
    go_ret
    exact ⟨by first | rfl | (simp [errW_none, errW_some] <;> rfl) | (simp [*, errW_none, errW_some] <;> rfl), by repeat (first | (with_reducible first | exact HB.out | apply below_alloc | apply pw_below_drewN | apply below_drew1) | exact HB.out)⟩

/-- THE ONE PURE STATEMENT of changelinglaw13_Word32Wraps: yours. -/
def changelinglaw13_Word32Wraps.Pure : Prop := ∀ (a0 : Int), (Lit.int .i32 a0).wf = true → ∃ k, changelinglaw13_Word32Wraps.f k a0 = some true
theorem changelinglaw13_Word32Wraps.walk (P : changelinglaw13_Word32Wraps.Pure) (a0 : Int) (w : World) (w0 : (Lit.int .i32 a0).wf = true) :
    Calls Try.prog 6 #[.int .i32 a0] w fun e w' => e = .returned (.bool true) ∧ Below w.heap.size w w' := by
  obtain ⟨k, h⟩ := P a0 w0
  refine (changelinglaw13_Word32Wraps.calls k a0 true w h).mono ?_
  rintro e w' ⟨rfl, hd⟩
  exact ⟨rfl, hd⟩

end Go.Proofs.Ythfkagkbggpjbaa.Q
