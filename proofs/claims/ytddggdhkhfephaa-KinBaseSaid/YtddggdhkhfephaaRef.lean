-- Written by a program of this session (wip/tool/mp.py), out of the translation; Lean checks it.
import Derived.Test.YtddggdhkhfephaaQx0
import Derived.Test.YtddggdhkhfephaaQx1
import Derived.Test.YtddggdhkhfephaaQx2
import Derived.Test.YtddggdhkhfephaaQx3
import Derived.Test.YtddggdhkhfephaaCheck
namespace Go.Proofs.Ytddggdhkhfephaa.Q
open Go.RowKit Go.Proofs.YtddggdhkhfephaaW.PrintWords Go.Proofs.YtddggdhkhfephaaW.PrintLast Go.Proofs.YtddggdhkhfephaaW.PrintMore
attribute [local go_sem] max2_int min2_int max_two min_two max_three min_three max_four min_four   -- for this text's walks alone
set_option linter.unusedVariables false
set_option linter.unnecessarySimpa false
set_option linter.unusedSimpArgs false

/-! ### changelingref1_In: function 31 -/
def changelingref1_In.l0 : Nat → List ByteArray → ByteArray → Int → Option (Bool)
  | 0, _, _, _ => none
  | k + 1, x0, x1, x5 => if x5 < (x0.length : Int) then (if 0 ≤ x5 then (if (rdOf ByteArray.empty x0 x5).toList = x1.toList then (some true) else (changelingref1_In.l0 k x0 x1 (wrap64 (x5 + 1)))) else (none)) else (some false)
def changelingref1_In.f (k : Nat) (l0 : List ByteArray) (a1 : ByteArray) : Option (Bool) := changelingref1_In.l0 k l0 a1 0
theorem changelingref1_In.mono_l : ∀ k, (∀ y0 y1 y2, LeO (changelingref1_In.l0 k y0 y1 y2) (changelingref1_In.l0 (k + 1) y0 y1 y2))
  | 0 => fun _ _ _ r h => by simp [changelingref1_In.l0] at h
  | k + 1 => by
    have ih0 := changelingref1_In.mono_l k
    · intro y0 y1 y2
      unfold changelingref1_In.l0
      repeat' first
      | (with_reducible exact ih0 _ _ _)
      | (with_reducible exact LeO.refl _)
      | (with_reducible exact LeO.none _)
      | (with_reducible refine LeO.ite ?_ ?_)
      | (with_reducible refine LeO.bind ?_ (fun _ => ?_))
      | exact ih0 _ _ _
      | exact LeO.none _
      | refine LeO.ite ?_ ?_
      | refine LeO.bind ?_ (fun _ => ?_)
theorem changelingref1_In.mono : ∀ a0 a1 k, LeO (changelingref1_In.f k a0 a1) (changelingref1_In.f (k + 1) a0 a1) := by
  intro a0 a1 k
  have ih0 := changelingref1_In.mono_l k
  unfold changelingref1_In.f
  repeat' first
      | (with_reducible exact ih0 _ _ _)
      | (with_reducible exact LeO.refl _)
      | (with_reducible exact LeO.none _)
      | (with_reducible refine LeO.ite ?_ ?_)
      | (with_reducible refine LeO.bind ?_ (fun _ => ?_))
      | exact ih0 _ _ _
      | exact LeO.none _
      | refine LeO.ite ?_ ?_
      | refine LeO.bind ?_ (fun _ => ?_)
set_option maxHeartbeats 8000000 in
set_option maxRecDepth 100000 in
theorem changelingref1_In.calls (k : Nat) (A0 : Option Addr) (c0 : Nat) (l0 : List ByteArray) (a1 : ByteArray) (r : Bool) (w : World) (hr0 : Kd.C Kd.string w A0 l0.length l0) (hc0 : l0.length ≤ c0) (h : changelingref1_In.f k l0 a1 = some r) :
    Calls Try.prog 31 #[.slice A0 l0.length c0, .string a1] w fun e w' => e = .returned (.bool r) ∧ Drawn0 w w' := by
  have HR0 := Aside0.mk hr0
  have HC0 := Aside0.mk hc0
  clear hr0 hc0
  have H : (changelingref1_In.l0 k l0 a1 0) = some r := h
  clear h
  have H' := Aside0.mk H
  clear H
  go_enter Try.func31, Try.ntmps31
  go_wp2
  go_loopg [5] k (fun kq v5 w' => ∃ (x5_1 : Int), v5 = .int .i64 x5_1 ∧ Aside0 (changelingref1_In.l0 kq l0 a1 x5_1 = some r) ∧ Aside0 (kq ≤ k) ∧ Drawn0 w w')
  case atStart => exact ⟨(0), (by first | rfl | (simp; done) | (simp [*]; done)), H', ⟨Nat.le_refl _⟩, by repeat (first | exact Drawn0.refl _ | apply Drawn0.step)⟩
  case round =>
    clear H'
    try clear p2
    obtain ⟨x5_1, rfl, HA, HK1, ⟨m1, rfl⟩⟩ := hrel
    cases gk with
    | zero => exact absurd HA.out (by simp [changelingref1_In.l0])
    | succ k1 =>
      have H := HA.out
      clear HA
      simp only [changelingref1_In.l0] at H
      by_cases c3 : x5_1 < (l0.length : Int)
      · rw [if_pos c3] at H
        have c3b0 : decide (x5_1 < (l0.length : Int)) = true := decide_eq_true c3
        clear c3
        by_cases c4 : 0 ≤ x5_1
        · rw [if_pos c4] at H
          have c4b0 : decide (0 ≤ x5_1) = true := decide_eq_true c4
          clear c4
          by_cases c5 : (rdOf ByteArray.empty l0 x5_1).toList = a1.toList
          · rw [if_pos c5] at H
            have c5b0 : ((rdOf ByteArray.empty l0 x5_1).toList == a1.toList) = true := beq_iff_eq.mpr c5
            have c5b1 : ((rdOf ByteArray.empty l0 x5_1).toList != a1.toList) = false := bne_eq_false_iff_eq.mpr c5
            clear c5
            obtain rfl := Option.some.inj H
            have p235 : 0 ≤ (x5_1 : Int) := of_decide_eq_true (by first | (with_reducible assumption) | assumption)
            have q235 : x5_1 < (l0.length : Int) := of_decide_eq_true (by first | (with_reducible assumption) | assumption)
            obtain ⟨ad235, e235, hx235_0⟩ := Kd.at_string HR0.out x5_1 p235 q235
            cases e235
            replace p235 := eq_true p235
            replace q235 := eq_true q235
            go_wp2
            go_ret
            exact ⟨by first | rfl | (simp; done) | (simp [*]; done), by repeat (first | exact Drawn0.refl _ | apply Drawn0.step)⟩
          · rw [if_neg c5] at H
            have c5b0 : ((rdOf ByteArray.empty l0 x5_1).toList == a1.toList) = false := beq_eq_false_iff_ne.mpr c5
            have c5b1 : ((rdOf ByteArray.empty l0 x5_1).toList != a1.toList) = true := bne_iff_ne.mpr c5
            have H' := Aside0.mk H
            clear H
            have p235 : 0 ≤ (x5_1 : Int) := of_decide_eq_true (by first | (with_reducible assumption) | assumption)
            have q235 : x5_1 < (l0.length : Int) := of_decide_eq_true (by first | (with_reducible assumption) | assumption)
            obtain ⟨ad235, e235, hx235_0⟩ := Kd.at_string HR0.out x5_1 p235 q235
            cases e235
            replace p235 := eq_true p235
            replace q235 := eq_true q235
            go_wp2
            go_roundg k1
            case measure => have := HK1.out; omega
            case rel => exact ⟨(wrap64 (x5_1 + 1)), (by first | rfl | (simp; done) | (simp [*]; done)), H', ⟨by have := HK1.out; omega⟩, by repeat (first | exact Drawn0.refl _ | apply Drawn0.step)⟩
        · rw [if_neg c4] at H
          exact absurd H (by simp)
      · rw [if_neg c3] at H
        have c3b0 : decide (x5_1 < (l0.length : Int)) = false := decide_eq_false c3
        clear c3
        obtain rfl := Option.some.inj H
        go_wp2
        go_ret
        exact ⟨by first | rfl | (simp; done) | (simp [*]; done), by repeat (first | exact Drawn0.refl _ | apply Drawn0.step)⟩

/-! ### changelingref6_Base: function 26 -/
def changelingref6_Base.f (k : Nat) (a0 : ByteArray) : Option (Bool) := (changelingref1_In.f k (([(⟨#[69, 120, 99, 101, 112, 116, 105, 111, 110]⟩ : ByteArray), (⟨#[78, 117, 108, 108, 70, 97, 117, 108, 116]⟩ : ByteArray), (⟨#[67, 97, 115, 116, 70, 97, 117, 108, 116]⟩ : ByteArray), (⟨#[90, 101, 114, 111, 70, 97, 117, 108, 116]⟩ : ByteArray), (⟨#[82, 97, 110, 103, 101, 70, 97, 117, 108, 116]⟩ : ByteArray)] : List ByteArray)) a0).bind fun t239 => (some t239)
theorem changelingref6_Base.mono : ∀ a0 k, LeO (changelingref6_Base.f k a0) (changelingref6_Base.f (k + 1) a0) := by
  intro a0 k
  unfold changelingref6_Base.f
  repeat' first
      | (with_reducible exact changelingref1_In.mono _ _ _)
      | (with_reducible exact LeO.refl _)
      | (with_reducible exact LeO.none _)
      | (with_reducible refine LeO.ite ?_ ?_)
      | (with_reducible refine LeO.bind ?_ (fun _ => ?_))
      | exact changelingref1_In.mono _ _ _
      | exact LeO.none _
      | refine LeO.ite ?_ ?_
      | refine LeO.bind ?_ (fun _ => ?_)
set_option maxHeartbeats 8000000 in
set_option maxRecDepth 100000 in
theorem changelingref6_Base.calls (k : Nat) (a0 : ByteArray) (r : Bool) (w : World) (h : changelingref6_Base.f k a0 = some r) :
    Calls Try.prog 26 #[.string a0] w fun e w' => e = .returned (.bool r) ∧ Below w.heap.size w w' := by
  have HB := Aside0.mk (Below.refl w.heap.size w)
  have H : ((changelingref1_In.f k (([(⟨#[69, 120, 99, 101, 112, 116, 105, 111, 110]⟩ : ByteArray), (⟨#[78, 117, 108, 108, 70, 97, 117, 108, 116]⟩ : ByteArray), (⟨#[67, 97, 115, 116, 70, 97, 117, 108, 116]⟩ : ByteArray), (⟨#[90, 101, 114, 111, 70, 97, 117, 108, 116]⟩ : ByteArray), (⟨#[82, 97, 110, 103, 101, 70, 97, 117, 108, 116]⟩ : ByteArray)] : List ByteArray)) a0).bind fun t239 => (some t239)) = some r := h
  clear h
  obtain ⟨y236, hy236⟩ : ∃ y_ : List ByteArray, y_ = (([(⟨#[69, 120, 99, 101, 112, 116, 105, 111, 110]⟩ : ByteArray), (⟨#[78, 117, 108, 108, 70, 97, 117, 108, 116]⟩ : ByteArray), (⟨#[67, 97, 115, 116, 70, 97, 117, 108, 116]⟩ : ByteArray), (⟨#[90, 101, 114, 111, 70, 97, 117, 108, 116]⟩ : ByteArray), (⟨#[82, 97, 110, 103, 101, 70, 97, 117, 108, 116]⟩ : ByteArray)] : List ByteArray)) := ⟨_, rfl⟩
  replace H : ((changelingref1_In.f k y236 a0).bind fun t239 => (some t239)) = some r := by first | (rw [hy236]; with_reducible exact H) | (have H2_ := (Option.bind_some _ _).symm.trans H; rw [hy236]; with_reducible exact H2_) | (have H2_ := (Option.bind_some _ _).symm.trans H; with_reducible exact H2_) | with_reducible exact H | (rw [hy236]; exact H) | exact H
  have Ny236 := Aside0.mk hy236
  clear hy236
  replace H := Option.bind_eq_some_iff.mp H
  obtain ⟨t239, A20, H⟩ := H
  replace H : (some t239) = some r := H
  have A2 := Aside0.mk A20
  clear A20
  obtain rfl := Option.some.inj H
  go_enter Try.func26, Try.ntmps26
  go_wp2_with (first | ((with_reducible refine gate_dst (N := 3) rfl ?_); refine Kd.R_lit Kd.string _ 9 ?hg (N := 3) ?hd (xs := ([(⟨#[69, 120, 99, 101, 112, 116, 105, 111, 110]⟩ : ByteArray), (⟨#[78, 117, 108, 108, 70, 97, 117, 108, 116]⟩ : ByteArray), (⟨#[67, 97, 115, 116, 70, 97, 117, 108, 116]⟩ : ByteArray), (⟨#[90, 101, 114, 111, 70, 97, 117, 108, 116]⟩ : ByteArray), (⟨#[82, 97, 110, 103, 101, 70, 97, 117, 108, 116]⟩ : ByteArray)] : List ByteArray)) (inner := [.string (⟨#[69, 120, 99, 101, 112, 116, 105, 111, 110]⟩ : ByteArray), .string (⟨#[78, 117, 108, 108, 70, 97, 117, 108, 116]⟩ : ByteArray), .string (⟨#[67, 97, 115, 116, 70, 97, 117, 108, 116]⟩ : ByteArray), .string (⟨#[90, 101, 114, 111, 70, 97, 117, 108, 116]⟩ : ByteArray), .string (⟨#[82, 97, 110, 103, 101, 70, 97, 117, 108, 116]⟩ : ByteArray)]) (ok := fun _ => True) (okp := fun _ => True) ?hr ?hp (fun _ hk => hk) trivial (Below.refl _ _) (Nat.le_refl _) (by simp) ?_; (case hd => rfl); (case hg => rfl); (case hr => first | (go_simp; done) | (go_simp; rfl)); (case hp => exact (Reps.one (show Kd.M Kd.string _ _ _ (⟨#[69, 120, 99, 101, 112, 116, 105, 111, 110]⟩ : ByteArray) [.string (⟨#[69, 120, 99, 101, 112, 116, 105, 111, 110]⟩ : ByteArray)] from rfl) (Reps.one (show Kd.M Kd.string _ _ _ (⟨#[78, 117, 108, 108, 70, 97, 117, 108, 116]⟩ : ByteArray) [.string (⟨#[78, 117, 108, 108, 70, 97, 117, 108, 116]⟩ : ByteArray)] from rfl) (Reps.one (show Kd.M Kd.string _ _ _ (⟨#[67, 97, 115, 116, 70, 97, 117, 108, 116]⟩ : ByteArray) [.string (⟨#[67, 97, 115, 116, 70, 97, 117, 108, 116]⟩ : ByteArray)] from rfl) (Reps.one (show Kd.M Kd.string _ _ _ (⟨#[90, 101, 114, 111, 70, 97, 117, 108, 116]⟩ : ByteArray) [.string (⟨#[90, 101, 114, 111, 70, 97, 117, 108, 116]⟩ : ByteArray)] from rfl) (Reps.one (show Kd.M Kd.string _ _ _ (⟨#[82, 97, 110, 103, 101, 70, 97, 117, 108, 116]⟩ : ByteArray) [.string (⟨#[82, 97, 110, 103, 101, 70, 97, 117, 108, 116]⟩ : ByteArray)] from rfl) (Reps.none _ _))))))); intro v237 w3 ho4 hb hg_ hnew_; clear hg_ hnew_; (first | rw [← Ny236.out] at ho4 | (simp only [Int.reduceToNat] at ho4; rw [← Ny236.out] at ho4)); have n0_ := Aside0.mk (Kd.R_lower ho4 (below_size (by repeat (first | (with_reducible first | exact HB.out | apply below_alloc | apply pw_below_drewN | apply below_drew1) | exact HB.out)))); have n1_ := Aside0.mk (below_step (by repeat (first | (with_reducible first | exact HB.out | apply below_alloc | apply pw_below_drewN | apply below_drew1) | exact HB.out)) hb); clear HB; have HO238 := n0_; have HB := n1_; clear n0_ n1_; clear hb ho4; obtain ⟨Ao5, co5, eo5⟩ := Kd.R_slice HO238.out; subst eo5) | ((with_reducible refine gate_callee (f := 31) rfl ?_); refine goesL_ (some 5) rfl rfl Try.func31 (by kernel_rfl) rfl #[.slice Ao5 y236.length co5, .string a0] rfl (by (try simp only [List.map_toArray, List.map_cons, List.map_nil]); first | done | rfl | (simp only [List.length_drop, List.length_take]; rfl)) ?_; (with_reducible refine (changelingref1_In.calls k _ _ y236 a0 t239 _ ?side1 ?side2 A2.out).mono ?_); (case side1 => repeat (first | exact (Kd.R_reads' HO238.out).2.2 | (with_reducible refine Kd.C_alloc ?_ _) | (with_reducible refine Kd.C_drewN ?_ _) | (with_reducible refine Kd.C_drew ?_))); (case side2 => exact (Kd.R_reads' HO238.out).2.1); rintro e w' ⟨rfl, ⟨nd, rfl⟩⟩; refine ⟨_, rfl, ?_⟩))
  go_ret
  exact ⟨by first | rfl | (simp [errW_none, errW_some] <;> rfl) | (simp [*, errW_none, errW_some] <;> rfl), by repeat (first | (with_reducible first | exact HB.out | apply below_alloc | apply pw_below_drewN | apply below_drew1) | exact HB.out)⟩

end Go.Proofs.Ytddggdhkhfephaa.Q
