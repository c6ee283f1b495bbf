/- Word32Asks: for any two int32s, any text and any int the call returns true: Do, Less, Neg, Text of package word32 answer as the reference does. No condition. -/
import Derived.Test.YthfkagkbggpjbaaQx2
import Derived.Test.YthfkagkbggpjbaaAsks
namespace Go.Proofs.Ythfkagkbggpjbaa.Pure
open Go.RowKit Go.Proofs.Ythfkagkbggpjbaa.Q Go.Proofs.YthfkagkbggpjbaaW.PrintWords Go.Proofs.YthfkagkbggpjbaaW.PrintLast

theorem wrap_low (x : Int) : wrap32 (wrap64 x % 4294967296) = wrap32 x := by unfold wrap32 wrap64; omega
theorem tmod_bd (a b : Int) (h : -2147483648 ≤ b ∧ b ≤ 2147483647) (h0 : ¬ b = 0) : -2147483647 ≤ Int.tmod a b ∧ Int.tmod a b ≤ 2147483647 := by
  have h1 : (Int.tmod a b).natAbs = a.natAbs % b.natAbs := Int.natAbs_tmod a b
  have h2 : a.natAbs % b.natAbs < b.natAbs := Nat.mod_lt _ (by omega)
  omega
theorem wrap_rem (x : Int) (h : -2147483647 ≤ x ∧ x ≤ 2147483647) : wrap32 (x % 4294967296) = x := by unfold wrap32; omega

theorem do_same (op : ByteArray) (a b : Int) (ha : -2147483648 ≤ a ∧ a ≤ 2147483647) (hb : -2147483648 ≤ b ∧ b ≤ 2147483647) :
    ∃ x ok, word32_Do.f op a b = some (x, ok) ∧ changelingref13_Do.f op a b = some (x, ok) := by
  have e1 : wrap64 a = a := IntWalk.wrap64_in a (by omega)
  have e2 : wrap64 b = b := IntWalk.wrap64_in b (by omega)
  unfold word32_Do.f changelingref13_Do.f
  rw [e1, e2]
  simp only [wrap_low]
  by_cases h0 : b = 0
  · simp only [h0, if_true]
    repeat' split
    all_goals exact ⟨_, _, rfl, rfl⟩
  · simp only [h0, if_false, wrap_rem _ (tmod_bd a b hb h0)]
    repeat' split
    all_goals exact ⟨_, _, rfl, rfl⟩

theorem less_same (op : ByteArray) (a b : Int) : ∃ x ok, word32_Less.f op a b = some (x, ok) ∧ changelingref13_Less.f op a b = some (x, ok) := by
  unfold word32_Less.f changelingref13_Less.f
  repeat' split
  all_goals exact ⟨_, _, rfl, rfl⟩

theorem neg_same (a : Int) (ha : -2147483648 ≤ a ∧ a ≤ 2147483647) : changelingref13_Neg.f a = word32_Neg.f a := by
  unfold word32_Neg.f changelingref13_Neg.f
  rw [IntWalk.wrap64_in a (by omega), wrap_low]

theorem Word32Asks : changelinglaw13_Word32Asks.Pure := by
  intro a b op which ha hb hop hw
  have ha := i32_bd ha
  have hb := i32_bd hb
  by_cases h : (op.size : Int) > 20
  · refine Ev.rounds (Ev.congr (f := fun k => (changelinglaw13_told.f k).bind fun t132 => some t132) (fun k => ?_) (Ev.bind (f := fun _ t => some t) told_ev (Ev.now _)))
    unfold changelinglaw13_Word32Asks.f; rw [if_pos h]
  · unfold changelinglaw13_Word32Asks.f
    simp only [if_neg h, Option.bind_some, List.length_cons, List.length_nil]
    have hu : IntKind.u64.wrap (((0 + 1 + 1 + 1 + 1 + 1 + 1 + 1 + 1 + 1 + 1 : Nat)) : Int) = 10 := by decide +kernel
    have hu0 : 0 ≤ IntKind.u64.wrap which := by
      simp [IntKind.wrap, IntKind.signed, IntKind.bits]; omega
    rw [hu]
    generalize hm : Int.tmod (IntKind.u64.wrap which) 10 = m
    have m0 : 0 ≤ m := by rw [← hm]; exact Int.tmod_nonneg _ hu0
    have m1 : m < 10 := by rw [← hm]; exact Int.tmod_lt_of_pos _ (by omega)
    generalize rdOf ByteArray.empty _ m = o
    obtain ⟨x, ok, d1, d2⟩ := do_same o a b ha hb
    obtain ⟨y, is, l1, l2⟩ := less_same o a b
    obtain ⟨n, hn⟩ : ∃ n, word32_Neg.f a = some n := ⟨_, rfl⟩
    simp only [d1, d2, l1, l2, neg_same a ha, hn, Option.bind_some, if_neg (show ¬ (10 : Int) = 0 by decide), if_pos m0, if_pos (show m < ((0 + 1 + 1 + 1 + 1 + 1 + 1 + 1 + 1 + 1 + 1 : Nat) : Int) by omega), beq_self_eq_true, if_true]
    refine Ev.rounds (Ev.bind (f := fun k t145 => if t145 = true then (word32_Text.f k a).bind fun t148 => (changelingref13_Digits.f k a).bind fun t149 => some (t148.toList == t149.toList) else some false) told_ev ?_)
    refine Ev.congr (f := fun k => (word32_Text.f k a).bind fun t148 => (changelingref13_Digits.f k a).bind fun t149 => some (t148.toList == t149.toList)) (fun k => if_pos rfl) ?_
    refine Ev.bind (f := fun k t148 => (changelingref13_Digits.f k a).bind fun t149 => some (t148.toList == t149.toList)) (text_ev a ha) ?_
    refine Ev.bind (f := fun k t149 => some ((textZ a).toList == t149.toList)) (digits_ev a ha) ?_
    exact Ev.congr (fun k => by rw [beq_self_eq_true]) (Ev.now _)
end Go.Proofs.Ythfkagkbggpjbaa.Pure
