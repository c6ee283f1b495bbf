/- Word32Laws: for any two int32s the call returns true: what is added is taken away again, a whole is its quotient times the divisor and the rest, less is the other way round not at most. No condition. -/
import Derived.Test.YthfkagkbggpjbaaQx3
import Derived.Test.YthfkagkbggpjbaaDos
namespace Go.Proofs.Ythfkagkbggpjbaa.Pure
open Go.RowKit Go.Proofs.Ythfkagkbggpjbaa.Q Go.Proofs.YthfkagkbggpjbaaW.PrintWords Go.Proofs.YthfkagkbggpjbaaW.PrintLast

theorem laws_j1 (a b : Int) (ha : -2147483648 ≤ a ∧ a ≤ 2147483647) : Ev (fun k => changelinglaw13_Word32Laws.j1 k a b false) true := by
  by_cases h : b = 0
  · refine Ev.step (f := fun k => (changelinglaw13_told.f k).bind fun t169 => (if t169 = true then (some true) else (some false))) (fun k => ?_) ?_
    · simp only [changelinglaw13_Word32Laws.j1, do_quo, do_rem, if_pos h, Option.bind_some]
      rfl
    · exact Ev.bind (f := fun _ t169 => (if t169 = true then (some true) else (some false))) told_ev (Ev.now _)
  · refine Ev.step (f := fun k => (changelinglaw13_told.f k).bind fun t174 => (if t174 = true then (some true) else (some false))) (fun k => ?_) ?_
    · simp only [changelinglaw13_Word32Laws.j1, do_quo, do_rem, do_mul, do_add, if_neg h, Option.bind_some, whole_back a b ha, if_true]
      rcases rest_sign a b with h1 | h1
      · simp [h1]
      · simp only [h1]; first | (split <;> rfl) | simp
    · exact Ev.bind (f := fun _ t169 => (if t169 = true then (some true) else (some false))) told_ev (Ev.now _)

theorem Word32Laws : changelinglaw13_Word32Laws.Pure := by
  intro a b ha hb
  have ha := i32_bd ha
  have hb := i32_bd hb
  refine Ev.rounds (Ev.congr (f := fun k => changelinglaw13_Word32Laws.j0 k a b false) (fun k => ?_) (Ev.step (f := fun k => changelinglaw13_Word32Laws.j1 k a b false) (fun k => ?_) (laws_j1 a b ha)))
  · unfold changelinglaw13_Word32Laws.f word32_Neg.f
    simp only [do_add, do_sub, Option.bind_some, if_true]
    rw [if_pos (by unfold wrap32; omega), show wrap32 (a + wrap32 (-b)) = wrap32 (a - b) by unfold wrap32; omega]
    simp
  · simp only [changelinglaw13_Word32Laws.j0, less_lt, less_le, less_eq, Option.bind_some]
    have e : (decide (a < b) == decide (b ≤ a)) = false := by
      by_cases h : a < b
      · rw [decide_eq_true h, decide_eq_false (by omega)]; rfl
      · rw [decide_eq_false h, decide_eq_true (by omega)]; rfl
    simp [e]
end Go.Proofs.Ythfkagkbggpjbaa.Pure
