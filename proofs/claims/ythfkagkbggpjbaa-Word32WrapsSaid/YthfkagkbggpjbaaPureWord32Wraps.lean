/- Word32Wraps: for any int32 the call returns true: numbers go round. No condition. -/
import Derived.Test.YthfkagkbggpjbaaQx3
import Derived.Test.YthfkagkbggpjbaaDos
namespace Go.Proofs.Ythfkagkbggpjbaa.Pure
open Go.RowKit Go.Proofs.Ythfkagkbggpjbaa.Q Go.Proofs.YthfkagkbggpjbaaW.PrintWords Go.Proofs.YthfkagkbggpjbaaW.PrintLast

theorem Word32Wraps : changelinglaw13_Word32Wraps.Pure := by
  intro a ha
  have ha := i32_bd ha
  refine Ev.rounds (Ev.congr (f := fun k => (changelinglaw13_told.f k).bind fun t => (if t = true then (some true) else (some false))) (fun k => ?_) ?_)
  · unfold changelinglaw13_Word32Wraps.f word32_Neg.f
    simp only [do_add, do_sub, do_mul, less_lt, Option.bind_some, if_true]
    rw [if_pos (show wrap32 (a + a) = wrap32 (a * 2) by unfold wrap32; omega), if_pos (show wrap32 (wrap32 (a + 1) - 1) = a by unfold wrap32; omega), if_pos (show wrap32 (a * -1) = wrap32 (-a) by unfold wrap32; omega)]
    rw [if_pos (show (decide (a < wrap32 (a + 1)) == (a != 2147483647)) = true by
      by_cases h : a = 2147483647
      · subst h; decide +kernel
      · rw [decide_eq_true (by unfold wrap32; omega), bne_iff_ne.mpr h]; rfl), show wrap32 (-wrap32 (-a)) = a by unfold wrap32; omega]
    simp
  · exact Ev.bind (f := fun _ t => (if t = true then (some true) else (some false))) told_ev (Ev.now _)
end Go.Proofs.Ythfkagkbggpjbaa.Pure
