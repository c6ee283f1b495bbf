/- FlowRows, in plain Lean and walked: of few rows Passes tells what the statement says, and so it answers true. Conditions: both read as rows of statements. -/
import Derived.Test.YtigfdkchblhkdaaFew
import Derived.Test.YtigfdkchblhkdaaRowsWalk
namespace Go.Proofs.Ytigfdkchblhkdaa.Pure
open Go Go.RowKit Go.Proofs.Ytigfdkchblhkdaa Go.Proofs.Ytigfdkchblhkdaa.Q Go.Proofs.YtigfdkchblhkdaaW.PrintWords Go.Proofs.YtigfdkchblhkdaaW.PrintLast

theorem all_append (p : S29 → Option Bool) (b : List S29) (y : Bool) (hy : allO p b = some y) : ∀ (a : List S29) (x : Bool), allO p a = some x → allO p (a ++ b) = some (x && y)
  | [], x, hx => by
    obtain rfl : true = x := Option.some.inj hx
    simpa using hy
  | s :: a, x, hx => by
    unfold allO at hx
    obtain ⟨q, hq, h2⟩ := Option.bind_eq_some_iff.mp hx
    rw [List.cons_append, allO, hq, Option.bind_some]
    cases q with
    | true =>
      rw [if_pos rfl] at h2 ⊢
      exact all_append p b y hy a x h2
    | false =>
      rw [if_neg (by decide)] at h2 ⊢
      obtain rfl := Option.some.inj h2
      rfl
theorem pass_step (k : Nat) (l : List S29) (hl : l.length ≤ 1000) : flow_Passes.f (k + 1) l = allO (stO (flow_Passes.f k)) l := by
  rw [flow_Passes.f, if_pos (by omega)]
theorem pass_one (k : Nat) (s : S29) (r : Bool) (h : stO (flow_Passes.f k) s = some r) : flow_Passes.f (k + 1) [s] = some r := by
  rw [pass_step k _ (by simp), allO, h, Option.bind_some]
  cases r <;> rfl
theorem few_rows (k : Nat) (A B : Option Addr) (ca cb : Nat) (a b : List S29) (w : World) (hA : k29.C w A a.length a) (hB : k29.C w B b.length b) (hca : a.length ≤ ca) (hcb : b.length ≤ cb) (la : a.length ≤ 400) (lb : b.length ≤ 400) (x y : Bool)
    (fa : changelinglaw3_FewStmts.f (k + 1) a = some true) (fb : changelinglaw3_FewStmts.f (k + 1) b = some true) (pa0 : flow_Passes.f k a = some x) (pb0 : flow_Passes.f k b = some y) (pa : flow_Passes.f (k + 1) a = some x) (pb : flow_Passes.f (k + 1) b = some y) :
    Calls Try.prog 3 #[.slice A a.length ca, .slice B b.length cb] w (RetB true w) := by
  refine rows_few (k + 1) A B ca cb a b x y w (Lib.hid hA) (Lib.hid hB) (Lib.hid hca) (Lib.hid hcb) (Lib.hid la) (Lib.hid lb) (Lib.hid fa) (Lib.hid fb) (Lib.hid pa) (Lib.hid pb) (Lib.hid ?_) (Lib.hid ?_) (Lib.hid ?_) (Lib.hid ?_)
  · rw [pass_step k _ (by omega)] at pa pb
    rw [pass_step k _ (by rw [List.length_append]; omega)]
    exact all_append _ b y pb a x pa
  · refine pass_one k _ _ ?_
    show eitherO (flow_Passes.f k a) (flow_Passes.f k b) = _
    unfold eitherO
    rw [pa0, Option.bind_some]
    cases x
    · rw [if_neg (by decide)]; exact pb0
    · rfl
  · exact pass_one k _ _ rfl
  · refine pass_one k _ _ ?_
    show ((eitherO (flow_Passes.f k a) (flow_Passes.f k a)).bind fun q => if q = true then flow_Passes.f k b else some false) = _
    unfold eitherO
    rw [pa0, Option.bind_some]
    cases x
    · rfl
    · rw [if_pos rfl, Option.bind_some, if_pos rfl]; exact pb0
theorem flow_rows (A B : Option Addr) (ca cb : Nat) (a b : List S29) (w : World) (hA : k29.C w A a.length a) (hB : k29.C w B b.length b) (hca : a.length ≤ ca) (hcb : b.length ≤ cb) :
    Calls Try.prog 3 #[.slice A a.length ca, .slice B b.length cb] w (RetB true w) := by
  obtain ⟨fa, ⟨K1, h1⟩, qa⟩ := few_ev a
  obtain ⟨fb, ⟨K2, h2⟩, qb⟩ := few_ev b
  by_cases hf : (fa && fb) = true
  · obtain ⟨rfl, rfl⟩ : fa = true ∧ fb = true := by simpa using hf
    obtain ⟨la, x, K3, h3⟩ := qa rfl
    obtain ⟨lb, y, K4, h4⟩ := qb rfl
    exact few_rows (K1 + K2 + K3 + K4) A B ca cb a b w hA hB hca hcb la lb x y (h1 _ (by omega)) (h2 _ (by omega)) (h3 _ (by omega)) (h4 _ (by omega)) (h3 _ (by omega)) (h4 _ (by omega))
  · exact rows_other (K1 + K2) A B ca cb a b fa fb w (Lib.hid hA) (Lib.hid hB) (Lib.hid hca) (Lib.hid hcb) (Lib.hid (h1 _ (by omega))) (Lib.hid (h2 _ (by omega))) (by simpa using hf)
end Go.Proofs.Ytigfdkchblhkdaa.Pure
