import Derived.Test.YthfkagkbggpjbaaAsks
namespace Go.Proofs.Ythfkagkbggpjbaa.Pure
open Go.RowKit Go.Proofs.Ythfkagkbggpjbaa.Q Go.Proofs.YthfkagkbggpjbaaW.PrintWords Go.Proofs.YthfkagkbggpjbaaW.PrintLast

theorem do_add (a b : Int) : word32_Do.f (⟨#[43]⟩ : ByteArray) a b = some (wrap32 (a + b), true) := by
  unfold word32_Do.f; rw [if_pos (by decide +kernel)]
theorem do_sub (a b : Int) : word32_Do.f (⟨#[45]⟩ : ByteArray) a b = some (wrap32 (a - b), true) := by
  unfold word32_Do.f; rw [if_neg (by decide +kernel), if_pos (by decide +kernel)]
theorem do_mul (a b : Int) : word32_Do.f (⟨#[42]⟩ : ByteArray) a b = some (wrap32 (a * b), true) := by
  unfold word32_Do.f; rw [if_neg (by decide +kernel), if_neg (by decide +kernel), if_pos (by decide +kernel)]
theorem do_quo (a b : Int) : word32_Do.f (⟨#[47]⟩ : ByteArray) a b = if b = 0 then some (0, false) else some (wrap32 (Int.tdiv a b), true) := by
  unfold word32_Do.f; rw [if_neg (by decide +kernel), if_neg (by decide +kernel), if_neg (by decide +kernel), if_pos (by decide +kernel)]
theorem do_rem (a b : Int) : word32_Do.f (⟨#[37]⟩ : ByteArray) a b = if b = 0 then some (0, false) else some (Int.tmod a b, true) := by
  unfold word32_Do.f; rw [if_neg (by decide +kernel), if_neg (by decide +kernel), if_neg (by decide +kernel), if_neg (by decide +kernel), if_pos (by decide +kernel)]
theorem less_lt (a b : Int) : word32_Less.f (⟨#[60]⟩ : ByteArray) a b = some (decide (a < b), true) := by
  unfold word32_Less.f; rw [if_pos (by decide +kernel)]
theorem less_le (a b : Int) : word32_Less.f (⟨#[60, 61]⟩ : ByteArray) a b = some (decide (a ≤ b), true) := by
  unfold word32_Less.f; rw [if_neg (by decide +kernel), if_pos (by decide +kernel)]
theorem less_eq (a b : Int) : word32_Less.f (⟨#[61, 61]⟩ : ByteArray) a b = some ((a == b), true) := by
  unfold word32_Less.f; rw [if_neg (by decide +kernel), if_neg (by decide +kernel), if_pos (by decide +kernel)]

theorem whole_back (a b : Int) (ha : -2147483648 ≤ a ∧ a ≤ 2147483647) : wrap32 (wrap32 (wrap32 (Int.tdiv a b) * b) + Int.tmod a b) = a := by
  have h := Int.mul_tdiv_add_tmod a b
  obtain ⟨c, hc⟩ : ∃ c, wrap32 (Int.tdiv a b) = Int.tdiv a b - 4294967296 * c := ⟨(Int.tdiv a b + 2147483648) / 4294967296, by unfold wrap32; omega⟩
  rw [hc, Int.sub_mul, Int.mul_assoc, Int.mul_comm (Int.tdiv a b) b]
  generalize b * Int.tdiv a b = p at h
  generalize c * b = d
  unfold wrap32; omega

theorem rest_sign (a b : Int) : Int.tmod a b = 0 ∨ (decide (Int.tmod a b < 0) == decide (a < 0)) = true := by
  by_cases h : a < 0
  · have h1 : Int.tmod (-a) b = - Int.tmod a b := Int.neg_tmod a b
    have h2 : 0 ≤ Int.tmod (-a) b := Int.tmod_nonneg _ (by omega)
    by_cases h3 : Int.tmod a b = 0
    · exact .inl h3
    · exact .inr (by rw [decide_eq_true (by omega), decide_eq_true h]; rfl)
  · have h2 : 0 ≤ Int.tmod a b := Int.tmod_nonneg _ (by omega)
    exact .inr (by rw [decide_eq_false (by omega), decide_eq_false h]; rfl)
end Go.Proofs.Ythfkagkbggpjbaa.Pure
