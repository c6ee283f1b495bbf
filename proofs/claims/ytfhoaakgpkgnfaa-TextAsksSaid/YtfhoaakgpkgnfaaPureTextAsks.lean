import Derived.Test.YtfhoaakgpkgnfaaQx7
import Derived.Test.YtfhoaakgpkgnfaaPureTextJoins
import Derived.Test.YtfhoaakgpkgnfaaDigits
namespace Go.Proofs.Ytfhoaakgpkgnfaa.Pure
open Go.RowKit Go.Proofs.Ytfhoaakgpkgnfaa.Q Go.Proofs.YtfhoaakgpkgnfaaW.PrintWords Go.Proofs.YtfhoaakgpkgnfaaW.PrintLast

/-- A value as a text. -/
def ofZ (kind n : Int) (s : ByteArray) : ByteArray := if kind = 1 then textZ n else if kind = 2 then (if n = 1 then ⟨#[116, 114, 117, 101]⟩ else ⟨#[102, 97, 108, 115, 101]⟩) else if kind = 3 then s else ⟨#[]⟩
theorem of_ev (kind n : Int) (s : ByteArray) (h : -2147483648 ≤ n ∧ n ≤ 2147483647) : Ev (fun k => text_Of.f k kind n s) (ofZ kind n s) := by
  unfold text_Of.f ofZ
  by_cases h1 : kind = 1
  · simp only [if_pos h1]; exact Ev.bind (f := fun _ t => some t) (text_ev n h) (Ev.now _)
  · simp only [if_neg h1]; by_cases h2 : kind = 2
    · simp only [if_pos h2]; split <;> exact Ev.now _
    · simp only [if_neg h2]; split <;> exact Ev.now _
theorem refOf_ev (kind n : Int) (s : ByteArray) (h : -2147483648 ≤ n ∧ n ≤ 2147483647) : Ev (fun k => changelingref13_Of.f k kind n s) (ofZ kind n s) := by
  unfold changelingref13_Of.f ofZ
  by_cases h1 : kind = 1
  · simp only [if_pos h1]; exact Ev.bind (f := fun _ t => some t) (digits_ev n h) (Ev.now _)
  · simp only [if_neg h1]; by_cases h2 : kind = 2
    · simp only [if_pos h2]; split <;> exact Ev.now _
    · simp only [if_neg h2]; split <;> exact Ev.now _
theorem ofZ_size (kind n : Int) (s : ByteArray) (h : -2147483648 ≤ n ∧ n ≤ 2147483647) (hs : s.size ≤ 1200) : (ofZ kind n s).size ≤ 10000000000 := by
  unfold ofZ
  split
  · have := encode_le n.natAbs
    unfold textZ; split
    · rw [ByteArray.size_append, show (Utf8.encode 45).size = 1 by decide +kernel]; omega
    · omega
  · split
    · split <;> decide +kernel
    · split
      · omega
      · decide +kernel
def joinZ (s t : ByteArray) : Int × Int × ByteArray × Bool := if ((s ++ t).size : Int) > 1000 then (0, 0, ⟨#[]⟩, false) else (3, 0, s ++ t, true)
theorem join_ev (k1 n1 : Int) (s1 : ByteArray) (k2 n2 : Int) (s2 : ByteArray) (h1 : -2147483648 ≤ n1 ∧ n1 ≤ 2147483647) (h2 : -2147483648 ≤ n2 ∧ n2 ≤ 2147483647) (z1 : s1.size ≤ 1200) (z2 : s2.size ≤ 1200) :
    Ev (fun k => text_Join.f k k1 n1 s1 k2 n2 s2) (joinZ (ofZ k1 n1 s1) (ofZ k2 n2 s2)) := by
  have y1 := ofZ_size k1 n1 s1 h1 z1
  have y2 := ofZ_size k2 n2 s2 h2 z2
  unfold text_Join.f
  refine Ev.bind (f := fun k t119 => ((text_Of.f k k2 n2 s2).bind fun t120 => (if t119.size + t120.size ≤ 9223372036854775807 then (if ((t119 ++ t120).size : Int) > 1000 then (some (0, 0, (⟨#[]⟩ : ByteArray), false)) else (some (3, 0, t119 ++ t120, true))) else (none)))) (of_ev k1 n1 s1 h1) ?_
  refine Ev.bind (f := fun k t120 => (if (ofZ k1 n1 s1).size + t120.size ≤ 9223372036854775807 then (if ((ofZ k1 n1 s1 ++ t120).size : Int) > 1000 then (some (0, 0, (⟨#[]⟩ : ByteArray), false)) else (some (3, 0, ofZ k1 n1 s1 ++ t120, true))) else (none))) (of_ev k2 n2 s2 h2) ?_
  refine Ev.congr (fun k => ?_) (Ev.now _)
  rw [if_pos (by omega)]; unfold joinZ; split <;> rfl
theorem refJoin_ev (k1 n1 : Int) (s1 : ByteArray) (k2 n2 : Int) (s2 : ByteArray) (h1 : -2147483648 ≤ n1 ∧ n1 ≤ 2147483647) (h2 : -2147483648 ≤ n2 ∧ n2 ≤ 2147483647) (z1 : s1.size ≤ 1200) (z2 : s2.size ≤ 1200) :
    Ev (fun k => changelingref13_Join.f k k1 n1 s1 k2 n2 s2) (joinZ (ofZ k1 n1 s1) (ofZ k2 n2 s2)) := by
  have y1 := ofZ_size k1 n1 s1 h1 z1
  have y2 := ofZ_size k2 n2 s2 h2 z2
  unfold changelingref13_Join.f
  refine Ev.bind (f := fun k t119 => ((changelingref13_Of.f k k2 n2 s2).bind fun t120 => (if t119.size + t120.size ≤ 9223372036854775807 then (if ((t119 ++ t120).size : Int) > 1000 then (some (0, 0, (⟨#[]⟩ : ByteArray), false)) else (some (3, 0, t119 ++ t120, true))) else (none)))) (refOf_ev k1 n1 s1 h1) ?_
  refine Ev.bind (f := fun k t120 => (if (ofZ k1 n1 s1).size + t120.size ≤ 9223372036854775807 then (if ((ofZ k1 n1 s1 ++ t120).size : Int) > 1000 then (some (0, 0, (⟨#[]⟩ : ByteArray), false)) else (some (3, 0, ofZ k1 n1 s1 ++ t120, true))) else (none))) (refOf_ev k2 n2 s2 h2) ?_
  refine Ev.congr (fun k => ?_) (Ev.now _)
  rw [if_pos (by omega)]; unfold joinZ; split <;> rfl
theorem same_both (k1 n1 : Int) (s1 : ByteArray) (k2 n2 : Int) (s2 : ByteArray) : ∃ b, text_Same.f k1 n1 s1 k2 n2 s2 = some b ∧ changelingref13_Same.f k1 n1 s1 k2 n2 s2 = some b := by
  unfold text_Same.f changelingref13_Same.f
  by_cases h1 : k1 = 3
  · subst h1
    by_cases h2 : k2 = 3
    · subst h2; simp
    · have h3 : ¬ 3 = k2 := fun h => h2 h.symm
      simp [h2, h3]
  · simp only [if_neg h1]; split <;> exact ⟨_, rfl, rfl⟩

theorem TextAsks_ev (k1 n1 : Int) (s1 : ByteArray) (k2 n2 : Int) (s2 : ByteArray) (x : Int) (h1 : -2147483648 ≤ n1 ∧ n1 ≤ 2147483647) (h2 : -2147483648 ≤ n2 ∧ n2 ≤ 2147483647) (hx : -2147483648 ≤ x ∧ x ≤ 2147483647) :
    Ev (fun k => changelinglaw14_TextAsks.f k k1 n1 s1 k2 n2 s2 x) true := by
  have T : Ev (fun k => changelinglaw14_TextAsks.j0 k x true k1 n1 s1 k2 n2 s2) true :=
    Ev.step (f := fun k => (changelinglaw14_told.f k).bind fun t => some t) (fun k => by simp only [changelinglaw14_TextAsks.j0]; rw [if_pos trivial]) (Ev.bind (f := fun _ t => some t) told_ev (Ev.now _))
  by_cases ha : (s1.size : Int) > 1200
  · exact Ev.congr (fun k => by unfold changelinglaw14_TextAsks.f; rw [if_pos ha]) T
  by_cases hb : (s2.size : Int) > 1200
  · exact Ev.congr (fun k => by unfold changelinglaw14_TextAsks.f; rw [if_neg ha, decide_eq_true hb]) T
  refine Ev.congr (f := fun k => changelinglaw14_TextAsks.j0 k x false k1 n1 s1 k2 n2 s2) (fun k => by unfold changelinglaw14_TextAsks.f; rw [if_neg ha, decide_eq_false hb]) ?_
  obtain ⟨K1, e1⟩ := join_ev k1 n1 s1 k2 n2 s2 h1 h2 (by omega) (by omega)
  obtain ⟨K2, e2⟩ := refJoin_ev k1 n1 s1 k2 n2 s2 h1 h2 (by omega) (by omega)
  obtain ⟨K3, e3⟩ := refAt_ev s1 x (by omega) _ 0 0 rfl (by omega) (by omega) (by omega)
  obtain ⟨K4, e4⟩ := told_ev
  obtain ⟨K5, e5⟩ := of_ev k1 n1 s1 h1
  obtain ⟨K6, e6⟩ := refOf_ev k1 n1 s1 h1
  obtain ⟨K7, e7⟩ := refLen_ev s1 (by omega) _ 0 0 rfl (by omega)
  obtain ⟨b, g1, g2⟩ := same_both k1 n1 s1 k2 n2 s2
  have e8 := at_small s1 x (by omega) hx.1 hx.2
  have e9 : text_Len.f s1 = some (lenL (runes s1) 0) := rfl
  refine ⟨K1 + K2 + K3 + K4 + K5 + K6 + K7 + 1, fun k hk => ?_⟩
  obtain ⟨m, rfl⟩ : ∃ m, k = m + 1 := ⟨k - 1, by omega⟩
  have e3' : changelingref13_At.f m s1 x = some (pick (runes s1) x) := by
    have := e3 m (by omega); simp only [Int.natCast_zero, Int.sub_zero, rest_zero] at this; exact this
  have e7' : changelingref13_Len.f m s1 = some (lenL (runes s1) 0) := by
    have := e7 m (by omega); simp only [Int.natCast_zero, rest_zero] at this; exact this
  have q1 := e1 m (by omega)
  have q2 := e2 m (by omega)
  have q4 := e4 m (by omega)
  have q5 := e5 m (by omega)
  have q6 := e6 m (by omega)
  simp only at q1 q2 q4 q5 q6
  simp only [changelinglaw14_TextAsks.j0]
  rw [if_neg (by decide)]
  simp [q1, q2, q4, q5, q6, e8, e3', e9, e7', g1, g2]
end Go.Proofs.Ytfhoaakgpkgnfaa.Pure
