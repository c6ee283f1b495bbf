/- TextJoins: for any three texts the call returns true: texts that are joined are as long as both, in whichever way three are joined. No condition. -/
import Derived.Test.YtfhoaakgpkgnfaaQx8
import Derived.Test.YtfhoaakgpkgnfaaBad
namespace Go.Proofs.Ytfhoaakgpkgnfaa.Pure
open Go.RowKit Go.Proofs.Ytfhoaakgpkgnfaa.Q Go.Proofs.YtfhoaakgpkgnfaaW.PrintWords Go.Proofs.YtfhoaakgpkgnfaaW.PrintLast

theorem told_ev : Ev (fun k => changelinglaw14_told.f k) true := Ev.of (fun k => changelinglaw14_told.mono k) (k := 60) (by decide +kernel)
theorem join_text (k : Nat) (x y : ByteArray) (h : x.size + y.size ≤ 1000) : text_Join.f k 3 0 x 3 0 y = some (3, 0, x ++ y, true) := by
  have e : ∀ z : ByteArray, text_Of.f k 3 0 z = some z := fun z => by unfold text_Of.f; rw [if_neg (by decide), if_neg (by decide), if_pos rfl]
  unfold text_Join.f
  rw [e, e]; simp only [Option.bind_some]
  rw [if_pos (by omega), if_neg (by rw [ByteArray.size_append]; omega)]
theorem len_small (s : ByteArray) (h : s.size ≤ 100000) : text_Len.f s = some ((runes s).length : Int) := by
  unfold text_Len.f
  have := runes_len s
  rw [lenL_eq _ _ (by omega) (by omega)]; simp
theorem at_small (s : ByteArray) (k : Int) (h : s.size ≤ 100000) (h1 : -2147483648 ≤ k) (h2 : k ≤ 2147483647) : text_At.f s k = some (pick (runes s) k) := by
  unfold text_At.f
  have := runes_len s
  rw [atL_eq _ _ (by omega) h1 h2]

theorem joins_true (a b c : ByteArray) : Ev (fun k => changelinglaw14_TextJoins.j0 k a b c true) true :=
  Ev.step (f := fun k => (changelinglaw14_told.f k).bind fun t => some t) (fun k => by simp only [changelinglaw14_TextJoins.j0]; rw [if_pos trivial]) (Ev.bind (f := fun _ t => some t) told_ev (Ev.now _))

theorem joins_good (a b c : ByteArray) (ha : a.size ≤ 300) (hb : b.size ≤ 300) (hc : c.size ≤ 300) (ga : good a = true) (gb : good b = true) : Ev (fun k => changelinglaw14_TextJoins.j0 k a b c false) true := by
  refine Ev.step (f := fun k => (changelinglaw14_told.f k).bind fun t => if t = true then some true else none) (fun k => ?_) (Ev.bind (f := fun _ t => if t = true then some true else none) told_ev (Ev.now _))
  have s1 : (a ++ b).size = a.size + b.size := ByteArray.size_append
  have s2 : (b ++ c).size = b.size + c.size := ByteArray.size_append
  have s3 : (a ++ b ++ c).size = a.size + b.size + c.size := by rw [ByteArray.size_append, s1]
  simp only [changelinglaw14_TextJoins.j0]
  rw [if_neg (by decide), join_text k a b (by omega)]; simp only [Option.bind_some]
  rw [join_text k (a ++ b) c (by omega)]; simp only [Option.bind_some]
  rw [join_text k b c (by omega)]; simp only [Option.bind_some]
  rw [join_text k a (b ++ c) (by omega)]; simp only [Option.bind_some, if_true]
  have hsame : text_Same.f 3 0 (a ++ b ++ c) 3 0 (a ++ (b ++ c)) = some true := by
    unfold text_Same.f; rw [if_pos rfl, if_pos rfl, ByteArray.append_assoc]; simp
  rw [hsame]; simp only [Option.bind_some, if_true]
  rw [if_pos (by omega), if_pos (by omega), len_small _ (by omega), len_small a (by omega), len_small b (by omega), len_small c (by omega)]
  simp only [Option.bind_some]
  have l1 := runes_len a
  have l2 := runes_len b
  have l3 := runes_len c
  have e : runes (a ++ b ++ c) = runes a ++ (runes b ++ runes c) := by rw [ByteArray.append_assoc, runes_append a _ ga, runes_append b _ gb]
  rw [e]
  have e2 : (((runes a ++ (runes b ++ runes c)).length : Int) == wrap32 (wrap32 (((runes a).length : Int) + ((runes b).length : Int)) + ((runes c).length : Int))) = true := by
    rw [IntWalk.wrap32_in (((runes a).length : Int) + ((runes b).length : Int)) (by omega), IntWalk.wrap32_in _ (by omega), beq_iff_eq]; simp only [List.length_append]; omega
  rw [e2]

theorem TextJoins : changelinglaw14_TextJoins.Pure := by
  intro a b c _ _ _
  have T := joins_true a b c
  suffices h : Ev (fun k => changelinglaw14_TextJoins.f k a b c) true from h.rounds
  by_cases ha : (a.size : Int) > 300
  · exact Ev.congr (fun k => by unfold changelinglaw14_TextJoins.f; rw [if_pos ha]) T
  by_cases hb : (b.size : Int) > 300
  · exact Ev.congr (fun k => by unfold changelinglaw14_TextJoins.f; rw [if_neg ha, if_pos hb]) T
  by_cases hc : (c.size : Int) > 300
  · exact Ev.congr (fun k => by unfold changelinglaw14_TextJoins.f; rw [if_neg ha, if_neg hb, if_pos hc]) T
  obtain ⟨r1, e1, h1⟩ := badF_ev a (by omega)
  obtain ⟨r2, e2, h2⟩ := badF_ev b (by omega)
  obtain ⟨r3, e3, h3⟩ := badF_ev c (by omega)
  refine Ev.congr (fun k => by unfold changelinglaw14_TextJoins.f; rw [if_neg ha, if_neg hb, if_neg hc]) (Ev.bind (f := fun k t203 => (if t203 ≥ 0 then (changelinglaw14_TextJoins.j0 k a b c true) else ((changelingref1_Bad.f k b).bind fun t204 => (if t204 ≥ 0 then (changelinglaw14_TextJoins.j0 k a b c true) else ((changelingref1_Bad.f k c).bind fun t205 => (changelinglaw14_TextJoins.j0 k a b c (decide (t205 ≥ 0)))))))) e1 ?_)
  rcases h1 with h1 | ⟨h1, g1⟩
  · exact Ev.congr (fun k => if_pos h1) T
  refine Ev.congr (fun k => if_neg (by omega)) (Ev.bind (f := fun k t204 => (if t204 ≥ 0 then (changelinglaw14_TextJoins.j0 k a b c true) else ((changelingref1_Bad.f k c).bind fun t205 => (changelinglaw14_TextJoins.j0 k a b c (decide (t205 ≥ 0)))))) e2 ?_)
  rcases h2 with h2 | ⟨h2, g2⟩
  · exact Ev.congr (fun k => if_pos h2) T
  refine Ev.congr (fun k => if_neg (by omega)) (Ev.bind (f := fun k t205 => (changelinglaw14_TextJoins.j0 k a b c (decide (t205 ≥ 0)))) e3 ?_)
  rcases h3 with h3 | ⟨h3, g3⟩
  · exact Ev.congr (fun k => by rw [decide_eq_true h3]) T
  · exact Ev.congr (fun k => by rw [decide_eq_false (by omega)]) (joins_good a b c (by omega) (by omega) (by omega) g1 g2)
end Go.Proofs.Ytfhoaakgpkgnfaa.Pure
