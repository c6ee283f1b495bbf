/- TextPlaces: for any two texts and any place the call returns true: the rune at a place of two texts, one behind the other, is the first one's or the second one's. No condition. -/
import Derived.Test.YtfhoaakgpkgnfaaPureTextJoins
namespace Go.Proofs.Ytfhoaakgpkgnfaa.Pure
open Go.RowKit Go.Proofs.Ytfhoaakgpkgnfaa.Q Go.Proofs.YtfhoaakgpkgnfaaW.PrintWords Go.Proofs.YtfhoaakgpkgnfaaW.PrintLast

theorem pick_left (l m : List Int) (p : Int) (h0 : 0 ≤ p) (h1 : p < l.length) : pick (l ++ m) p = pick l p := by
  unfold pick
  rw [if_pos (by simp only [List.length_append]; omega), if_pos ⟨h0, h1⟩]
  rw [List.getD_eq_getElem?_getD, List.getD_eq_getElem?_getD, List.getElem?_append_left (by omega)]
theorem pick_right (l m : List Int) (p : Int) (h1 : l.length ≤ p) : pick (l ++ m) p = pick m (p - l.length) := by
  unfold pick
  by_cases h : p < ((l ++ m).length : Int)
  · simp only [List.length_append] at h
    rw [if_pos (by simp only [List.length_append]; omega), if_pos (by omega)]
    rw [List.getD_eq_getElem?_getD, List.getD_eq_getElem?_getD, List.getElem?_append_right (by omega), show p.toNat - l.length = (p - (l.length : Int)).toNat by omega]
  · simp only [List.length_append] at h
    rw [if_neg (by simp only [List.length_append]; omega), if_neg (by omega)]
theorem pick_ok (l : List Int) (p : Int) : (pick l p).2 = decide (0 ≤ p ∧ p < l.length) := by
  unfold pick; split <;> simp [*]

theorem places_true (a b : ByteArray) (x : Int) : Ev (fun k => changelinglaw14_TextPlaces.j0 k a b x true) true :=
  Ev.step (f := fun k => (changelinglaw14_told.f k).bind fun t => some t) (fun k => by simp only [changelinglaw14_TextPlaces.j0]; rw [if_pos trivial]) (Ev.bind (f := fun _ t => some t) told_ev (Ev.now _))

/-- The place that is asked for, as a number of the whole. -/
theorem place_of (x : Int) (n m : Nat) (hn : n ≤ 60) (hm : m ≤ 60) : ∃ p : Int, 0 ≤ p ∧ p < (n : Int) + m + 1 ∧ wrap32 (Int.tmod (IntKind.u64.wrap x) (IntKind.u64.wrap (wrap32 ((wrap32 ((n : Int) + (m : Int))) + 1)))) = p ∧ wrap32 ((n : Int) + (m : Int)) = (n : Int) + (m : Int) ∧ ¬ IntKind.u64.wrap (wrap32 ((wrap32 ((n : Int) + (m : Int))) + 1)) = 0 := by
  have n1 : wrap32 ((n : Int) + (m : Int)) = (n : Int) + (m : Int) := IntWalk.wrap32_in _ (by omega)
  have n0 : wrap32 ((n : Int) + (m : Int) + 1) = (n : Int) + (m : Int) + 1 := IntWalk.wrap32_in _ (by omega)
  have n2 : IntKind.u64.wrap ((n : Int) + (m : Int) + 1) = (n : Int) + (m : Int) + 1 := by
    rw [IntKind.wrap_u64]; omega
  have u0 : 0 ≤ IntKind.u64.wrap x := by rw [IntKind.wrap_u64]; omega
  have p0 := Int.tmod_nonneg ((n : Int) + (m : Int) + 1) u0
  have p1 := Int.tmod_lt_of_pos (IntKind.u64.wrap x) (show 0 < (n : Int) + (m : Int) + 1 by omega)
  rw [n1, n0, n2]
  clear n1 n0 n2 u0
  generalize Int.tmod (IntKind.u64.wrap x) ((n : Int) + (m : Int) + 1) = p at *
  exact ⟨p, p0, p1, IntWalk.wrap32_in _ (by omega), rfl, by omega⟩
theorem places_good (a b : ByteArray) (x : Int) (ha : a.size ≤ 60) (hb : b.size ≤ 60) (ga : good a = true) : Ev (fun k => changelinglaw14_TextPlaces.j0 k a b x false) true := by
  have l1 : (runes a).length ≤ 60 := Nat.le_trans (runes_len a) ha
  have l2 : (runes b).length ≤ 60 := Nat.le_trans (runes_len b) hb
  have s0 : a.size + b.size ≤ 9223372036854775807 := by omega
  have s1 : (a ++ b).size ≤ 100000 := by rw [ByteArray.size_append]; omega
  have s2 : a.size ≤ 100000 := by omega
  have s3 : b.size ≤ 100000 := by omega
  have ea := len_small a s2
  have eb := len_small b s3
  have hab := runes_append a b ga
  obtain ⟨p, p0, p1, h1, h2, h3⟩ := place_of x _ _ l1 l2
  have b1 : -2147483648 ≤ p := by clear h1 h2 h3; omega
  have b2 : p ≤ 2147483647 := by clear h1 h2 h3; omega
  refine Ev.step (f := fun k => (changelinglaw14_told.f k).bind fun t => if t = true then some true else none) (fun k => ?_) (Ev.bind (f := fun _ t => if t = true then some true else none) told_ev (Ev.now _))
  simp only [changelinglaw14_TextPlaces.j0]
  rw [if_neg (by decide), ea, Option.bind_some, eb, Option.bind_some]
  rw [if_neg h3, if_pos s0, h1, h2, at_small _ p s1 b1 b2, hab, Option.bind_some]
  clear h1 h2 h3
  by_cases h : p < ((runes a).length : Int)
  · rw [if_pos h, at_small a p s2 b1 b2]; simp only [Option.bind_some]
    rw [pick_left _ _ _ p0 h, pick_ok, decide_eq_true ⟨p0, h⟩]; simp
  · have hw : wrap32 (p - ((runes a).length : Int)) = p - ((runes a).length : Int) := IntWalk.wrap32_in _ (by omega)
    have c1 : -2147483648 ≤ p - ((runes a).length : Int) := by clear hw; omega
    have c2 : p - ((runes a).length : Int) ≤ 2147483647 := by clear hw; omega
    have c3 : ((runes a).length : Int) ≤ p := by clear hw; omega
    rw [if_neg h, hw, at_small b _ s3 c1 c2]; simp only [Option.bind_some]
    clear hw
    rw [pick_right _ _ _ c3]
    have e : ((pick (runes b) (p - ((runes a).length : Int))).2 == decide (p < ((runes a).length : Int) + ((runes b).length : Int))) = true := by
      rw [pick_ok, beq_iff_eq, decide_eq_decide]; omega
    rw [e]; simp
theorem TextPlaces : changelinglaw14_TextPlaces.Pure := by
  intro a b x _ _ _
  have T := places_true a b x
  suffices h : Ev (fun k => changelinglaw14_TextPlaces.f k a b x) true from h.rounds
  by_cases ha : (a.size : Int) > 60
  · exact Ev.congr (fun k => by unfold changelinglaw14_TextPlaces.f; rw [if_pos ha]) T
  by_cases hb : (b.size : Int) > 60
  · exact Ev.congr (fun k => by unfold changelinglaw14_TextPlaces.f; rw [if_neg ha, if_pos hb]) T
  obtain ⟨r1, e1, h1⟩ := badF_ev a (by omega)
  obtain ⟨r2, e2, h2⟩ := badF_ev b (by omega)
  refine Ev.congr (fun k => by unfold changelinglaw14_TextPlaces.f; rw [if_neg ha, if_neg hb]) (Ev.bind (f := fun k t236 => (if t236 ≥ 0 then (changelinglaw14_TextPlaces.j0 k a b x true) else ((changelingref1_Bad.f k b).bind fun t237 => (changelinglaw14_TextPlaces.j0 k a b x (decide (t237 ≥ 0)))))) e1 ?_)
  rcases h1 with h1 | ⟨h1, g1⟩
  · exact Ev.congr (fun k => if_pos h1) T
  refine Ev.congr (fun k => if_neg (by omega)) (Ev.bind (f := fun k t237 => (changelinglaw14_TextPlaces.j0 k a b x (decide (t237 ≥ 0)))) e2 ?_)
  rcases h2 with h2 | ⟨h2, g2⟩
  · exact Ev.congr (fun k => by rw [decide_eq_true h2]) T
  · exact Ev.congr (fun k => by rw [decide_eq_false (by omega)]) (places_good a b x (by omega) (by omega) g1)
end Go.Proofs.Ytfhoaakgpkgnfaa.Pure
