import Derived.Test.YtfhoaakgpkgnfaaLens
import Derived.Test.YtfhoaakgpkgnfaaQx8
namespace Go.Proofs.Ytfhoaakgpkgnfaa.Pure
open Go.RowKit Go.Proofs.Ytfhoaakgpkgnfaa.Q Go.Proofs.YtfhoaakgpkgnfaaW.PrintWords Go.Proofs.YtfhoaakgpkgnfaaW.PrintLast Go.Proofs.YtfhoaakgpkgnfaaW.PrintMore

/-! ### Bad -/
/-- Is a text UTF-8 from a place on? -/
def goodFrom (s : ByteArray) : Nat → Nat → Bool
  | 0, _ => true
  | f + 1, p => if p < s.size then !badB (Utf8.decode s p) && goodFrom s f (p + (Utf8.decode s p).2) else true
theorem bad_ev (s : ByteArray) (hs : s.size ≤ 900000000) : ∀ f p, s.size ≤ p + f → p ≤ s.size + 4 → ∃ r, Ev (fun k => changelingref1_Bad.l0 k s (p : Int)) r ∧ (0 ≤ r ∨ (r = -1 ∧ goodFrom s f p = true)) := by
  intro f
  induction f with
  | zero =>
    intro p h1 _
    exact ⟨-1, Ev.step (f := fun _ => some (-1)) (fun k => by simp only [changelingref1_Bad.l0]; rw [if_neg (by omega)]) (Ev.now _), .inr ⟨rfl, rfl⟩⟩
  | succ f ih =>
    intro p h1 hpp
    by_cases hp : p < s.size
    · have hw := Lib.decode_width_pos s p hp
      have h4 := decode_le4 s p
      have hpl := w_place p (Utf8.decode s p).2 (by omega)
      have hc : (p : Int) < (s.size : Int) := by omega
      have st : ∀ r, Ev (fun k => if badB (Utf8.decode s p) = true then some (p : Int) else changelingref1_Bad.l0 k s ((p + (Utf8.decode s p).2 : Nat) : Int)) r → Ev (fun k => changelingref1_Bad.l0 k s (p : Int)) r := by
        intro r h
        refine Ev.step (f := fun k => (changelingref1_One.f k s (p : Int)).bind fun b => if b.2.2 = true then some (p : Int) else changelingref1_Bad.l0 k s (wrap64 ((p : Int) + b.2.1))) (fun k => by simp only [changelingref1_Bad.l0]; rw [if_pos hc]) ?_
        refine Ev.bind (f := fun k b => if b.2.2 = true then some (p : Int) else changelingref1_Bad.l0 k s (wrap64 ((p : Int) + b.2.1))) (one_ev s p (by omega) hp) ?_
        refine Ev.congr (fun k => ?_) h
        show (if badB (Utf8.decode s p) = true then some (p : Int) else changelingref1_Bad.l0 k s (wrap64 ((p : Int) + ((Utf8.decode s p).2 : Int)))) = _
        rw [hpl]
      cases hb : badB (Utf8.decode s p) with
      | true => exact ⟨p, st _ (Ev.congr (fun k => by rw [hb, if_pos rfl]) (Ev.now _)), .inl (by omega)⟩
      | false =>
        obtain ⟨r, h2, h3⟩ := ih (p + (Utf8.decode s p).2) (by omega) (by omega)
        refine ⟨r, st _ (Ev.congr (fun k => by rw [hb, if_neg (by decide)]) h2), ?_⟩
        rcases h3 with h3 | ⟨h3, h5⟩
        · exact .inl h3
        · refine .inr ⟨h3, ?_⟩
          rw [goodFrom, if_pos hp, hb, h5]; rfl
    · exact ⟨-1, Ev.step (f := fun _ => some (-1)) (fun k => by simp only [changelingref1_Bad.l0]; rw [if_neg (by omega)]) (Ev.now _), .inr ⟨rfl, by rw [goodFrom, if_neg hp]⟩⟩
def good (s : ByteArray) : Bool := goodFrom s s.size 0
theorem badF_ev (s : ByteArray) (hs : s.size ≤ 900000000) : ∃ r, Ev (fun k => changelingref1_Bad.f k s) r ∧ (0 ≤ r ∨ (r = -1 ∧ good s = true)) := bad_ev s hs s.size 0 (by omega) (by omega)

theorem extract_join (s : ByteArray) (i j n : Nat) (h1 : i ≤ j) (h2 : j ≤ n) : s.extract i j ++ s.extract j n = s.extract i n := by
  rw [ByteArray.extract_append_extract, Nat.min_eq_left h1, Nat.max_eq_right h2]
theorem good_runes (s : ByteArray) : ∀ f p, s.size ≤ p + f → p ≤ s.size → goodFrom s f p = true → s.extract p s.size = runesBytes (rest s p) := by
  intro f
  induction f with
  | zero =>
    intro p h1 h2 _
    obtain rfl : p = s.size := by omega
    rw [rest_end s _ (by omega), runesBytes_nil]; apply Go.WideShapes.bytes_inj; simp
  | succ f ih =>
    intro p h1 h2 h3
    by_cases hp : p < s.size
    · have hw := Lib.decode_width_pos s p hp
      rw [goodFrom, if_pos hp] at h3
      obtain ⟨h4, h5⟩ := Bool.and_eq_true_iff.1 h3
      obtain ⟨h6, h7⟩ := extract_rune s p hp (by simpa using h4)
      rw [rest_cons s p hp, runesBytes_cons, ← ih _ (by omega) h6 h5, ← h7, extract_join s _ _ _ (by omega) h6]
    · obtain rfl : p = s.size := by omega
      rw [rest_end s _ (by omega), runesBytes_nil]; apply Go.WideShapes.bytes_inj; simp
theorem good_all (s : ByteArray) (h : good s = true) : s = runesBytes (runes s) := by
  have := good_runes s s.size 0 (by omega) (by omega) h
  rw [rest_zero] at this
  rw [← this]; apply Go.WideShapes.bytes_inj; simp
theorem runes_append (s t : ByteArray) (h : good s = true) : runes (s ++ t) = runes s ++ runes t := by
  conv => lhs; rw [good_all s h]
  exact runes_all _ (runes_valid s) t
end Go.Proofs.Ytfhoaakgpkgnfaa.Pure
