import Derived.Test.YtfhoaakgpkgnfaaUtf
import Derived.Test.YtfhoaakgpkgnfaaQx6
namespace Go.Proofs.Ytfhoaakgpkgnfaa.Pure
open Go.RowKit Go.Proofs.Ytfhoaakgpkgnfaa.Q Go.Proofs.YtfhoaakgpkgnfaaW.PrintWords Go.Proofs.YtfhoaakgpkgnfaaW.PrintLast Go.Proofs.YtfhoaakgpkgnfaaW.PrintMore

theorem lenL_eq : ∀ (l : List Int) (n : Int), 0 ≤ n → n + l.length ≤ 2147483647 → lenL l n = n + l.length := by
  intro l
  induction l with
  | nil => intro n _ _; simp [lenL]
  | cons r l ih =>
    intro n h0 h1
    simp only [List.length_cons] at h1 ⊢
    have e : wrap32 (n + 1) = n + 1 := IntWalk.wrap32_in _ (by omega)
    rw [lenL, e, ih (n + 1) (by omega) (by omega)]; omega
/-- The rune at a place of a row. -/
def pick (l : List Int) (k : Int) : ByteArray × Bool := if 0 ≤ k ∧ k < l.length then (Utf8.encode (l.getD k.toNat 0), true) else (⟨#[]⟩, false)
theorem pick_nil (k : Int) : pick [] k = (⟨#[]⟩, false) := by unfold pick; rw [if_neg (by simp)]
theorem pick_zero (r : Int) (l : List Int) : pick (r :: l) 0 = (Utf8.encode r, true) := by unfold pick; rw [if_pos (by simp)]; rfl
theorem pick_cons (r : Int) (l : List Int) (k : Int) (h : k ≠ 0) : pick (r :: l) k = pick l (k - 1) := by
  unfold pick
  by_cases h1 : 0 ≤ k ∧ k < (r :: l).length
  · have h2 : 0 ≤ k - 1 ∧ k - 1 < l.length := by simp only [List.length_cons] at h1; omega
    rw [if_pos h1, if_pos h2, show k.toNat = (k - 1).toNat + 1 by omega]; rfl
  · have h2 : ¬ (0 ≤ k - 1 ∧ k - 1 < l.length) := by simp only [List.length_cons] at h1; omega
    rw [if_neg h1, if_neg h2]
theorem pick_far (l : List Int) (k j : Int) (h1 : k < 0) (h2 : l.length ≤ j) : pick l k = pick l j := by
  unfold pick; rw [if_neg (by omega), if_neg (by omega)]
theorem atL_eq : ∀ (l : List Int) (k : Int), l.length ≤ 2147483647 → -2147483648 ≤ k → k ≤ 2147483647 → atL l k = pick l k := by
  intro l
  induction l with
  | nil => intro k _ _ _; rw [pick_nil]; rfl
  | cons r l ih =>
    intro k h0 h1 h2
    simp only [List.length_cons] at h0
    by_cases hk : k = 0
    · subst hk; rw [pick_zero, atL, if_pos rfl]
    · rw [pick_cons r l k hk, atL, if_neg hk]
      by_cases hm : k = -2147483648
      · subst hm
        rw [show wrap32 (-2147483648 - 1) = 2147483647 by decide +kernel, ih _ (by omega) (by omega) (by omega)]
        exact (pick_far l _ _ (by omega) (by omega)).symm
      · rw [IntWalk.wrap32_in _ (by omega), ih _ (by omega) (by omega) (by omega)]
theorem rest_len (s : ByteArray) : ∀ d p, s.size - p = d → (rest s p).length ≤ d := by
  intro d
  induction d using Nat.strongRecOn with
  | _ d ih =>
    intro p hd
    by_cases hp : p < s.size
    · have hw := Lib.decode_width_pos s p hp
      have := ih _ (by omega) (p + (Utf8.decode s p).2) rfl
      rw [rest_cons s p hp, List.length_cons]; omega
    · rw [rest_end s p hp]; simp
theorem runes_len (s : ByteArray) : (runes s).length ≤ s.size := by have := rest_len s _ 0 rfl; rw [rest_zero] at this; omega

/-! ### the reference's Len and At -/
theorem decode_le4 (s : ByteArray) (i : Nat) : (Utf8.decode s i).2 ≤ 4 := by
  rw [Lib.decode_at]; unfold Lib.decodeN; repeat' split
  all_goals simp
theorem refLen_ev (s : ByteArray) (hs : s.size ≤ 900000000) : ∀ d p n, s.size - p = d → p ≤ s.size + 4 → Ev (fun k => changelingref13_Len.l0 k s n (p : Int)) (lenL (rest s p) n) := by
  intro d
  induction d using Nat.strongRecOn with
  | _ d ih =>
    intro p n hd hpp
    by_cases hp : p < s.size
    · have hw := Lib.decode_width_pos s p hp
      have h4 := decode_le4 s p
      have hpl := w_place p (Utf8.decode s p).2 (by omega)
      have hc : (p : Int) < (s.size : Int) := by omega
      refine Ev.step (f := fun k => (changelingref1_One.f k s (p : Int)).bind fun b => changelingref13_Len.l0 k s (wrap32 (n + 1)) (wrap64 ((p : Int) + b.2.1))) (fun k => by simp only [changelingref13_Len.l0]; rw [if_pos hc]) ?_
      refine Ev.bind (f := fun k b => changelingref13_Len.l0 k s (wrap32 (n + 1)) (wrap64 ((p : Int) + b.2.1))) (one_ev s p (by omega) hp) ?_
      have := ih _ (by omega) (p + (Utf8.decode s p).2) (wrap32 (n + 1)) rfl (by omega)
      rw [rest_cons s p hp, lenL]
      refine Ev.congr (fun k => ?_) this
      show changelingref13_Len.l0 k s (wrap32 (n + 1)) (wrap64 ((p : Int) + ((Utf8.decode s p).2 : Int))) = _
      rw [hpl]
    · rw [rest_end s p hp]
      exact Ev.step (f := fun _ => some n) (fun k => by simp only [changelingref13_Len.l0]; rw [if_neg (by omega)]) (Ev.now _)

theorem part_ev (s : ByteArray) (i : Nat) (hs : s.size ≤ 900000000) (hi : i < s.size) : Ev (fun k => changelingref1_Part.f k s (i : Int)) (Utf8.encode ((Utf8.decode s i).1 : Int), ((Utf8.decode s i).2 : Int)) := by
  have hw := Lib.decode_width_pos s i hi
  have h4 := decode_le4 s i
  have hpl := w_place i (Utf8.decode s i).2 (by omega)
  refine Ev.bind (f := fun _ (b : Int × Int × Bool) => (if b.2.2 = true then (some ((⟨#[239, 191, 189]⟩ : ByteArray), (1 : Int))) else (if 0 ≤ (i : Int) then (if (i : Int) ≤ (wrap64 ((i : Int) + b.2.1)) then (if (wrap64 ((i : Int) + b.2.1)) ≤ (s.size : Int) then (some (s.extract ((i : Int) : Int).toNat ((wrap64 ((i : Int) + b.2.1)) : Int).toNat, b.2.1)) else (none)) else (none)) else (none)))) (one_ev s i (by omega) hi) ?_
  refine Ev.congr (fun k => ?_) (Ev.now _)
  show (if badB (Utf8.decode s i) = true then some ((⟨#[239, 191, 189]⟩ : ByteArray), (1 : Int)) else (if 0 ≤ (i : Int) then (if (i : Int) ≤ (wrap64 ((i : Int) + ((Utf8.decode s i).2 : Int))) then (if (wrap64 ((i : Int) + ((Utf8.decode s i).2 : Int))) ≤ (s.size : Int) then (some (s.extract ((i : Int) : Int).toNat ((wrap64 ((i : Int) + ((Utf8.decode s i).2 : Int))) : Int).toNat, ((Utf8.decode s i).2 : Int))) else (none)) else (none)) else (none))) = _
  cases hb : badB (Utf8.decode s i) with
  | true =>
    rw [if_pos rfl]
    have hb2 : (Utf8.decode s i).1 = 65533 ∧ (Utf8.decode s i).2 = 1 := by unfold badB at hb; simpa using hb
    rw [hb2.1, hb2.2, show Utf8.encode ((65533 : Nat) : Int) = (⟨#[239, 191, 189]⟩ : ByteArray) by decide +kernel]; rfl
  | false =>
    obtain ⟨h1, h2⟩ := extract_rune s i hi hb
    rw [if_neg (by decide), hpl, if_pos (by omega), if_pos (by omega), if_pos (by omega), Int.toNat_natCast, Int.toNat_natCast, h2]

theorem refAt_ev (s : ByteArray) (K : Int) (hs : s.size ≤ 900000000) : ∀ d p n, s.size - p = d → p ≤ s.size + 4 → 0 ≤ n → n + (s.size - p : Nat) ≤ 2147483646 → Ev (fun k => changelingref13_At.l0 k s K n (p : Int)) (pick (rest s p) (K - n)) := by
  intro d
  induction d using Nat.strongRecOn with
  | _ d ih =>
    intro p n hd hpp hn0 hn1
    by_cases hp : p < s.size
    · have hw := Lib.decode_width_pos s p hp
      have h4 := decode_le4 s p
      have hpl := w_place p (Utf8.decode s p).2 (by omega)
      have hc : (p : Int) < (s.size : Int) := by omega
      have hwn : wrap32 (n + 1) = n + 1 := IntWalk.wrap32_in _ (by omega)
      have hrc := rest_cons s p hp
      refine Ev.step (f := fun k => (changelingref1_Part.f k s (p : Int)).bind fun b => if n = K then some (b.1, true) else changelingref13_At.l0 k s K (wrap32 (n + 1)) (wrap64 ((p : Int) + b.2))) (fun k => by simp only [changelingref13_At.l0]; rw [if_pos hc]) ?_
      refine Ev.bind (f := fun k b => if n = K then some (b.1, true) else changelingref13_At.l0 k s K (wrap32 (n + 1)) (wrap64 ((p : Int) + b.2))) (part_ev s p hs hp) ?_
      simp only [hpl, hwn]
      rw [hrc]
      by_cases hk : n = K
      · subst hk
        rw [Int.sub_self, pick_zero]
        exact Ev.congr (fun k => if_pos rfl) (Ev.now _)
      · rw [pick_cons _ _ _ (by omega), show K - n - 1 = K - (n + 1) by omega]
        have := ih _ (by omega) (p + (Utf8.decode s p).2) (n + 1) rfl (by omega) (by omega) (by omega)
        exact Ev.congr (fun k => if_neg hk) this
    · rw [rest_end s p hp, pick_nil]
      exact Ev.step (f := fun _ => some (⟨#[]⟩, false)) (fun k => by simp only [changelingref13_At.l0]; rw [if_neg (by omega)]) (Ev.now _)

end Go.Proofs.Ytfhoaakgpkgnfaa.Pure
