import Derived.Test.YtfhoaakgpkgnfaaText
import Derived.Test.YtfhoaakgpkgnfaaQx3
namespace Go.Proofs.Ytfhoaakgpkgnfaa.Pure
open Go.RowKit Go.Proofs.Ytfhoaakgpkgnfaa.Q Go.Proofs.YtfhoaakgpkgnfaaW.PrintWords Go.Proofs.YtfhoaakgpkgnfaaW.PrintLast

theorem digit_ex : ∀ d : Fin 10, (⟨#[48, 49, 50, 51, 52, 53, 54, 55, 56, 57]⟩ : ByteArray).extract d.val (d.val + 1) = Utf8.encode (48 + (d.val : Int)) := by decide +kernel
theorem digit_size : ∀ d : Fin 10, (Utf8.encode (48 + (d.val : Int))).size = 1 := by decide +kernel

theorem decimal_ev (n : Nat) : ∀ (s : ByteArray), n ≤ 2147483648 → s.size + n ≤ 4294967200 →
    Ev (fun k => changelingref4_Decimal.l0 k (n : Int) s) (runesBytes (rdg n).reverse ++ s) := by
  induction n using Nat.strongRecOn with
  | _ n ih =>
    intro s h1 h2
    by_cases h : n < 10
    · have e := digit_ex ⟨n, h⟩; have e1 := digit_size ⟨n, h⟩; simp only at e e1
      refine Ev.step (f := fun _ => some (runesBytes (rdg n).reverse ++ s)) (fun k => ?_) (Ev.now _)
      simp only [changelingref4_Decimal.l0]
      rw [if_neg (by omega), if_pos (by omega), show wrap64 ((n : Int) + 1) = ((n + 1 : Nat) : Int) by unfold wrap64; omega, if_pos (by omega), if_pos (by omega), Int.toNat_natCast, Int.toNat_natCast, e, if_pos (by omega)]
      rw [rdg_small h, List.reverse_singleton, runesBytes_cons, runesBytes_nil, ByteArray.append_empty]
    · have e := digit_ex ⟨n % 10, by omega⟩; have e1 := digit_size ⟨n % 10, by omega⟩; simp only at e e1
      have hd : wrap64 (Int.tdiv (n : Int) 10) = ((n / 10 : Nat) : Int) := by
        rw [show Int.tdiv (n : Int) 10 = ((n / 10 : Nat) : Int) by simp [Int.tdiv_eq_ediv_of_nonneg]]; unfold wrap64; omega
      have hm : Int.tmod (n : Int) 10 = ((n % 10 : Nat) : Int) := by simp [Int.tmod_eq_emod_of_nonneg]
      refine Ev.step (f := fun k => changelingref4_Decimal.l0 k ((n / 10 : Nat) : Int) (Utf8.encode (48 + ((n % 10 : Nat) : Int)) ++ s)) (fun k => ?_) ?_
      · simp only [changelingref4_Decimal.l0]
        rw [if_pos (by omega), hm, hd, show wrap64 (((n % 10 : Nat) : Int) + 1) = ((n % 10 + 1 : Nat) : Int) by unfold wrap64; omega, if_pos (by omega), if_pos (by omega), if_pos (by omega), Int.toNat_natCast, Int.toNat_natCast, e, if_pos (by omega)]
      · have := ih (n / 10) (by omega) (Utf8.encode (48 + ((n % 10 : Nat) : Int)) ++ s) (by omega) (by rw [ByteArray.size_append]; omega)
        rw [rdg_big h, List.reverse_cons, runesBytes_append, runesBytes_cons, runesBytes_nil, ByteArray.append_empty, ByteArray.append_assoc]
        exact this

theorem encode_le (n : Nat) : (runesBytes (rdg n).reverse).size ≤ 4 * (n + 1) := by
  have h := runesBytes_size_le (rdg n).reverse
  have := rdg_length n
  simp only [List.length_reverse] at h; omega

theorem digits_ev (a : Int) (h : -2147483648 ≤ a ∧ a ≤ 2147483647) : Ev (fun k => changelingref13_Digits.f k a) (textZ a) := by
  have hw : wrap64 a = a := IntWalk.wrap64_in a (by omega)
  have h0 := decimal_ev a.natAbs ⟨#[]⟩ (by omega) (by simp [ByteArray.size]; omega)
  rw [show (⟨#[]⟩ : ByteArray) = ByteArray.empty from rfl, ByteArray.append_empty] at h0
  have hsz := encode_le a.natAbs
  by_cases hn : a < 0
  · refine Ev.congr (f := fun k => (changelingref4_Decimal.f k (a.natAbs : Int)).bind fun (t : ByteArray) => (if 1 + t.size ≤ 9223372036854775807 then (some ((⟨#[45]⟩ : ByteArray) ++ t)) else (none))) (fun k => ?_) (Ev.bind (g := fun k => changelingref4_Decimal.f k (a.natAbs : Int)) (f := fun _ (t : ByteArray) => (if 1 + t.size ≤ 9223372036854775807 then (some ((⟨#[45]⟩ : ByteArray) ++ t)) else (none))) (a := runesBytes (rdg a.natAbs).reverse) h0 ?_)
    · unfold changelingref13_Digits.f; rw [if_pos hn, hw, show wrap64 (-a) = (a.natAbs : Int) by unfold wrap64; omega]
    · refine Ev.congr (f := fun _ => some (textZ a)) (fun k => ?_) (Ev.now _)
      rw [if_pos (by omega)]; unfold textZ; rw [if_pos hn]; rfl
  · refine Ev.congr (f := fun k => (changelingref4_Decimal.f k (a.natAbs : Int)).bind fun t => some t) (fun k => ?_) (Ev.bind (g := fun k => changelingref4_Decimal.f k (a.natAbs : Int)) (f := fun _ (t : ByteArray) => some t) (a := runesBytes (rdg a.natAbs).reverse) h0 ?_)
    · unfold changelingref13_Digits.f; rw [if_neg hn, hw, show (a.natAbs : Int) = a by omega]
    · refine Ev.congr (f := fun _ => some (textZ a)) (fun k => ?_) (Ev.now _)
      unfold textZ; rw [if_neg hn]

theorem i32_bd {a : Int} (h : (Lit.int .i32 a).wf = true) : -2147483648 ≤ a ∧ a ≤ 2147483647 := by
  simpa [Lit.wf, IntKind.min, IntKind.max, IntKind.signed, IntKind.bits] using h
end Go.Proofs.Ytfhoaakgpkgnfaa.Pure
