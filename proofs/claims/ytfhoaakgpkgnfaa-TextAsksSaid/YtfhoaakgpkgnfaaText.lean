import Derived.Test.YtfhoaakgpkgnfaaQx2
import Derived.Test.YtfhoaakgpkgnfaaUtf
import Derived.Laws.Cover4
import Derived.IntWalk
namespace Go.Proofs.Ytfhoaakgpkgnfaa.Pure
open Go.RowKit Go.Proofs.Ytfhoaakgpkgnfaa.Q Go.Proofs.YtfhoaakgpkgnfaaW.PrintWords Go.Proofs.YtfhoaakgpkgnfaaW.PrintLast

/-- The digits of a number as runes, the last one first. -/
def rdg (n : Nat) : List Int := if n < 10 then [48 + (n : Int)] else (48 + ((n % 10 : Nat) : Int)) :: rdg (n / 10)
theorem rdg_small {n : Nat} (h : n < 10) : rdg n = [48 + (n : Int)] := by rw [rdg, if_pos h]
theorem rdg_big {n : Nat} (h : ¬ n < 10) : rdg n = (48 + ((n % 10 : Nat) : Int)) :: rdg (n / 10) := by rw [rdg, if_neg h]
theorem rdg_length (n : Nat) : (rdg n).length ≤ n + 1 := by
  induction n using Nat.strongRecOn with
  | _ n ih =>
    by_cases h : n < 10
    · rw [rdg_small h]; simp
    · rw [rdg_big h]; have := ih (n / 10) (by omega); simp only [List.length_cons]; omega

/-- A number's text. -/
def textZ (a : Int) : ByteArray := if a < 0 then Utf8.encode 45 ++ runesBytes (rdg a.natAbs).reverse else runesBytes (rdg a.natAbs).reverse

theorem l1_ev (l : List Int) (hl : l.length ≤ 4294967296) : ∀ (d i : Nat) (acc : List Int), i + d = l.length → acc.length = i →
    Ev (fun k => word32_Text.l1 k l acc (l.length : Int) (i : Int)) (runesBytes (acc ++ l.reverse.drop i)) := by
  intro d
  induction d with
  | zero =>
    intro i acc h1 h2
    refine Ev.step (f := fun _ => some (runesBytes acc)) (fun k => ?_) ?_
    · simp only [word32_Text.l1]; rw [if_neg (by omega)]
    · rw [List.drop_of_length_le (by simp; omega), List.append_nil]; exact Ev.now _
  | succ d ih =>
    intro i acc h1 h2
    have hi : wrap64 (wrap64 ((l.length : Int) - 1) - (i : Int)) = ((l.length - 1 - i : Nat) : Int) := by unfold wrap64; omega
    have h3 := ih (i + 1) (acc ++ [rd l ((l.length - 1 - i : Nat) : Int)]) (by omega) (by simp; omega)
    have e : acc ++ l.reverse.drop i = acc ++ [rd l ((l.length - 1 - i : Nat) : Int)] ++ l.reverse.drop (i + 1) := by
      rw [List.drop_eq_getElem_cons (by simp; omega), List.append_assoc]
      congr 1
      simp [rd, List.getElem_reverse, List.getElem?_eq_getElem (show l.length - 1 - i < l.length by omega)]
    rw [e]
    refine Ev.step (fun k => ?_) h3
    simp only [word32_Text.l1]
    rw [if_pos (by omega), hi, if_pos (by omega), if_pos (by omega), if_pos (by omega)]
    rw [show wrap64 ((i : Int) + 1) = ((i + 1 : Nat) : Int) by unfold wrap64; omega]

theorem j4_ev (x0 : Int) (l : List Int) (hl : l.length ≤ 4294967290) :
    Ev (fun k => word32_Text.j4 k x0 l) (runesBytes ((if x0 < 0 then l ++ [45] else l).reverse)) := by
  by_cases h : x0 < 0
  · rw [if_pos h]
    have := l1_ev (l ++ [45]) (by simp; omega) (l ++ [45]).length 0 [] (by omega) rfl
    refine Ev.step (f := fun k => word32_Text.j5 k (l ++ [45])) (fun k => ?_) (Ev.step (f := fun k => word32_Text.l1 k (l ++ [45]) [] ((l ++ [45]).length : Int) 0) (fun k => by simp only [word32_Text.j5]) (by simpa using this))
    simp only [word32_Text.j4]; rw [if_pos h, if_pos (by omega)]
  · rw [if_neg h]
    have := l1_ev l (by omega) l.length 0 [] (by omega) rfl
    refine Ev.step (f := fun k => word32_Text.j5 k l) (fun k => ?_) (Ev.step (f := fun k => word32_Text.l1 k l [] (l.length : Int) 0) (fun k => by simp only [word32_Text.j5]) (by simpa using this))
    simp only [word32_Text.j4]; rw [if_neg h]

theorem l0_ev (x0 : Int) (r : ByteArray) (n : Nat) : ∀ (acc : List Int), n ≤ 2147483648 → acc.length + n ≤ 4294967200 → (acc = [] ∨ 0 < n) →
    Ev (fun k => word32_Text.j4 k x0 (acc ++ rdg n)) r → Ev (fun k => word32_Text.l0 k x0 (n : Int) acc) r := by
  induction n using Nat.strongRecOn with
  | _ n ih =>
    intro acc h1 h2 h3 hr
    by_cases h : n < 10
    · rw [rdg_small h] at hr
      by_cases h0 : n = 0
      · subst h0
        obtain rfl : acc = [] := by rcases h3 with h3 | h3 <;> first | exact h3 | omega
        refine Ev.step (f := fun k => word32_Text.j2 k x0 0 [] true) (fun k => by simp only [word32_Text.l0]; rw [if_neg (by decide), if_pos (by simp)]; rfl) ?_
        refine Ev.step (f := fun k => word32_Text.j3 k x0 0 [48]) (fun k => by simp only [word32_Text.j2]; rw [if_pos trivial, if_pos (by simp)]; simp only [Option.bind_some, show wrap64 (Int.tdiv 0 10) = 0 by decide +kernel, show wrap32 (48 + wrap32 (Int.tmod 0 10)) = 48 by decide +kernel, List.nil_append, if_true]) ?_
        exact Ev.step (fun k => by simp only [word32_Text.j3]; rw [if_neg (by decide)]; rfl) hr
      · have e : (if (acc.length : Int) = 0 then (((n : Int) == 0)) else false) = false := by split <;> simp [h0]
        refine Ev.step (f := fun k => word32_Text.j2 k x0 n acc false) (fun k => ?_) ?_
        · simp only [word32_Text.l0]; rw [if_neg (by omega)]
          have : ((n : Int) == 0) = false := by simp [h0]
          rw [this]; split <;> rfl
        refine Ev.step (f := fun k => word32_Text.j3 k x0 n acc) (fun k => by simp only [word32_Text.j2]; rw [if_neg (by simp)]) ?_
        refine Ev.step (fun k => ?_) hr
        simp only [word32_Text.j3]; rw [if_pos (by omega), if_pos (by omega)]
        rw [show wrap32 (48 + wrap32 (n : Int)) = 48 + (n : Int) by unfold wrap32; omega]
    · rw [rdg_big h] at hr
      have hd : wrap64 (Int.tdiv (n : Int) 10) = ((n / 10 : Nat) : Int) := by
        rw [show Int.tdiv (n : Int) 10 = ((n / 10 : Nat) : Int) by simp [Int.tdiv_eq_ediv_of_nonneg]]; unfold wrap64; omega
      have hm : wrap32 (48 + wrap32 (Int.tmod (n : Int) 10)) = 48 + ((n % 10 : Nat) : Int) := by
        rw [show Int.tmod (n : Int) 10 = ((n % 10 : Nat) : Int) by simp [Int.tmod_eq_emod_of_nonneg]]; unfold wrap32; omega
      refine Ev.step (f := fun k => word32_Text.j2 k x0 n acc true) (fun k => by simp only [word32_Text.l0]; rw [if_pos (by omega)]) ?_
      refine Ev.step (f := fun k => word32_Text.l0 k x0 ((n / 10 : Nat) : Int) (acc ++ [48 + ((n % 10 : Nat) : Int)])) (fun k => ?_) ?_
      · simp only [word32_Text.j2]; rw [if_pos trivial, if_pos (by omega), hd, hm]; simp only [Option.bind_some]; rw [if_neg (by omega)]
      · exact ih (n / 10) (by omega) _ (by omega) (by simp; omega) (.inr (by omega)) (by simpa using hr)

theorem text_ev (a : Int) (h : -2147483648 ≤ a ∧ a ≤ 2147483647) : Ev (fun k => word32_Text.f k a) (textZ a) := by
  have hw : wrap64 a = a := IntWalk.wrap64_in a (by omega)
  have hl := rdg_length a.natAbs
  have h4 := j4_ev a (rdg a.natAbs) (by omega)
  have e : runesBytes ((if a < 0 then rdg a.natAbs ++ [45] else rdg a.natAbs).reverse) = textZ a := by
    unfold textZ; split
    · rw [List.reverse_append]; exact runesBytes_cons _ _
    · rfl
  rw [e] at h4
  have h0 := l0_ev a (textZ a) a.natAbs [] (by omega) (by simp; omega) (.inl rfl) (by simpa using h4)
  have hj : Ev (fun k => word32_Text.j0 k a (a.natAbs : Int)) (textZ a) := Ev.step (fun k => by simp only [word32_Text.j0]) h0
  refine Ev.congr (fun k => ?_) hj
  unfold word32_Text.f
  rw [hw]
  by_cases hn : a < 0
  · rw [if_pos hn, show wrap64 (-a) = (a.natAbs : Int) by unfold wrap64; omega]
  · rw [if_neg hn, show a = (a.natAbs : Int) by omega]; simp
end Go.Proofs.Ytfhoaakgpkgnfaa.Pure
