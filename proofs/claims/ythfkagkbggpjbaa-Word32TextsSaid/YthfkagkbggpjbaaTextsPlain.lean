/- Word32Texts: for any two int32s the call returns true: a number's text is its digits, unlike numbers have unlike texts. No condition. -/
import Derived.Test.YthfkagkbggpjbaaTextsWalk
import Derived.Test.YthfkagkbggpjbaaAsks
namespace Go.Proofs.Ythfkagkbggpjbaa.Pure
open Go.RowKit Go.Proofs.Ythfkagkbggpjbaa.Q Go.Proofs.YthfkagkbggpjbaaW.PrintWords Go.Proofs.YthfkagkbggpjbaaW.PrintLast

theorem rdg_digit (n : Nat) : ∀ x ∈ rdg n, 48 ≤ x ∧ x ≤ 57 := by
  induction n using Nat.strongRecOn with
  | _ n ih =>
    by_cases h : n < 10
    · rw [rdg_small h]; intro x hx; simp at hx; omega
    · rw [rdg_big h]; intro x hx
      rcases List.mem_cons.1 hx with rfl | hx
      · omega
      · exact ih (n / 10) (by omega) x hx
theorem rdg_ne (n : Nat) : 0 < (rdg n).length := by
  by_cases h : n < 10
  · rw [rdg_small h]; simp
  · rw [rdg_big h]; simp

/-- The number that a row of digits tells; a sign counts for nothing. -/
def val (l : List UInt8) : Int := l.foldl (fun n c => if c = 45 then n else n * 10 + ((c.toNat : Int) - 48)) 0
theorem val_snoc (l : List UInt8) (c : UInt8) : val (l ++ [c]) = if c = 45 then val l else val l * 10 + ((c.toNat : Int) - 48) := by
  unfold val; rw [List.foldl_append]; rfl
theorem val_sign (l : List UInt8) : val (45 :: l) = val l := rfl

theorem encode_digit (x : Int) (h : 48 ≤ x ∧ x ≤ 57) : (Utf8.encode x).data.toList = [UInt8.ofNat x.toNat] := by
  have : ∀ d : Fin 10, (Utf8.encode (48 + (d.val : Int))).data.toList = [UInt8.ofNat (48 + (d.val : Int)).toNat] := by decide +kernel
  obtain ⟨d, hd, rfl⟩ : ∃ d : Nat, d < 10 ∧ x = 48 + (d : Int) := ⟨(x - 48).toNat, by omega, by omega⟩
  have h2 := this ⟨d, hd⟩
  simp only at h2
  exact h2
theorem bytes_of (l : List Int) (h : ∀ x ∈ l, 48 ≤ x ∧ x ≤ 57) : (runesBytes l).data.toList = l.map fun x => UInt8.ofNat x.toNat := by
  induction l with
  | nil => rfl
  | cons x l ih =>
    rw [runesBytes_cons, ByteArray.data_append, Array.toList_append, ih (fun y hy => h y (List.mem_cons_of_mem _ hy)), encode_digit x (h x List.mem_cons_self)]
    rfl

def digs (n : Nat) : List UInt8 := (rdg n).reverse.map fun x => UInt8.ofNat x.toNat
theorem digs_val (n : Nat) : val (digs n) = n := by
  induction n using Nat.strongRecOn with
  | _ n ih =>
    have tn : ∀ d : Nat, d < 10 → (UInt8.ofNat (48 + (d : Int)).toNat).toNat = 48 + d := by
      intro d hd; rw [show (48 + (d : Int)).toNat = 48 + d by omega, UInt8.toNat_ofNat_of_lt' (by show 48 + d < 256; omega)]
    have ne : ∀ d : Nat, d < 10 → ¬ UInt8.ofNat (48 + (d : Int)).toNat = 45 := by
      intro d hd e; have := tn d hd; rw [e] at this; simp at this; omega
    by_cases h : n < 10
    · unfold digs; rw [rdg_small h]
      show val ([] ++ [UInt8.ofNat (48 + (n : Int)).toNat]) = n
      rw [val_snoc, if_neg (ne n h), tn n h]; simp [val]; omega
    · have hd := ih (n / 10) (by omega)
      unfold digs at hd ⊢; rw [rdg_big h, List.reverse_cons, List.map_append]
      show val (_ ++ [UInt8.ofNat (48 + ((n % 10 : Nat) : Int)).toNat]) = n
      rw [val_snoc, if_neg (ne (n % 10) (by omega)), tn (n % 10) (by omega), hd]; omega
theorem digs_mem (n : Nat) : ∀ c ∈ digs n, 48 ≤ c.toNat ∧ c.toNat ≤ 57 := by
  intro c hc
  obtain ⟨x, hx, rfl⟩ := List.mem_map.1 hc
  have := rdg_digit n x (List.mem_reverse.1 hx)
  rw [UInt8.toNat_ofNat_of_lt' (by show x.toNat < 256; omega)]; omega

theorem textZ_list (a : Int) : (textZ a).data.toList = (if a < 0 then [45] else []) ++ digs a.natAbs := by
  have hb := bytes_of (rdg a.natAbs).reverse (fun x hx => rdg_digit _ x (List.mem_reverse.1 hx))
  unfold textZ
  by_cases h : a < 0
  · rw [if_pos h, if_pos h, ByteArray.data_append, Array.toList_append, hb]; rfl
  · rw [if_neg h, if_neg h, hb]; rfl

theorem take_snoc (s : ByteArray) (k : Nat) (h : k < s.size) : s.data.toList.take (k + 1) = s.data.toList.take k ++ [s[k]] := by
  rw [List.take_succ_eq_append_getElem (by simpa using h)]; rfl

def accOf (s : ByteArray) (p : Nat) : Int := val (s.data.toList.take p)
theorem textZ_len (a : Int) : (textZ a).size = (if a < 0 then 1 else 0) + (digs a.natAbs).length := by
  have h := congrArg List.length (textZ_list a)
  rw [List.length_append] at h
  have e : (textZ a).data.toList.length = (textZ a).size := by simp
  rw [e] at h; rw [h]; split <;> simp
theorem digs_len (n : Nat) : 0 < (digs n).length := by unfold digs; simp; exact rdg_ne n
theorem textZ_get (a : Int) (p : Nat) (h : p < (textZ a).size) : (a < 0 ∧ p = 0 ∧ ((textZ a)[p]'h) = 45) ∨ (((¬ a < 0) ∨ 0 < p) ∧ 48 ≤ ((textZ a)[p]'h).toNat ∧ ((textZ a)[p]'h).toNat ≤ 57) := by
  have e : (textZ a)[p]'h = (textZ a).data.toList[p]'(by simpa using h) := rfl
  have hm : ∀ c ∈ digs a.natAbs, 48 ≤ c.toNat ∧ c.toNat ≤ 57 := digs_mem _
  rw [e]
  simp only [textZ_list]
  by_cases hn : a < 0
  · simp only [if_pos hn]
    cases p with
    | zero => exact .inl ⟨hn, rfl, rfl⟩
    | succ p => refine .inr ⟨.inr (by omega), ?_⟩; exact hm _ (by simp)
  · simp only [if_neg hn, List.nil_append]
    exact .inr ⟨.inl hn, hm _ (by simp)⟩

theorem acc_step (a : Int) (p : Nat) (h : p < (textZ a).size) : (p = 0 ∧ (((textZ a)[p]'h).toNat = 45) ∧ accOf (textZ a) 1 = 0) ∨ (48 ≤ ((textZ a)[p]'h).toNat ∧ ((textZ a)[p]'h).toNat ≤ 57 ∧ accOf (textZ a) (p + 1) = accOf (textZ a) p * 10 + ((((textZ a)[p]'h).toNat : Int) - 48)) := by
  have hs := take_snoc (textZ a) p h
  rcases textZ_get a p h with ⟨h1, rfl, h3⟩ | ⟨_, h2, h3⟩
  · refine .inl ⟨rfl, by rw [h3]; rfl, ?_⟩
    unfold accOf; rw [hs, h3]; rfl
  · refine .inr ⟨h2, h3, ?_⟩
    unfold accOf; rw [hs, val_snoc, if_neg]
    intro e; rw [e] at h2; simp at h2
theorem acc_zero (s : ByteArray) : accOf s 0 = 0 := rfl
theorem acc_nonneg (a : Int) : ∀ p, p ≤ (textZ a).size → 0 ≤ accOf (textZ a) p := by
  intro p
  induction p with
  | zero => intro _; exact Int.le_refl _
  | succ p ih =>
    intro h
    have := ih (by omega)
    rcases acc_step a p (by omega) with ⟨rfl, _, h3⟩ | ⟨h1, _, h3⟩
    · rw [h3]; exact Int.le_refl _
    · rw [h3]; omega
theorem acc_mono (a : Int) (p : Nat) : ∀ d, p + d ≤ (textZ a).size → accOf (textZ a) p ≤ accOf (textZ a) (p + d) := by
  intro d
  induction d with
  | zero => intro _; exact Int.le_refl _
  | succ d ih =>
    intro h
    have h0 := ih (by omega)
    have hn := acc_nonneg a (p + d) (by omega)
    rcases acc_step a (p + d) (by omega) with ⟨h1, _, h3⟩ | ⟨h1, _, h3⟩
    · obtain rfl : p = 0 := by omega
      obtain rfl : d = 0 := by omega
      rw [show 0 + (0 + 1) = 1 from rfl, h3]; exact Int.le_refl _
    · rw [show p + (d + 1) = p + d + 1 by omega, h3]; omega
theorem acc_all (a : Int) : accOf (textZ a) (textZ a).size = a.natAbs := by
  unfold accOf
  rw [List.take_of_length_le (by simp), textZ_list]
  split
  · rw [show [45] ++ digs a.natAbs = 45 :: digs a.natAbs from rfl, val_sign, digs_val]
  · rw [List.nil_append, digs_val]

theorem same_text (a b : Int) : ((textZ a).toList == (textZ b).toList) = (a == b) := by
  by_cases h : a = b
  · subst h; simp
  · rw [beq_eq_false_iff_ne.2 h, beq_eq_false_iff_ne]
    intro e
    rw [ByteArray.toList_eq, ByteArray.toList_eq] at e
    have e2 : textZ a = textZ b := Go.WideShapes.bytes_inj e
    have h1 := acc_all a
    have h2 := acc_all b
    rw [e2, h2] at h1
    have z1 : 0 < (textZ a).size := by rw [textZ_len]; have := digs_len a.natAbs; omega
    have z2 : 0 < (textZ b).size := by rw [textZ_len]; have := digs_len b.natAbs; omega
    have g1 := textZ_get a 0 z1
    have g2 := textZ_get b 0 z2
    have ee : (textZ a)[0]'z1 = (textZ b)[0]'z2 := by simp only [e2]
    rw [ee] at g1
    rcases g1 with ⟨p1, _, q1⟩ | ⟨p1, q1, _⟩ <;> rcases g2 with ⟨p2, _, q2⟩ | ⟨p2, q2, _⟩
    · omega
    · rw [q1] at q2; simp at q2
    · rw [q2] at q1; simp at q1
    · omega

theorem texts_holds (a b : Int) (w : World) (ha : (Lit.int .i32 a).wf = true) (hb : (Lit.int .i32 b).wf = true) :
    Calls Try.prog 5 #[.int .i32 a, .int .i32 b] w fun e w' => e = .returned (.bool true) ∧ Below w.heap.size w w' := by
  have ha := i32_bd ha
  have hb := i32_bd hb
  obtain ⟨k1, h1⟩ := (text_ev a ha).rounds
  obtain ⟨k2, h2⟩ := (text_ev b hb).rounds
  obtain ⟨k3, h3⟩ := told_ev.rounds
  have hne : 0 < (textZ a).size := by rw [textZ_len]; have := digs_len a.natAbs; omega
  have hl : (textZ a).size ≤ 4294967296 := by
    rw [textZ_len]; unfold digs; simp only [List.length_map, List.length_reverse]; have := rdg_length a.natAbs; split <;> omega
  refine texts_walk a b (textZ a) (textZ b) (accOf (textZ a)) w ha (Lib.hid fun W => word32_Text.calls k1 a (textZ a) W h1) (Lib.hid fun W => word32_Text.calls k2 b (textZ b) W h2) (Lib.hid fun W => changelinglaw13_told.calls k3 true W h3) (Lib.hid rfl) (Lib.hid fun p h => acc_step a p h) (Lib.hid fun p h => ⟨acc_nonneg a p h, ?_⟩) hne (Lib.hid ?_) (Lib.hid (same_text a b)) (by omega)
  · have := acc_mono a p ((textZ a).size - p) (by omega)
    rw [show p + ((textZ a).size - p) = (textZ a).size by omega, acc_all] at this
    omega
  · rw [acc_all]
    rcases textZ_get a 0 hne with ⟨g1, _, g3⟩ | ⟨g1, g2, _⟩
    · exact .inl ⟨by rw [g3]; rfl, by omega⟩
    · exact .inr ⟨by omega, by omega⟩
end Go.Proofs.Ythfkagkbggpjbaa.Pure
