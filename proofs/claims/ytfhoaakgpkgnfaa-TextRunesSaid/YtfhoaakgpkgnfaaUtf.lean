import Derived.Test.YtfhoaakgpkgnfaaOne
import Derived.Laws.Cover4
import Derived.WideShapes
namespace Go.Proofs.Ytfhoaakgpkgnfaa.Pure
open Go.RowKit Go.Proofs.Ytfhoaakgpkgnfaa Go.Proofs.YtfhoaakgpkgnfaaW.PrintWords

theorem foldl_init (ns : List Int) : ∀ s : ByteArray, ns.foldl (fun r n => r ++ Utf8.encode n) s = s ++ runesBytes ns := by
  induction ns with
  | nil => intro s; simp [runesBytes]
  | cons n ns ih => intro s; simp only [runesBytes, List.foldl_cons]; rw [ih, ih (ByteArray.empty ++ _), ByteArray.append_assoc]; simp
theorem runesBytes_cons (c : Int) (ns : List Int) : runesBytes (c :: ns) = Utf8.encode c ++ runesBytes ns := by
  rw [runesBytes, List.foldl_cons, foldl_init]; simp
theorem runesBytes_append (xs ns : List Int) : runesBytes (xs ++ ns) = runesBytes xs ++ runesBytes ns := by
  rw [runesBytes, List.foldl_append, foldl_init]; rfl
theorem runesBytes_nil : runesBytes [] = ByteArray.empty := rfl

theorem get_lt (s : ByteArray) (i : Nat) (h : i < s.size) : s.get! i = s[i]'h := by
  simp [ByteArray.get!, getElem!_pos, h]
  rfl
theorem get_ge (s : ByteArray) (i : Nat) (h : ¬ i < s.size) : s.get! i = 0 := by
  simp only [ByteArray.get!]
  rw [getElem!_neg _ _ (by simpa using h)]
  rfl
theorem get_right (a t : ByteArray) (i : Nat) : (a ++ t).get! (a.size + i) = t.get! i := by
  by_cases h : i < t.size
  · rw [get_lt _ _ (by rw [ByteArray.size_append]; omega), get_lt _ _ h, ByteArray.getElem_append_right (by omega)]
    simp
  · rw [get_ge _ _ (by rw [ByteArray.size_append]; omega), get_ge _ _ h]
theorem get_left (a t : ByteArray) (i : Nat) (h : i < a.size) : (a ++ t).get! i = a.get! i := by
  rw [get_lt _ _ (by rw [ByteArray.size_append]; omega), get_lt _ _ h, ByteArray.getElem_append_left h]

theorem decode_right (a t : ByteArray) (i : Nat) : Utf8.decode (a ++ t) (a.size + i) = Utf8.decode t i := by
  rw [Lib.decode_at, Lib.decode_at]
  rw [show (a ++ t).size - (a.size + i) = t.size - i by rw [ByteArray.size_append]; omega]
  rw [show a.size + i + 1 = a.size + (i + 1) by omega, show a.size + i + 2 = a.size + (i + 2) by omega, show a.size + i + 3 = a.size + (i + 3) by omega]
  rw [get_right, get_right, get_right, get_right]
theorem rest_right (a t : ByteArray) : ∀ d p, t.size - p = d → rest (a ++ t) (a.size + p) = rest t p := by
  intro d
  induction d using Nat.strongRecOn with
  | _ d ih =>
    intro p hd
    by_cases hp : p < t.size
    · have hw := Lib.decode_width_pos t p hp
      rw [rest_cons t p hp, rest_cons (a ++ t) (a.size + p) (by rw [ByteArray.size_append]; omega), decode_right, show a.size + p + (Utf8.decode t p).2 = a.size + (p + (Utf8.decode t p).2) by omega, ih _ (by omega) (p + (Utf8.decode t p).2) rfl]
    · rw [rest_end t p hp, rest_end _ _ (by rw [ByteArray.size_append]; omega)]

/-- A code point that may be encoded. -/
def vr (c : Nat) : Prop := c < 55296 ∨ (57344 ≤ c ∧ c ≤ 1114111)
theorem decodeN_valid (n b0 b1 b2 b3 : Nat) (h0 : b0 < 256) : vr (Lib.decodeN n b0 b1 b2 b3).1 := by
  unfold Lib.decodeN vr
  repeat' split
  all_goals (simp only; omega)
theorem decode_valid (s : ByteArray) (i : Nat) : vr (Utf8.decode s i).1 := by
  rw [Lib.decode_at]; exact decodeN_valid _ _ _ _ _ (s.get! i).toNat_lt

/-- What encode writes, a width at a time. -/
def encN (c : Nat) : List Nat :=
  if c < 128 then [c] else if c < 2048 then [192 + c / 64, 128 + c % 64] else if c < 65536 then [224 + c / 4096, 128 + c / 64 % 64, 128 + c % 64]
  else [240 + c / 262144, 128 + c / 4096 % 64, 128 + c / 64 % 64, 128 + c % 64]
theorem encode_list (c : Nat) (h : vr c) : (Utf8.encode (c : Int)).data.toList = (encN c).map UInt8.ofNat := by
  have hv : Utf8.valid (c : Int) = true := by
    unfold Utf8.valid; unfold vr at h
    simp only [Bool.or_eq_true, Bool.and_eq_true, decide_eq_true_eq]; omega
  unfold Utf8.encode encN
  simp only [hv, if_true, Int.toNat_natCast]
  by_cases h1 : c < 128
  · rw [if_pos h1, if_pos h1]; simp only [List.map_cons, List.map_nil]
  · rw [if_neg h1, if_neg h1]
    by_cases h2 : c < 2048
    · rw [if_pos h2, if_pos h2]; simp only [List.map_cons, List.map_nil]
    · rw [if_neg h2, if_neg h2]
      by_cases h3 : c < 65536
      · rw [if_pos h3, if_pos h3]; simp only [List.map_cons, List.map_nil]
      · rw [if_neg h3, if_neg h3]; simp only [List.map_cons, List.map_nil]
theorem encN_lt (c : Nat) (h : vr c) : ∀ x ∈ encN c, x < 256 := by
  unfold encN; unfold vr at h
  intro x hx
  split at hx
  · simp at hx; omega
  · split at hx
    · simp at hx; omega
    · split at hx
      · simp at hx; omega
      · simp at hx; omega
theorem size_list (s : ByteArray) : s.size = s.data.toList.length := by simp
theorem get_list (s : ByteArray) (j : Nat) (h : j < s.size) : s[j]'h = s.data.toList[j]'(by simpa using h) := rfl
theorem encode_size (c : Nat) (h : vr c) : (Utf8.encode (c : Int)).size = (encN c).length := by
  have := congrArg List.length (encode_list c h)
  rw [List.length_map] at this
  rw [← this, size_list]
theorem encN_len (c : Nat) : 1 ≤ (encN c).length ∧ (encN c).length ≤ 4 := by
  unfold encN; repeat' split
  all_goals simp
theorem get_of_list (s : ByteArray) (l : List UInt8) (e : s.data.toList = l) (j : Nat) (hj : j < l.length) : s.get! j = l[j] := by
  subst e
  rw [get_lt s j (by simpa using hj)]
  rfl
theorem encode_get (c : Nat) (h : vr c) (j : Nat) (hj : j < (encN c).length) : ((Utf8.encode (c : Int)).get! j).toNat = (encN c)[j] := by
  have e := get_of_list _ _ (encode_list c h) j (by simpa using hj)
  rw [e, List.getElem_map]
  rw [UInt8.toNat_ofNat_of_lt']
  exact encN_lt c h _ (List.getElem_mem _)

/-- What is encoded is decoded again, whatever stands behind it. -/
theorem decode_of (s : ByteArray) (c : Nat) (h : vr c) (hn : (encN c).length ≤ s.size) (g : ∀ j (hj : j < (encN c).length), (s.get! j).toNat = (encN c)[j]) : Utf8.decode s 0 = (c, (encN c).length) := by
  rw [Lib.decode_at]
  simp only [Nat.zero_add, Nat.sub_zero]
  generalize s.size = n at hn
  unfold vr at h
  have hcase : c < 128 ∨ (128 ≤ c ∧ c < 2048) ∨ (2048 ≤ c ∧ c < 65536) ∨ 65536 ≤ c := by omega
  rcases hcase with h1 | ⟨h1, h2⟩ | ⟨h1, h2⟩ | h1
  · have e : encN c = [c] := by unfold encN; rw [if_pos h1]
    simp only [e] at g ⊢
    rw [g 0 (by simp)]
    unfold Lib.decodeN; rw [if_pos (by simpa using h1)]; rfl
  · have e : encN c = [192 + c / 64, 128 + c % 64] := by unfold encN; rw [if_neg (by omega), if_pos h2]
    simp only [e] at g hn ⊢
    rw [g 0 (by simp), g 1 (by simp)]
    simp only [List.getElem_cons_zero, List.getElem_cons_succ, List.length_cons, List.length_nil] at hn ⊢
    unfold Lib.decodeN
    rw [if_neg (by omega), if_pos (by omega), if_pos (by omega)]
    simp only [Prod.mk.injEq]; exact ⟨by omega, trivial⟩
  · have e : encN c = [224 + c / 4096, 128 + c / 64 % 64, 128 + c % 64] := by unfold encN; rw [if_neg (by omega), if_neg (by omega), if_pos h2]
    simp only [e] at g hn ⊢
    rw [g 0 (by simp), g 1 (by simp), g 2 (by simp)]
    simp only [List.getElem_cons_zero, List.getElem_cons_succ, List.length_cons, List.length_nil] at hn ⊢
    unfold Lib.decodeN; rw [if_neg (by omega), if_neg (by omega), if_pos (by omega), if_pos (by omega)]
    simp only [Prod.mk.injEq]; exact ⟨by omega, trivial⟩
  · have e : encN c = [240 + c / 262144, 128 + c / 4096 % 64, 128 + c / 64 % 64, 128 + c % 64] := by unfold encN; rw [if_neg (by omega), if_neg (by omega), if_neg (by omega)]
    simp only [e] at g hn ⊢
    rw [g 0 (by simp), g 1 (by simp), g 2 (by simp), g 3 (by simp)]
    simp only [List.getElem_cons_zero, List.getElem_cons_succ, List.length_cons, List.length_nil] at hn ⊢
    unfold Lib.decodeN; rw [if_neg (by omega), if_neg (by omega), if_neg (by omega), if_pos (by omega), if_pos (by omega)]
    simp only [Prod.mk.injEq]; exact ⟨by omega, trivial⟩

theorem decode_encode (c : Nat) (h : vr c) (t : ByteArray) : Utf8.decode (Utf8.encode (c : Int) ++ t) 0 = (c, (encN c).length) := by
  have hs := encode_size c h
  have hg := encode_get c h
  generalize Utf8.encode (c : Int) = s at *
  refine decode_of _ c h (by rw [ByteArray.size_append]; omega) (fun j hj => ?_)
  rw [get_left _ _ _ (by omega)]; exact hg j hj

theorem runes_encode (c : Nat) (h : vr c) (t : ByteArray) : runes (Utf8.encode (c : Int) ++ t) = (c : Int) :: runes t := by
  have hs := encode_size c h
  have hl := encN_len c
  rw [← rest_zero, rest_cons _ 0 (by rw [ByteArray.size_append]; omega), decode_encode c h t]
  simp only [Nat.zero_add]
  have := rest_right (Utf8.encode (c : Int)) t _ 0 rfl
  rw [Nat.add_zero, hs] at this
  rw [this, rest_zero]
theorem rest_valid (s : ByteArray) : ∀ d p, s.size - p = d → ∀ r ∈ rest s p, ∃ c : Nat, r = (c : Int) ∧ vr c := by
  intro d
  induction d using Nat.strongRecOn with
  | _ d ih =>
    intro p hd r hr
    by_cases hp : p < s.size
    · have hw := Lib.decode_width_pos s p hp
      rw [rest_cons s p hp] at hr
      rcases List.mem_cons.1 hr with rfl | hr
      · exact ⟨_, rfl, decode_valid s p⟩
      · exact ih _ (by omega) _ rfl r hr
    · rw [rest_end s p hp] at hr; cases hr
theorem runes_valid (s : ByteArray) : ∀ r ∈ runes s, ∃ c : Nat, r = (c : Int) ∧ vr c := rest_valid s _ 0 rfl
theorem runes_all (l : List Int) (h : ∀ r ∈ l, ∃ c : Nat, r = (c : Int) ∧ vr c) (t : ByteArray) : runes (runesBytes l ++ t) = l ++ runes t := by
  induction l with
  | nil => rw [runesBytes_nil, ByteArray.empty_append]; rfl
  | cons r l ih =>
    obtain ⟨c, rfl, hc⟩ := h r List.mem_cons_self
    rw [runesBytes_cons, ByteArray.append_assoc, runes_encode c hc, ih (fun x hx => h x (List.mem_cons_of_mem _ hx))]
    rfl
theorem runes_empty : runes ByteArray.empty = [] := rfl

theorem extract_cons (s : ByteArray) (i n : Nat) (h : i < s.size) (hn : i < n) : (s.extract i n).data.toList = s.get! i :: (s.extract (i + 1) n).data.toList := by
  rw [get_lt s i h]
  simp only [ByteArray.data_extract, Array.toList_extract, List.extract_eq_take_drop]
  rw [List.drop_eq_getElem_cons (by simpa using h), show n - i = (n - (i + 1)) + 1 by omega, List.take_succ_cons]
  rfl
theorem extract_nil (s : ByteArray) (i : Nat) : (s.extract i i).data.toList = [] := by
  simp

/-- Where a place is UTF-8, its bytes are its rune's. -/
theorem extract_rune (s : ByteArray) (i : Nat) (h : i < s.size) (hb : badB (Utf8.decode s i) = false) : i + (Utf8.decode s i).2 ≤ s.size ∧ s.extract i (i + (Utf8.decode s i).2) = Utf8.encode ((Utf8.decode s i).1 : Int) := by
  have hv := decode_valid s i
  have hel := encode_list _ hv
  have l0 := (s.get! i).toNat_lt
  have l1 := (s.get! (i + 1)).toNat_lt
  have l2 := (s.get! (i + 2)).toNat_lt
  have l3 := (s.get! (i + 3)).toNat_lt
  have fin : ∀ (l : List Nat), (s.extract i (i + (Utf8.decode s i).2)).data.toList.map UInt8.toNat = l → encN (Utf8.decode s i).1 = l → s.extract i (i + (Utf8.decode s i).2) = Utf8.encode ((Utf8.decode s i).1 : Int) := by
    intro l h1 h2
    apply Go.WideShapes.bytes_inj
    rw [hel, h2, ← h1, List.map_map]
    conv => lhs; rw [← List.map_id (s.extract i (i + (Utf8.decode s i).2)).data.toList]
    apply List.map_congr_left
    intro x _
    simp
  have hd := Lib.decode_at s i
  unfold badB at hb
  have hb : ¬ ((Utf8.decode s i).1 = 65533 ∧ (Utf8.decode s i).2 = 1) := by simpa using hb
  unfold Lib.decodeN at hd
  split at hd
  · rename_i c0
    rw [hd] at fin ⊢
    refine ⟨by simp only; omega, fin [(s.get! i).toNat] ?_ ?_⟩
    · simp only; rw [extract_cons s i (i + 1) h (by omega), extract_nil]; rfl
    · simp only; unfold encN; rw [if_pos c0]
  · split at hd
    · rename_i c0 c1
      split at hd
      · rename_i c2
        rw [hd] at fin ⊢
        refine ⟨by simp only; omega, fin [(s.get! i).toNat, (s.get! (i + 1)).toNat] ?_ ?_⟩
        · simp only; rw [extract_cons s i (i + 2) h (by omega), extract_cons s (i + 1) (i + 2) (by omega) (by omega), extract_nil]; rfl
        · simp only; unfold encN; rw [if_neg (by omega), if_pos (by omega)]; simp only [List.cons.injEq, and_true]; omega
      · rw [hd] at hb; exact absurd ⟨rfl, rfl⟩ hb
    · split at hd
      · rename_i c0 c1 c1'
        split at hd
        · rename_i c2
          rw [hd] at fin ⊢
          refine ⟨by simp only; omega, fin [(s.get! i).toNat, (s.get! (i + 1)).toNat, (s.get! (i + 2)).toNat] ?_ ?_⟩
          · simp only; rw [extract_cons s i (i + 3) h (by omega), extract_cons s (i + 1) (i + 3) (by omega) (by omega), extract_cons s (i + 1 + 1) (i + 3) (by omega) (by omega), extract_nil]; rfl
          · simp only; unfold encN; rw [if_neg (by omega), if_neg (by omega), if_pos (by omega)]; simp only [List.cons.injEq, and_true]; omega
        · rw [hd] at hb; exact absurd ⟨rfl, rfl⟩ hb
      · split at hd
        · rename_i c0 c1 c1' c1''
          split at hd
          · rename_i c2
            rw [hd] at fin ⊢
            refine ⟨by simp only; omega, fin [(s.get! i).toNat, (s.get! (i + 1)).toNat, (s.get! (i + 2)).toNat, (s.get! (i + 3)).toNat] ?_ ?_⟩
            · simp only; rw [extract_cons s i (i + 4) h (by omega), extract_cons s (i + 1) (i + 4) (by omega) (by omega), extract_cons s (i + 1 + 1) (i + 4) (by omega) (by omega), extract_cons s (i + 1 + 1 + 1) (i + 4) (by omega) (by omega), extract_nil]; rfl
            · simp only; unfold encN; rw [if_neg (by omega), if_neg (by omega), if_neg (by omega)]; simp only [List.cons.injEq, and_true]; omega
          · rw [hd] at hb; exact absurd ⟨rfl, rfl⟩ hb
        · rw [hd] at hb; exact absurd ⟨rfl, rfl⟩ hb
end Go.Proofs.Ytfhoaakgpkgnfaa.Pure
