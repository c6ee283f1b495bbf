/- What kin's functions tell, in plain Lean: who is a class, a class's super, its chain; a tree without a fault has chains that end.
   Conditions: at most a million classes. -/
import Derived.Test.YtddggdhkhfephaaQx3
import Derived.Lib.Strings
import Derived.IntWalk
namespace Go.Proofs.Ytddggdhkhfephaa.Pure
open Go Go.RowKit Go.Proofs.Ytddggdhkhfephaa Go.Proofs.Ytddggdhkhfephaa.Q Go.Proofs.YtddggdhkhfephaaW.PrintWords Go.Proofs.YtddggdhkhfephaaW.PrintLast

theorem list_inj {a b : ByteArray} : a.toList = b.toList ↔ a = b := by
  constructor
  · intro h
    rw [ByteArray.toList_eq, ByteArray.toList_eq] at h
    exact ByteArray.ext (Array.toList_inj.1 h)
  · rintro rfl; rfl
theorem list_nil {a : ByteArray} : a.toList = ([] : List UInt8) ↔ a = ⟨#[]⟩ := by
  rw [← list_inj, show (⟨#[]⟩ : ByteArray).toList = [] by rw [ByteArray.toList_eq]]

instance byteDec : DecidableEq ByteArray := fun _ _ => decidable_of_iff _ list_inj
instance byteMem (a : ByteArray) (l : List ByteArray) : Decidable (a ∈ l) := @List.instDecidableMemOfLawfulBEq _ instBEqOfDecidableEq inferInstance a l

theorem nodup_le {α : Type} [DecidableEq α] : ∀ (l m : List α), l.Nodup → (∀ x ∈ l, x ∈ m) → l.length ≤ m.length
  | [], m, _, _ => by simp
  | a :: l, m, hn, hs => by
    have ha : a ∈ m := hs a (by simp)
    have hn' := List.nodup_cons.1 hn
    have := nodup_le l (m.erase a) hn'.2 (fun x hx => (List.mem_erase_of_ne (by rintro rfl; exact hn'.1 hx)).2 (hs x (by simp [hx])))
    rw [List.length_erase_of_mem ha] at this
    have hp := List.length_pos_of_mem ha
    simp only [List.length_cons]; omega

/-! ### slices.Contains, Base -/
theorem index_ev (l : List ByteArray) (a : ByteArray) (hl : l.length ≤ 1000000000) : ∀ m i : Nat, i + m = l.length →
    ∃ r : Int, Ev (fun k => slices_Index_string_string.l0 k l a (l.length : Int) (i : Int)) r ∧ (0 ≤ r ↔ a ∈ l.drop i)
  | 0, i, h => by
    refine ⟨-1, Ev.step (f := fun _ => some (-1)) (fun k => by simp only [slices_Index_string_string.l0]; rw [if_neg (by omega)]) (Ev.now _), ?_⟩
    rw [List.drop_of_length_le (by omega)]; simp
  | m + 1, i, h => by
    have hi : i < l.length := by omega
    have hd : l.drop i = l[i] :: l.drop (i + 1) := List.drop_eq_getElem_cons hi
    have hr : rdOf ByteArray.empty l (i : Int) = l[i] := by unfold rdOf; rw [Int.toNat_natCast, List.getD_eq_getElem?_getD, List.getElem?_eq_getElem hi]; rfl
    by_cases e : a = l[i]
    · refine ⟨(i : Int), Ev.step (f := fun _ => some (i : Int)) (fun k => by simp only [slices_Index_string_string.l0]; rw [if_pos (by omega), if_pos (by omega), if_pos (by omega), hr, if_pos (by rw [e])]) (Ev.now _), ?_⟩
      rw [hd, ← e]; simp
    · obtain ⟨r, hr1, hr2⟩ := index_ev l a hl m (i + 1) (by omega)
      refine ⟨r, Ev.step (f := fun k => slices_Index_string_string.l0 k l a (l.length : Int) ((i + 1 : Nat) : Int)) (fun k => ?_) hr1, ?_⟩
      · simp only [slices_Index_string_string.l0]
        rw [if_pos (by omega), if_pos (by omega), if_pos (by omega), hr, if_neg (by rw [list_inj]; exact e), IntWalk.wrap64_in _ (by omega)]; rfl
      · rw [hr2, hd, List.mem_cons]; exact ⟨.inr, fun h => h.resolve_left e⟩
theorem contains_ev (l : List ByteArray) (a : ByteArray) (hl : l.length ≤ 1000000000) : Ev (fun k => slices_Contains_string_string.f k l a) (decide (a ∈ l)) := by
  obtain ⟨r, h1, h2⟩ := index_ev l a hl l.length 0 (by omega)
  refine Ev.bind (g := fun k => slices_Index_string_string.f k l a) (f := fun _ t => some (decide (t ≥ 0))) h1 ?_
  refine Ev.congr (fun k => ?_) (Ev.now _)
  congr 1
  exact decide_eq_decide.2 (by simpa using h2)

def BS : List ByteArray := [(⟨#[69, 120, 99, 101, 112, 116, 105, 111, 110]⟩ : ByteArray), (⟨#[78, 117, 108, 108, 70, 97, 117, 108, 116]⟩ : ByteArray), (⟨#[67, 97, 115, 116, 70, 97, 117, 108, 116]⟩ : ByteArray), (⟨#[90, 101, 114, 111, 70, 97, 117, 108, 116]⟩ : ByteArray), (⟨#[82, 97, 110, 103, 101, 70, 97, 117, 108, 116]⟩ : ByteArray)]
def EXC : ByteArray := ⟨#[69, 120, 99, 101, 112, 116, 105, 111, 110]⟩
def NIL : ByteArray := ⟨#[]⟩
def NULL : ByteArray := ⟨#[110, 117, 108, 108]⟩
theorem base_ev (a : ByteArray) : Ev (fun k => kin_Base.f k a) (decide (a ∈ BS)) :=
  Ev.bind (g := fun k => slices_Contains_string_string.f k BS a) (f := fun _ t => some t) (contains_ev BS a (by decide)) (Ev.now _)

/-! ### Find, Is, Super -/
theorem ixZ_spec (p : S34 → Bool) : ∀ (l : List S34) (i : Int), (ixZ p l i = -1 ∧ ∀ x ∈ l, p x = false) ∨ (∃ j : Nat, ∃ h : j < l.length, ixZ p l i = i + j ∧ p l[j] = true ∧ ∀ (j' : Nat) (h' : j' < j), p (l[j']'(by omega)) = false)
  | [], i => .inl ⟨rfl, by simp⟩
  | x :: l, i => by
    by_cases hx : p x = true
    · exact .inr ⟨0, by simp, by simp [ixZ, hx], by simpa using hx, by omega⟩
    · have hx' : p x = false := by simpa using hx
      rcases ixZ_spec p l (i + 1) with ⟨h1, h2⟩ | ⟨j, hj, h1, h2, h3⟩
      · exact .inl ⟨by simp [ixZ, hx', h1], by simpa [hx'] using h2⟩
      · refine .inr ⟨j + 1, by simpa using hj, by simp only [ixZ, hx', h1, Bool.false_eq_true, if_false]; push_cast; omega, by simpa using h2, ?_⟩
        intro j' h'
        cases j' with
        | zero => simpa using hx'
        | succ j' => simpa using h3 j' (by omega)
def fi (l : List S34) (a : ByteArray) : Int := ixZ (fun x => x.f0.toList == a.toList) l 0
theorem fi_spec (l : List S34) (a : ByteArray) : (fi l a = -1 ∧ ∀ x ∈ l, x.f0 ≠ a) ∨ (∃ j : Nat, ∃ h : j < l.length, fi l a = j ∧ (l[j]).f0 = a ∧ ∀ (j' : Nat) (h' : j' < j), (l[j']'(by omega)).f0 ≠ a) := by
  rcases ixZ_spec (fun x => x.f0.toList == a.toList) l 0 with ⟨h1, h2⟩ | ⟨j, hj, h1, h2, h3⟩
  · refine .inl ⟨h1, fun x hx e => ?_⟩
    have := h2 x hx; simp [e] at this
  · refine .inr ⟨j, hj, by unfold fi; rw [h1]; omega, list_inj.1 (by simpa using h2), fun j' h' e => ?_⟩
    have := h3 j' h'; simp [e] at this
theorem fi_mem {l : List S34} {a : ByteArray} (h : 0 ≤ fi l a) : ∃ j : Nat, ∃ h : j < l.length, fi l a = j ∧ (l[j]).f0 = a := by
  rcases fi_spec l a with ⟨h1, _⟩ | ⟨j, hj, h1, h2, _⟩
  · omega
  · exact ⟨j, hj, h1, h2⟩
theorem mem_fi {l : List S34} {x : S34} (h : x ∈ l) : 0 ≤ fi l x.f0 := by
  rcases fi_spec l x.f0 with ⟨_, h2⟩ | ⟨j, hj, h1, _, _⟩
  · exact absurd rfl (h2 x h)
  · omega
def SM (l : List S34) : Prop := l.length ≤ 1000000
theorem find_eq (l : List S34) (a : ByteArray) (hl : SM l) : kin_Find.f l a = some (fi l a) := by
  unfold kin_Find.f; rw [if_pos (by unfold SM at hl; omega)]; rfl
def isB (l : List S34) (a : ByteArray) : Bool := decide (a ∈ BS) || decide (0 ≤ fi l a)
theorem is_ev (l : List S34) (a : ByteArray) (hl : SM l) : Ev (fun k => kin_Is.f k l a) (isB l a) := by
  refine Ev.bind (g := fun k => kin_Base.f k a) (f := fun _ t123 => if t123 = true then some true else (kin_Find.f l a).bind fun t124 => some (decide (t124 ≥ 0))) (base_ev a) ?_
  refine Ev.congr (fun k => ?_) (Ev.now _)
  rw [find_eq l a hl, Option.bind_some]
  unfold isB
  by_cases h : a ∈ BS <;> simp [h]
def sup (l : List S34) (a : ByteArray) : ByteArray := if a ∈ BS then (if a = EXC then NIL else EXC) else if fi l a < 0 then NIL else (rd_T34 l (fi l a)).f1
theorem super_ev (l : List S34) (a : ByteArray) (hl : SM l) : Ev (fun k => kin_Super.f k l a) (sup l a) := by
  refine Ev.bind (g := fun k => kin_Base.f k a) (f := fun _ t119 => (if t119 = true then (if a.toList = ([69, 120, 99, 101, 112, 116, 105, 111, 110] : List UInt8) then (some (⟨#[]⟩ : ByteArray)) else (some (⟨#[69, 120, 99, 101, 112, 116, 105, 111, 110]⟩ : ByteArray))) else ((kin_Find.f l a).bind fun t120 => (if t120 < 0 then (some (⟨#[]⟩ : ByteArray)) else (if 0 ≤ t120 then (if t120 < (l.length : Int) then (some ((rd_T34 l t120).f1)) else (none)) else (none)))))) (base_ev a) ?_
  refine Ev.congr (fun k => ?_) (Ev.now _)
  rw [find_eq l a hl, Option.bind_some]
  unfold sup
  by_cases h : a ∈ BS
  · rw [if_pos (by simpa using h), if_pos h]
    by_cases e : a = EXC
    · rw [if_pos (by rw [e, ByteArray.toList_eq]; rfl), if_pos e]; rfl
    · rw [if_neg (fun e' => e (list_inj.1 (e'.trans (by rw [ByteArray.toList_eq]; rfl)))), if_neg e]; rfl
  · rw [if_neg (by simpa using h), if_neg h]
    rcases fi_spec l a with ⟨h1, _⟩ | ⟨j, hj, h1, _, _⟩
    · rw [if_pos (by omega), if_pos (by omega)]; rfl
    · rw [if_neg (by omega), if_pos (by omega), if_pos (by omega), if_neg (by omega)]

/-! ### Chain -/
def chG (l : List S34) : Nat → ByteArray → List ByteArray → List ByteArray
  | 0, _, acc => acc
  | n + 1, a, acc => if isB l a = true then (if a ∈ acc then acc else chG l n (sup l a) (acc ++ [a])) else acc
def ch (l : List S34) (a : ByteArray) : List ByteArray := chG l (l.length + 6) a []
theorem is_name {l : List S34} {a : ByteArray} (h : isB l a = true) : a ∈ BS ++ l.map (·.f0) := by
  unfold isB at h
  rw [List.mem_append]
  rcases Bool.or_eq_true_iff.1 h with h | h
  · exact .inl (by simpa using h)
  · obtain ⟨j, hj, _, e⟩ := fi_mem (by simpa using h)
    exact .inr (List.mem_map.2 ⟨l[j], List.getElem_mem hj, e⟩)
theorem room {l : List S34} {acc : List ByteArray} (hn : acc.Nodup) (hs : ∀ x ∈ acc, isB l x = true) : acc.length ≤ l.length + 5 := by
  have := nodup_le acc (BS ++ l.map (·.f0)) hn (fun x hx => is_name (hs x hx))
  rw [List.length_append, List.length_map] at this
  have e : BS.length = 5 := rfl
  omega
theorem nodup_snoc {acc : List ByteArray} {a : ByteArray} (hn : acc.Nodup) (ha : a ∉ acc) : (acc ++ [a]).Nodup := by
  rw [List.nodup_append]; exact ⟨hn, by simp, by rintro x hx y hy rfl; simp at hy; exact ha (hy ▸ hx)⟩
theorem chain_go (l : List S34) (hl : SM l) : ∀ (n : Nat) (a : ByteArray) (acc : List ByteArray), acc.Nodup → (∀ x ∈ acc, isB l x = true) → acc.length + n = l.length + 6 →
    Ev (fun k => kin_Chain.l0 k a acc l) (chG l n a acc)
  | 0, a, acc, hn, hs, he => by have := room hn hs; omega
  | n + 1, a, acc, hn, hs, he => by
    refine Ev.step (f := fun k => (kin_Is.f k l a).bind fun t126 => (if t126 = true then ((slices_Contains_string_string.f k acc a).bind fun t127 => (if t127 = true then (some acc) else (if acc.length < 8796093022208 then ((kin_Super.f k l a).bind fun t131 => (kin_Chain.l0 k t131 (acc ++ [a]) l)) else (none)))) else (some acc))) (fun k => by simp only [kin_Chain.l0]) ?_
    refine Ev.bind (g := fun k => kin_Is.f k l a) (f := fun k t126 => (if t126 = true then ((slices_Contains_string_string.f k acc a).bind fun t127 => (if t127 = true then (some acc) else (if acc.length < 8796093022208 then ((kin_Super.f k l a).bind fun t131 => (kin_Chain.l0 k t131 (acc ++ [a]) l)) else (none)))) else (some acc))) (is_ev l a hl) ?_
    rw [chG]
    have hlen := room hn hs
    have hlen2 : acc.length ≤ 1000005 := by unfold SM at hl; omega
    by_cases hi : isB l a = true
    · rw [if_pos hi]
      refine Ev.congr (f := fun k => ((slices_Contains_string_string.f k acc a).bind fun t127 => (if t127 = true then (some acc) else (if acc.length < 8796093022208 then ((kin_Super.f k l a).bind fun t131 => (kin_Chain.l0 k t131 (acc ++ [a]) l)) else (none))))) (fun k => if_pos hi) ?_
      refine Ev.bind (g := fun k => slices_Contains_string_string.f k acc a) (f := fun k t127 => (if t127 = true then (some acc) else (if acc.length < 8796093022208 then ((kin_Super.f k l a).bind fun t131 => (kin_Chain.l0 k t131 (acc ++ [a]) l)) else (none)))) (contains_ev acc a (by omega)) ?_
      by_cases hc : a ∈ acc
      · rw [if_pos hc]
        exact Ev.congr (fun k => if_pos (by simpa using hc)) (Ev.now _)
      · rw [if_neg hc]
        refine Ev.congr (f := fun k => (kin_Super.f k l a).bind fun t131 => (kin_Chain.l0 k t131 (acc ++ [a]) l)) (fun k => by rw [if_neg (by simpa using hc), if_pos (by omega)]) ?_
        refine Ev.bind (g := fun k => kin_Super.f k l a) (f := fun k t131 => kin_Chain.l0 k t131 (acc ++ [a]) l) (super_ev l a hl) ?_
        exact chain_go l hl n (sup l a) (acc ++ [a]) (nodup_snoc hn hc) (fun x hx => by rcases List.mem_append.1 hx with h | h; exact hs x h; simp at h; exact h ▸ hi) (by simp; omega)
    · rw [if_neg hi]
      exact Ev.congr (fun k => if_neg hi) (Ev.now _)
theorem chain_ev (l : List S34) (a : ByteArray) (hl : SM l) : Ev (fun k => kin_Chain.f k l a) (ch l a) :=
  chain_go l hl (l.length + 6) a [] (by simp) (by simp) (by simp)

/-- From a up, through T, to z. -/
inductive Walk (l : List S34) : ByteArray → List ByteArray → ByteArray → Prop
  | here (a : ByteArray) : Walk l a [] a
  | up {a z : ByteArray} {T : List ByteArray} : isB l a = true → Walk l (sup l a) T z → Walk l a (a :: T) z
theorem chG_walk (l : List S34) : ∀ (n : Nat) (a : ByteArray) (acc : List ByteArray), acc.Nodup → (∀ x ∈ acc, isB l x = true) → acc.length + n = l.length + 6 →
    ∃ T z, chG l n a acc = acc ++ T ∧ Walk l a T z ∧ (isB l z = false ∨ z ∈ acc ++ T) ∧ (acc ++ T).Nodup
  | 0, a, acc, hn, hs, he => by have := room hn hs; omega
  | n + 1, a, acc, hn, hs, he => by
    rw [chG]
    by_cases hi : isB l a = true
    · rw [if_pos hi]
      by_cases hc : a ∈ acc
      · rw [if_pos hc]
        exact ⟨[], a, by simp, .here a, .inr (by simpa using hc), by simpa using hn⟩
      · rw [if_neg hc]
        obtain ⟨T, z, h1, h2, h3, h4⟩ := chG_walk l n (sup l a) (acc ++ [a]) (nodup_snoc hn hc) (fun x hx => by rcases List.mem_append.1 hx with h | h; exact hs x h; simp at h; exact h ▸ hi) (by simp; omega)
        have e : acc ++ [a] ++ T = acc ++ a :: T := by simp
        rw [e] at h1 h3 h4
        exact ⟨a :: T, z, h1, .up hi h2, h3, h4⟩
    · rw [if_neg hi]
      exact ⟨[], a, by simp, .here a, .inl (by simpa using hi), by simpa using hn⟩
theorem ch_walk (l : List S34) (a : ByteArray) : ∃ z, Walk l a (ch l a) z ∧ (isB l z = false ∨ z ∈ ch l a) ∧ (ch l a).Nodup := by
  obtain ⟨T, z, h1, h2, h3, h4⟩ := chG_walk l (l.length + 6) a [] (by simp) (by simp) (by simp)
  rw [List.nil_append] at h1 h3 h4
  unfold ch; rw [h1]
  exact ⟨z, h2, h3, h4⟩
theorem Walk.all {l : List S34} {a z : ByteArray} {T : List ByteArray} (h : Walk l a T z) : ∀ x ∈ T, isB l x = true := by
  induction h with
  | here => simp
  | up hi _ ih => intro x hx; rcases List.mem_cons.1 hx with rfl | hx; exact hi; exact ih x hx
theorem Walk.last {l : List S34} {a z : ByteArray} {T : List ByteArray} (h : Walk l a T z) (hT : T ≠ []) : sup l (rdOf ByteArray.empty T ((T.length : Int) - 1)) = z := by
  induction h with
  | here => exact absurd rfl hT
  | @up a z T hi hw ih =>
    cases T with
    | nil => cases hw; rfl
    | cons b T =>
      rw [← ih (by simp)]
      congr 1
      unfold rdOf
      have e1 : (((a :: b :: T).length : Int) - 1).toNat = T.length + 1 := by simp
      have e2 : (((b :: T).length : Int) - 1).toNat = T.length := by simp
      rw [e1, e2]; rfl
theorem Walk.det {l : List S34} {a z z' : ByteArray} {T T' : List ByteArray} (h : Walk l a T z) (hz : isB l z = false) (h' : Walk l a T' z') (hz' : isB l z' = false) : T = T' ∧ z = z' := by
  induction h generalizing T' with
  | here a =>
    cases h' with
    | here => exact ⟨rfl, rfl⟩
    | up hi _ => rw [hz] at hi; cases hi
  | up hi hw ih =>
    cases h' with
    | here => rw [hz'] at hi; cases hi
    | up hi' hw' =>
      obtain ⟨e1, e2⟩ := ih hz hw'
      exact ⟨by rw [e1], e2⟩
theorem Walk.mem {l : List S34} {a z y : ByteArray} {T : List ByteArray} (h : Walk l a T z) (hy : y ∈ T) : ∃ T1 T2, T = T1 ++ y :: T2 ∧ Walk l y (y :: T2) z := by
  induction h with
  | here => cases hy
  | @up a z T hi hw ih =>
    by_cases e : y = a
    · subst e; exact ⟨[], T, rfl, .up hi hw⟩
    · obtain ⟨T1, T2, e1, h2⟩ := ih (by rcases List.mem_cons.1 hy with h | h; exact absurd h e; exact h)
      exact ⟨a :: T1, T2, by rw [e1]; rfl, h2⟩
theorem Walk.head {l : List S34} {a z : ByteArray} {T : List ByteArray} (h : Walk l a T z) (hi : isB l a = true) (hz : isB l z = false) : ∃ T', T = a :: T' := by
  cases h with
  | here => rw [hi] at hz; cases hz
  | up _ _ => exact ⟨_, rfl⟩

/-- Every chain ends at a name that is none. -/
def Good (l : List S34) : Prop := ∀ x, isB l x = true → ∃ z, Walk l x (ch l x) z ∧ isB l z = false
theorem ch_self {l : List S34} {x : ByteArray} (h : isB l x = true) : x ∈ ch l x := by
  unfold ch
  rw [show l.length + 6 = (l.length + 5) + 1 from rfl, chG, if_pos h, if_neg (by simp)]
  have : ∀ n a acc, x ∈ acc → x ∈ chG l n a acc := by
    intro n
    induction n with
    | zero => intro a acc h; exact h
    | succ n ih =>
      intro a acc h; rw [chG]; split
      · split
        · exact h
        · exact ih _ _ (List.mem_append.2 (.inl h))
      · exact h
  exact this _ _ _ (by simp)
theorem Good.part {l : List S34} (g : Good l) {x y : ByteArray} (hx : isB l x = true) (hy : y ∈ ch l x) : ∃ T1, ch l x = T1 ++ ch l y := by
  obtain ⟨z, hw, hz⟩ := g x hx
  obtain ⟨T1, T2, e, h2⟩ := hw.mem hy
  obtain ⟨z', hw', hz'⟩ := g y (hw.all y hy)
  obtain ⟨e1, _⟩ := h2.det hz hw' hz'
  exact ⟨T1, by rw [e, e1]⟩
theorem Good.trans {l : List S34} (g : Good l) {x y z : ByteArray} (hx : isB l x = true) (hy : y ∈ ch l x) (hz : z ∈ ch l y) : z ∈ ch l x := by
  obtain ⟨T1, e⟩ := g.part hx hy
  rw [e]; exact List.mem_append.2 (.inr hz)
theorem Good.anti {l : List S34} (g : Good l) {x y : ByteArray} (hx : isB l x = true) (hy : y ∈ ch l x) (hb : x ∈ ch l y) : x = y := by
  obtain ⟨z, hw, hz⟩ := g x hx
  have hyb := hw.all y hy
  obtain ⟨z', hw', hz'⟩ := g y hyb
  obtain ⟨T1, e1⟩ := g.part hx hy
  obtain ⟨T2, e2⟩ := g.part hyb hb
  have l1 := congrArg List.length e1
  have l2 := congrArg List.length e2
  rw [List.length_append] at l1 l2
  have : T1 = [] := List.eq_nil_of_length_eq_zero (by omega)
  rw [this, List.nil_append] at e1
  obtain ⟨U, eU⟩ := hw.head hx hz
  obtain ⟨V, eV⟩ := hw'.head hyb hz'
  rw [eU, eV] at e1
  exact (List.cons.inj e1).1

/-! ### Type, Sub -/
theorem type_ev (l : List S34) (a : ByteArray) (hl : SM l) (h : isB l a = true) : Ev (fun k => kin_Type.f k l a) true := by
  refine Ev.congr (f := fun k => kin_Type.f k l a) (fun _ => rfl) ?_
  by_cases h1 : a.toList = ([105, 110, 116] : List UInt8)
  · exact Ev.congr (fun k => by unfold kin_Type.f; rw [if_pos h1]) (Ev.now _)
  by_cases h2 : a.toList = ([98, 111, 111, 108, 101, 97, 110] : List UInt8)
  · exact Ev.congr (fun k => by unfold kin_Type.f; rw [if_neg h1, if_pos h2]) (Ev.now _)
  by_cases h3 : a.toList = ([83, 116, 114, 105, 110, 103] : List UInt8)
  · exact Ev.congr (fun k => by unfold kin_Type.f; rw [if_neg h1, if_neg h2, if_pos h3]) (Ev.now _)
  refine Ev.congr (f := fun k => (kin_Is.f k l a).bind fun t133 => some t133) (fun k => by unfold kin_Type.f; rw [if_neg h1, if_neg h2, if_neg h3]) ?_
  rw [← h]
  exact Ev.bind (f := fun _ t => some t) (is_ev l a hl) (Ev.now _)
theorem sub_ev (l : List S34) (a b : ByteArray) (hl : SM l) (h : isB l a = true) (hn : a ≠ NULL) : Ev (fun k => kin_Sub.f k l a b) (decide (b ∈ ch l a)) := by
  have hn' : ¬ a.toList = ([110, 117, 108, 108] : List UInt8) := fun e => hn (list_inj.1 (e.trans (by rw [ByteArray.toList_eq]; rfl)))
  by_cases e : a = b
  · subst e
    rw [decide_eq_true (ch_self h)]
    refine Ev.congr (f := fun k => (kin_Type.f k l a).bind fun t135 => some t135) (fun k => by unfold kin_Sub.f; rw [if_pos rfl, if_neg hn']) ?_
    exact Ev.bind (f := fun _ t => some t) (type_ev l a hl h) (Ev.now _)
  · have e' : ¬ a.toList = b.toList := fun h => e (list_inj.1 h)
    refine Ev.congr (f := fun k => (kin_Is.f k l a).bind fun t137 => (if t137 = true then ((kin_Chain.f k l a).bind fun t138 => ((slices_Contains_string_string.f k t138 b).bind fun t141 => (some t141))) else (some false))) (fun k => by unfold kin_Sub.f; rw [if_neg e', if_neg hn']) ?_
    refine Ev.bind (f := fun k t137 => (if t137 = true then ((kin_Chain.f k l a).bind fun t138 => ((slices_Contains_string_string.f k t138 b).bind fun t141 => (some t141))) else (some false))) (is_ev l a hl) ?_
    refine Ev.congr (f := fun k => ((kin_Chain.f k l a).bind fun t138 => ((slices_Contains_string_string.f k t138 b).bind fun t141 => (some t141)))) (fun k => if_pos h) ?_
    refine Ev.bind (f := fun k t138 => ((slices_Contains_string_string.f k t138 b).bind fun t141 => (some t141))) (chain_ev l a hl) ?_
    refine Ev.bind (f := fun k t141 => some t141) (contains_ev (ch l a) b ?_) (Ev.now _)
    obtain ⟨z, hw, _, hnd⟩ := ch_walk l a
    have := room hnd hw.all
    unfold SM at hl; omega
theorem sub_null_ev (l : List S34) (b : ByteArray) (hl : SM l) (hn : b ≠ NULL) : Ev (fun k => kin_Sub.f k l (⟨#[110, 117, 108, 108]⟩ : ByteArray) b) (isB l b) := by
  have e' : ¬ (⟨#[110, 117, 108, 108]⟩ : ByteArray).toList = b.toList := fun h => hn (list_inj.1 h).symm
  refine Ev.congr (f := fun k => (kin_Is.f k l b).bind fun t136 => some t136) (fun k => by unfold kin_Sub.f; rw [if_neg e', if_pos (by rw [ByteArray.toList_eq])]) ?_
  exact Ev.bind (f := fun _ t => some t) (is_ev l b hl) (Ev.now _)
end Go.Proofs.Ytddggdhkhfephaa.Pure
