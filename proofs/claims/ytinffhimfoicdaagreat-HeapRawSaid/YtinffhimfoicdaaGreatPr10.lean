/- Texts of the claim, merged: KT, R6, R7, R8, KN, KO, KP, FA, Calc19, Calc20, HM, HN, HO, HQ, HR, HS, HT, Calc21, Calc22, HU, RD, Calc23. No conditions. -/
import Derived.Test.YtinffhimfoicdaaGreatPr1
import Derived.KernelRfl
import Derived.Test.YtinffhimfoicdaaGreatPr8
import Derived.Test.YtinffhimfoicdaaGreatPr9
/- Who is a class, a class's super, its chain: plain Lean over programs. No conditions. -/
namespace Go.Proofs.YtinffhimfoicdaaGreat
open Go Go.RowKit Go.Proofs.YtinffhimfoicdaaGreat.Calc
set_option linter.unusedVariables false
set_option linter.unusedSimpArgs false

theorem nodup_le {α : Type} [DecidableEq α] : ∀ (l m : List α), l.Nodup → (∀ x ∈ l, x ∈ m) → l.length ≤ m.length
  | [], m, _, _ => by simp
  | a :: l, m, hn, hs => by
    have ha : a ∈ m := hs a (by simp)
    have hn' := List.nodup_cons.1 hn
    have := nodup_le l (m.erase a) hn'.2 (fun x hx => (List.mem_erase_of_ne (by rintro rfl; exact hn'.1 hx)).2 (hs x (by simp [hx])))
    rw [List.length_erase_of_mem ha] at this
    have hp := List.length_pos_of_mem ha
    simp only [List.length_cons]; omega
def BS : List ByteArray := [(⟨#[69, 120, 99, 101, 112, 116, 105, 111, 110]⟩ : ByteArray), (⟨#[78, 117, 108, 108, 70, 97, 117, 108, 116]⟩ : ByteArray), (⟨#[67, 97, 115, 116, 70, 97, 117, 108, 116]⟩ : ByteArray), (⟨#[90, 101, 114, 111, 70, 97, 117, 108, 116]⟩ : ByteArray), (⟨#[82, 97, 110, 103, 101, 70, 97, 117, 108, 116]⟩ : ByteArray)]
def EXC : ByteArray := ⟨#[69, 120, 99, 101, 112, 116, 105, 111, 110]⟩
def NIL : ByteArray := ⟨#[]⟩
def NULL : ByteArray := ⟨#[110, 117, 108, 108]⟩
/-- Is a string in a row? -/
def inS (l : List ByteArray) (s : ByteArray) : Bool := l.any fun x => decide (x = s)
theorem inS_iff {l : List ByteArray} {s : ByteArray} : inS l s = true ↔ s ∈ l := by
  simp [inS]
theorem inS_false {l : List ByteArray} {s : ByteArray} : inS l s = false ↔ s ∉ l := by
  rw [← inS_iff]; simp
theorem findI_spec (p : List Cl) (a : ByteArray) : (findI p a = -1 ∧ ∀ x ∈ p, x.name ≠ a) ∨ (∃ j : Nat, ∃ h : j < p.length, findI p a = j ∧ (p[j]).name = a ∧ ∀ (j' : Nat) (h' : j' < j), (p[j']'(by omega)).name ≠ a) := by
  unfold findI
  cases h : p.findIdx? (fun c => decide (c.name = a)) with
  | none =>
    refine .inl ⟨rfl, fun x hx e => ?_⟩
    have := List.findIdx?_eq_none_iff.1 h x hx
    simp [e] at this
  | some j =>
    obtain ⟨hj, h1, h2⟩ := List.findIdx?_eq_some_iff_getElem.1 h
    exact .inr ⟨j, hj, rfl, by simpa using h1, fun j' h' => by simpa using h2 j' h'⟩
theorem findI_at {p : List Cl} {a : ByteArray} {k : Nat} {c : Cl} (hc : p[k]? = some c) (hn : c.name = a) (hpre : ∀ (i : Nat) (c' : Cl), i < k → p[i]? = some c' → c'.name ≠ a) : findI p a = k := by
  obtain ⟨hk, rfl⟩ := List.getElem?_eq_some_iff.1 hc
  rcases findI_spec p a with ⟨_, h⟩ | ⟨j, hj, h1, h2, h3⟩
  · exact absurd hn (h _ (List.getElem_mem hk))
  · rw [h1]
    rcases Nat.lt_trichotomy j k with h | h | h
    · exact absurd h2 (hpre j _ h (List.getElem?_eq_getElem hj))
    · rw [h]
    · exact absurd hn (h3 k h)
theorem findI_none {p : List Cl} {a : ByteArray} (hpre : ∀ (i : Nat) (c' : Cl), p[i]? = some c' → c'.name ≠ a) : findI p a = -1 := by
  rcases findI_spec p a with ⟨h, _⟩ | ⟨j, hj, h1, h2, h3⟩
  · exact h
  · exact absurd h2 (hpre j _ (List.getElem?_eq_getElem hj))
theorem fi_mem {p : List Cl} {a : ByteArray} (h : 0 ≤ findI p a) : ∃ j : Nat, ∃ h : j < p.length, findI p a = j ∧ (p[j]).name = a := by
  rcases findI_spec p a with ⟨h1, _⟩ | ⟨j, hj, h1, h2, _⟩
  · omega
  · exact ⟨j, hj, h1, h2⟩
theorem mem_fi {p : List Cl} {x : Cl} (h : x ∈ p) : 0 ≤ findI p x.name := by
  rcases findI_spec p x.name with ⟨_, h2⟩ | ⟨j, hj, h1, _, _⟩
  · exact absurd rfl (h2 x h)
  · omega
def isC (p : List Cl) (a : ByteArray) : Bool := inS BS a || decide (0 ≤ findI p a)
/-- The class at a place; none: one without anything. -/
def clAt (p : List Cl) (i : Int) : Cl := (p[i.toNat]?).getD ⟨⟨#[]⟩, ⟨#[]⟩, [], []⟩
def supC (p : List Cl) (a : ByteArray) : ByteArray := if inS BS a = true then (if a = EXC then NIL else EXC) else if findI p a < 0 then NIL else (clAt p (findI p a)).super
def chG (p : List Cl) : Nat → ByteArray → List ByteArray → List ByteArray
  | 0, _, acc => acc
  | n + 1, a, acc => if isC p a = true then (if inS acc a = true then acc else chG p n (supC p a) (acc ++ [a])) else acc
def chC (p : List Cl) (a : ByteArray) : List ByteArray := chG p (p.length + 6) a []
theorem is_name {p : List Cl} {a : ByteArray} (h : isC p a = true) : a ∈ BS ++ p.map (·.name) := by
  unfold isC at h
  rw [List.mem_append]
  rcases Bool.or_eq_true_iff.1 h with h | h
  · exact .inl (inS_iff.1 h)
  · obtain ⟨j, hj, _, e⟩ := fi_mem (by simpa using h)
    exact .inr (List.mem_map.2 ⟨p[j], List.getElem_mem hj, e⟩)
theorem room {p : List Cl} {acc : List ByteArray} (hn : acc.Nodup) (hs : ∀ x ∈ acc, isC p x = true) : acc.length ≤ p.length + 5 := by
  have := nodup_le acc (BS ++ p.map (·.name)) hn (fun x hx => is_name (hs x hx))
  rw [List.length_append, List.length_map] at this
  have e : BS.length = 5 := rfl
  omega
theorem nodup_snoc {acc : List ByteArray} {a : ByteArray} (hn : acc.Nodup) (ha : a ∉ acc) : (acc ++ [a]).Nodup := by
  rw [List.nodup_append]
  exact ⟨hn, by simp, fun x hx y hy => by simp at hy; subst hy; rintro rfl; exact ha hx⟩
/-- From a up, through T, to z. -/
inductive Walk (l : List Cl) : ByteArray → List ByteArray → ByteArray → Prop
  | here (a : ByteArray) : Walk l a [] a
  | up {a z : ByteArray} {T : List ByteArray} : isC l a = true → Walk l (supC l a) T z → Walk l a (a :: T) z
theorem chG_walk (l : List Cl) : ∀ (n : Nat) (a : ByteArray) (acc : List ByteArray), acc.Nodup → (∀ x ∈ acc, isC l x = true) → acc.length + n = l.length + 6 →
    ∃ T z, chG l n a acc = acc ++ T ∧ Walk l a T z ∧ (isC l z = false ∨ z ∈ acc ++ T) ∧ (acc ++ T).Nodup
  | 0, a, acc, hn, hs, he => by have := room hn hs; omega
  | n + 1, a, acc, hn, hs, he => by
    rw [chG]
    by_cases hi : isC l a = true
    · rw [if_pos hi]
      by_cases hc : a ∈ acc
      · rw [if_pos (inS_iff.2 hc)]
        exact ⟨[], a, by simp, .here a, .inr (by simpa using hc), by simpa using hn⟩
      · rw [if_neg (fun h => hc (inS_iff.1 h))]
        obtain ⟨T, z, h1, h2, h3, h4⟩ := chG_walk l n (supC l a) (acc ++ [a]) (nodup_snoc hn hc) (fun x hx => by rcases List.mem_append.1 hx with h | h; exact hs x h; simp at h; exact h ▸ hi) (by simp; omega)
        have e : acc ++ [a] ++ T = acc ++ a :: T := by simp
        rw [e] at h1 h3 h4
        exact ⟨a :: T, z, h1, .up hi h2, h3, h4⟩
    · rw [if_neg hi]
      exact ⟨[], a, by simp, .here a, .inl (by simpa using hi), by simpa using hn⟩
theorem ch_walk (l : List Cl) (a : ByteArray) : ∃ z, Walk l a (chC l a) z ∧ (isC l z = false ∨ z ∈ chC l a) ∧ (chC l a).Nodup := by
  obtain ⟨T, z, h1, h2, h3, h4⟩ := chG_walk l (l.length + 6) a [] (by simp) (by simp) (by simp)
  rw [List.nil_append] at h1 h3 h4
  unfold chC; rw [h1]
  exact ⟨z, h2, h3, h4⟩
theorem Walk.all {l : List Cl} {a z : ByteArray} {T : List ByteArray} (h : Walk l a T z) : ∀ x ∈ T, isC l x = true := by
  induction h with
  | here => simp
  | up hi _ ih => intro x hx; rcases List.mem_cons.1 hx with rfl | hx; exact hi; exact ih x hx
/-- A chain's last one. -/
def lastS (l : List ByteArray) : ByteArray := (l[l.length - 1]?).getD ⟨#[]⟩
theorem Walk.last {l : List Cl} {a z : ByteArray} {T : List ByteArray} (h : Walk l a T z) (hT : T ≠ []) : supC l (lastS T) = z := by
  induction h with
  | here => exact absurd rfl hT
  | @up a z T hi hw ih =>
    cases T with
    | nil => cases hw; rfl
    | cons b T =>
      rw [← ih (by simp)]
      congr 1
theorem Walk.det {l : List Cl} {a z z' : ByteArray} {T T' : List ByteArray} (h : Walk l a T z) (hz : isC l z = false) (h' : Walk l a T' z') (hz' : isC l z' = false) : T = T' ∧ z = z' := by
  induction h generalizing T' with
  | here a =>
    cases h' with
    | here => exact ⟨rfl, rfl⟩
    | up hi _ => rw [hz] at hi; cases hi
  | up hi hw ih =>
    cases h' with
    | here => rw [hz'] at hi; cases hi
    | up hi' hw' =>
      obtain ⟨e1, e2⟩ := ih hz hw'
      exact ⟨by rw [e1], e2⟩
theorem Walk.mem {l : List Cl} {a z y : ByteArray} {T : List ByteArray} (h : Walk l a T z) (hy : y ∈ T) : ∃ T1 T2, T = T1 ++ y :: T2 ∧ Walk l y (y :: T2) z := by
  induction h with
  | here => cases hy
  | @up a z T hi hw ih =>
    by_cases e : y = a
    · subst e; exact ⟨[], T, rfl, .up hi hw⟩
    · obtain ⟨T1, T2, e1, h2⟩ := ih (by rcases List.mem_cons.1 hy with h | h; exact absurd h e; exact h)
      exact ⟨a :: T1, T2, by rw [e1]; rfl, h2⟩
theorem ch_self {l : List Cl} {x : ByteArray} (h : isC l x = true) : ∃ T, chC l x = x :: T := by
  obtain ⟨z, hw, hz, hn⟩ := ch_walk l x
  generalize chC l x = T at *
  cases hw with
  | here =>
    rcases hz with hz | hz
    · rw [h] at hz; cases hz
    · cases hz
  | up _ _ => exact ⟨_, rfl⟩
theorem ch_none {l : List Cl} {x : ByteArray} (h : isC l x = false) : chC l x = [] := by
  unfold chC
  rw [show l.length + 6 = (l.length + 5) + 1 from rfl, chG, if_neg (by rw [h]; decide)]
theorem ch_len (l : List Cl) (x : ByteArray) : (chC l x).length ≤ l.length + 5 := by
  obtain ⟨z, hw, _, hn⟩ := ch_walk l x
  exact room hn hw.all
-- 6.2: a look at the classes
def chk1 (p : List Cl) : List Cl → Nat → Option Nat
  | [], _ => none
  | c :: l, i => if inS BS c.name = true ∨ findI p c.name ≠ i then some i else chk1 p l (i + 1)
def chk2 (p : List Cl) : List Cl → Nat → Option (Int × Nat)
  | [], _ => none
  | c :: l, i => if c.super = NIL then chk2 p l (i + 1) else if isC p c.super = false then some (7, i) else if isC p (supC p (lastS (chC p c.name))) = true then some (8, i) else chk2 p l (i + 1)
def checkC (p : List Cl) : Int × Nat := match chk1 p p 0 with
  | some i => (6, i)
  | none => match chk2 p p 0 with
    | some r => r
    | none => (0, 0)
def typeC (p : List Cl) (t : ByteArray) : Bool := decide (t = ⟨#[105, 110, 116]⟩) || (decide (t = ⟨#[98, 111, 111, 108, 101, 97, 110]⟩) || (decide (t = ⟨#[83, 116, 114, 105, 110, 103]⟩) || isC p t))
/-- A class by its name, without members if it is none. -/
def classC (p : List Cl) (a : ByteArray) : Cl := if 0 ≤ findI p a then clAt p (findI p a) else ⟨⟨#[]⟩, ⟨#[]⟩, [], []⟩
def findF (l : List Fi) (name : ByteArray) : Int :=
  match l.findIdx? (fun c => decide (c.name = name)) with
  | some i => i
  | none => -1
def ownF (p : List Cl) (a name : ByteArray) : Int := findF (classC p a).fields name
-- 7.2: a look at the fields
def chkF1 (p : List Cl) (a : ByteArray) : List Fi → Nat → Bool
  | [], _ => true
  | f :: l, k => if ownF p a f.name ≠ k then false else chkF1 p a l (k + 1)
def chkF2 (p : List Cl) : List Fi → Bool
  | [] => true
  | f :: l => if typeC p f.typ = true then chkF2 p l else false
def chkF (p : List Cl) : List Cl → Nat → Option (Int × Nat)
  | [], _ => none
  | c :: l, i => if chkF1 p c.name c.fields 0 = false then some (6, i) else if chkF2 p c.fields = false then some (7, i) else chkF p l (i + 1)
def checkF (p : List Cl) : Int × Nat := if (checkC p).1 ≠ 0 then (1, 0) else match chkF p p 0 with
  | some r => r
  | none => (0, 0)
end Go.Proofs.YtinffhimfoicdaaGreat

/- The document's classes: which there are, supers, chains. No conditions. -/
namespace Go.Proofs.YtinffhimfoicdaaGreat
open Go Go.RowKit Go.Proofs.YtinffhimfoicdaaGreat.Calc
set_option linter.unusedVariables false
set_option linter.unusedSimpArgs false
set_option maxRecDepth 100000
set_option maxHeartbeats 8000000
attribute [local irreducible] Tri TriL TriP CallT stepV stepW thenQ inQ endQ

theorem vB_of {a b : Bool} (h : a = b) : retB [vB a] = vB b := by rw [h]; rfl
theorem vI_ret {a b : Int} (h : a = b) : retB [vI a] = vI b := by rw [h]; rfl
theorem vS_of {a b : ByteArray} (h : a = b) : retB [vS a] = vS b := by rw [h]; rfl
theorem sp65 (s : ByteArray) : PC 65 [vS s] (fun r => r = vB (inS BS s)) := by
  intro S T M
  refine callT_go [] [] Tryz.func65 rfl Tryz.ntmps65 Tryz.results65 ?_
  repeat' (first | apply triL_nil | (apply V; apply rfl; (first | (apply E_mv; apply rfl) | (apply E_as; apply rfl))) | (apply Vp; apply rfl; apply rfl; apply fnT; apply rfl; apply call_wk; apply rfl; apply sp95d; apply rfl; apply rfl; rintro _ ⟨(_ | _), rfl, hin_⟩) | (apply Vw; apply rfl; (apply W_bsL; apply rfl; (apply elT; apply rfl); (apply tyT; apply rfl); apply rfl; decide; apply rfl; apply rfl)) | (apply s_region; apply rfl) | apply tri_ret | (apply end_q _ (.inr rfl); (exact List.prefix_append _ _); (focus repeat (first | apply R_nil | (apply R_tmp; apply rfl))); apply rfl))
  · exact vB_of (inS_false.2 fun h => by cases hin_.2 h).symm
  · exact vB_of (inS_iff.2 (hin_.1 rfl)).symm
theorem sp66 (p : List Cl) (name : ByteArray) (hp : p.length ≤ 1000000) : PC 66 [vP p, vS name] (fun r => r = vI (findI p name)) := by
  intro S T M
  refine callT_go [] [] Tryz.func66 rfl Tryz.ntmps66 Tryz.results66 ?_
  repeat' (first | apply triL_nil | (apply V; apply rfl; (apply E_as; apply rfl)) | (apply Vw; apply rfl; (apply W_bxL; apply rfl; apply rfl; apply rfl)) | (apply s_region; apply rfl) | apply tri_seq | apply tri_block)
  refine tri_fix (fun k : Nat => p.length - k) (fun k => [(1, vS name), (2, .ptr (S.length + 0) 0), (5, vI k)]) (fun k => k ≤ p.length ∧ ∀ (i : Nat) (c : Cl), i < k → p[i]? = some c → c.name ≠ name) 0 ⟨Nat.zero_le _, fun i c h => by omega⟩ ⟨rfl, rfl, rfl, trivial⟩ ?_
  rintro k ⟨hk, hpre⟩
  repeat' (first | apply triL_nil | (apply V; apply rfl; (first | (apply E_mv; apply rfl) | (apply E_as; apply rfl) | (apply E_fa; (apply plT; apply rfl); apply rfl; apply rfl; decide) | (apply E_ld; (apply tyT; apply rfl); apply rfl; (apply at_; apply rfl; apply rfl); apply rfl) | (apply E_len; (apply elT; apply rfl); apply rfl; apply rfl))) | (apply Vd; apply rfl; (apply E_lss; apply rfl; apply rfl); all_goals intro h_) | (apply s_region; apply rfl) | apply tri_seq | apply tri_block | apply tri_skip | apply tri_exit | apply tri_ret | (apply tri_condT; apply rfl) | (apply tri_condF; apply rfl) | (apply end_q _ (.inr rfl); (exact List.prefix_append _ _); (focus repeat (first | apply R_nil | (apply R_tmp; apply rfl))); apply rfl) | apply p_then | apply p_in | apply p_thenE)
  · obtain ⟨c, hc⟩ : ∃ c, p[k]? = some c := ⟨_, List.getElem?_eq_getElem (by omega)⟩
    repeat' (first | apply triL_nil | (apply V; apply rfl; (first | (apply E_mv; apply rfl) | (apply E_as; apply rfl) | (apply E_fe; (apply plT; apply rfl); apply rfl; apply rfl; decide) | (apply E_le; (apply tyT; apply rfl); apply rfl; apply rfl) | (apply E_add64; apply rfl; apply rfl; apply rfl; omega) | (apply E_ial (c := c); apply elT; apply rfl; apply rfl; apply rfl; apply rfl; exact encCl_len; omega; simpa using hc))) | (apply Vd; apply rfl; (apply E_seql; apply rfl; apply rfl); all_goals intro h_) | (apply s_region; apply rfl) | (apply tri_region; apply rfl) | apply tri_skip | apply tri_ret | (apply tri_condT; apply rfl) | (apply tri_condF; apply rfl) | (apply end_q _ (.inr rfl); (exact List.prefix_append _ _); (focus repeat (first | apply R_nil | (apply R_tmp; apply rfl))); apply rfl) | apply p_then | apply p_inN | apply p_inR | apply p_thenR)
    · exact vI_ret (findI_at hc h_ hpre).symm
    · refine ⟨k + 1, by omega, ⟨by omega, fun i c' hi hc' => ?_⟩, ⟨rfl, rfl, vI_of (by omega), trivial⟩, rfl⟩
      by_cases hik : i = k
      · subst hik
        obtain rfl := Option.some.inj (hc.symm.trans hc')
        assumption
      · exact hpre i c' (by omega) hc'
  · exact vI_ret (findI_none fun i c hc => hpre i c (by have := (List.getElem?_eq_some_iff.1 hc).1; omega) hc).symm
theorem sp31 (p : List Cl) (a : ByteArray) (hp : p.length ≤ 1000000) : PC 31 [vP p, vS a] (fun r => r = vB (isC p a)) := by
  have h32 := sp65 a
  have h33 := sp66 p a hp
  unfold isC
  cases hb : inS BS a
  all_goals
    rw [hb] at h32
    intro S T M
    refine callT_go [] [] Tryz.func31 rfl Tryz.ntmps31 Tryz.results31 ?_
    repeat' (first | apply triL_nil | (apply V; apply rfl; (first | (apply E_mv; apply rfl) | (apply E_as; apply rfl) | (apply E_lda; (apply tyT; apply rfl); apply rfl; (apply at_; apply rfl; apply rfl); apply rfl) | (apply E_pkT; apply rfl; apply rfl) | (apply E_pkF; apply rfl; apply rfl))) | (apply Vp; apply rfl; apply rfl; apply fnT; apply rfl; apply h32; rintro _ rfl) | (apply Vp; apply rfl; apply rfl; apply fnT; apply rfl; apply h33; rintro _ rfl) | (apply Vd; apply rfl; (apply E_geq; apply rfl; apply rfl); all_goals intro h_) | (apply Vo; apply rfl) | (apply Vw; apply rfl; (apply W_bxL; apply rfl; apply rfl; apply rfl)) | (apply s_region; apply rfl) | apply tri_ret | (apply end_q _ (.inr rfl); (exact List.prefix_append _ _); (focus repeat (first | apply R_nil | (apply R_tmp; apply rfl))); apply rfl))
    all_goals first | exact vB_of rfl | exact vB_of (by simp [h_])
theorem sp96 (p : List Cl) (a : ByteArray) (hp : p.length ≤ 1000000) : PC 96 [vP p, vS a] (fun r => r = vS (supC p a)) := by
  have h32 := sp65 a
  have h33 := sp66 p a hp
  unfold supC
  rcases findI_spec p a with ⟨hf, _⟩ | ⟨j, hj, hf, _, _⟩
  · cases hb : inS BS a
    all_goals
      rw [hb] at h32
      rw [hf] at h33
      intro S T M
      refine callT_go [] [] Tryz.func96 rfl Tryz.ntmps96 Tryz.results96 ?_
      repeat' (first | apply triL_nil | (apply V; apply rfl; (first | (apply E_mv; apply rfl) | (apply E_as; apply rfl) | (apply E_fa; (apply plT; apply rfl); apply rfl; apply rfl; decide) | (apply E_lda; (apply tyT; apply rfl); apply rfl; (apply at_; apply rfl; apply rfl); apply rfl) | (apply E_ld; (apply tyT; apply rfl); apply rfl; (apply at_; apply rfl; apply rfl); apply rfl))) | (apply Vp; apply rfl; apply rfl; apply fnT; apply rfl; apply h32; rintro _ rfl) | (apply Vp; apply rfl; apply rfl; apply fnT; apply rfl; apply h33; rintro _ rfl) | (apply Vd; apply rfl; (first | (apply E_geq; apply rfl; apply rfl) | (apply E_seql; apply rfl; apply rfl)); all_goals intro h_) | (apply Vw; apply rfl; (apply W_bxL; apply rfl; apply rfl; apply rfl)) | (apply s_region; apply rfl) | apply tri_seq | apply tri_skip | apply tri_ret | (apply tri_condT; apply rfl) | (apply tri_condF; apply rfl) | (apply end_q _ (.inr rfl); (exact List.prefix_append _ _); (focus repeat (first | apply R_nil | (apply R_tmp; apply rfl))); apply rfl) | apply p_then | apply p_thenR)
      all_goals first | (exfalso; omega) | exact vS_of (by rw [if_pos rfl, if_pos (show a = EXC from h_)]; rfl) | exact vS_of (by rw [if_pos rfl, if_neg (show ¬ a = EXC from h_)]; rfl) | exact vS_of (by rw [if_neg (by decide), if_pos (by omega)]; rfl)
  · obtain ⟨c, hc⟩ : ∃ c, p[j]? = some c := ⟨_, List.getElem?_eq_getElem hj⟩
    cases hb : inS BS a
    all_goals
      rw [hb] at h32
      rw [hf] at h33
      intro S T M
      refine callT_go [] [] Tryz.func96 rfl Tryz.ntmps96 Tryz.results96 ?_
      repeat' (first | apply triL_nil | (apply V; apply rfl; (first | (apply E_mv; apply rfl) | (apply E_as; apply rfl) | (apply E_fa; (apply plT; apply rfl); apply rfl; apply rfl; decide) | (apply E_fe; (apply plT; apply rfl); apply rfl; apply rfl; decide) | (apply E_lda; (apply tyT; apply rfl); apply rfl; (apply at_; apply rfl; apply rfl); apply rfl) | (apply E_ld; (apply tyT; apply rfl); apply rfl; (apply at_; apply rfl; apply rfl); apply rfl) | (apply E_le; (apply tyT; apply rfl); apply rfl; apply rfl) | (apply E_ial (c := c); apply elT; apply rfl; apply rfl; apply rfl; apply rfl; exact encCl_len; omega; simpa using hc))) | (apply Vp; apply rfl; apply rfl; apply fnT; apply rfl; apply h32; rintro _ rfl) | (apply Vp; apply rfl; apply rfl; apply fnT; apply rfl; apply h33; rintro _ rfl) | (apply Vd; apply rfl; (first | (apply E_geq; apply rfl; apply rfl) | (apply E_seql; apply rfl; apply rfl)); all_goals intro h_) | (apply Vw; apply rfl; (apply W_bxL; apply rfl; apply rfl; apply rfl)) | (apply s_region; apply rfl) | apply tri_seq | apply tri_skip | apply tri_ret | (apply tri_condT; apply rfl) | (apply tri_condF; apply rfl) | (apply end_q _ (.inr rfl); (exact List.prefix_append _ _); (focus repeat (first | apply R_nil | (apply R_tmp; apply rfl))); apply rfl) | apply p_then | apply p_thenR)
      all_goals first | (exfalso; omega) | exact vS_of (by rw [if_pos rfl, if_pos (show a = EXC from h_)]; rfl) | exact vS_of (by rw [if_pos rfl, if_neg (show ¬ a = EXC from h_)]; rfl) | exact vS_of (by rw [if_neg (by decide), if_neg (by omega), hf]; unfold clAt; rw [show ((j : Int)).toNat = j from rfl, hc]; rfl)
theorem sp67 (p : List Cl) (a0 : ByteArray) (hp : p.length ≤ 1000000) : PC 67 [vP p, vS a0] (fun r => r = .d (encL encStr (chC p a0))) := by
  intro S T M
  refine callT_go [] [] Tryz.func67 rfl Tryz.ntmps67 Tryz.results67 ?_
  repeat' (first | apply triL_nil | (apply V; apply rfl; (apply E_as; apply rfl)) | (apply Vw; apply rfl; (apply W_bxL; apply rfl; apply rfl; apply rfl)) | (apply s_region; apply rfl) | apply tri_seq | apply tri_block)
  refine tri_ownX 5 9 1 rfl rfl ?_
  refine tri_grow (fun k : Nat × ByteArray × List ByteArray => k.1) (fun k => [(1, vS k.2.1), (2, .ptr (S.length + 0) 0), (5, .own 9 1 (T.length + 0) (k.2.2.flatMap encStr) k.2.2.length)]) (fun k S1 T1 => k.2.2.Nodup ∧ (∀ x ∈ k.2.2, isC p x = true) ∧ k.2.2.length + k.1 = p.length + 6 ∧ chG p k.1 k.2.1 k.2.2 = chC p a0 ∧ S.length ≤ S1.length ∧ T <+: T1 ∧ S1[S.length + 0]? = some ([.d (encL encCl p)], 26) ∧ T1[T.length + 0]? = some (k.2.2.flatMap encStr).length) (p.length + 6, a0, []) ⟨by simp, by simp, by simp, rfl, by simp, by simp, at_ rfl rfl, by simp⟩ ⟨rfl, rfl, rfl, trivial⟩ ?_
  rintro ⟨n, a, acc⟩ S1 T1 ⟨hn, hs, he, hch, hS, hT, hb, hTg⟩
  dsimp only at hn hs he hch hTg ⊢
  have hlen := room hn hs
  obtain ⟨m, rfl⟩ : ∃ m, n = m + 1 := ⟨n - 1, by omega⟩
  rw [chG] at hch
  have h25 := sp31 p a hp
  have h14 := sp96 p a hp
  cases hi : isC p a
  · rw [hi] at h25 hch
    rw [if_neg (by decide)] at hch
    repeat' (first | apply triL_nil | (apply V; apply rfl; (first | (apply E_mv; apply rfl) | (apply E_as; apply rfl) | (apply E_lda; (apply tyT; apply rfl); apply rfl; (apply at_old; assumption); apply rfl) | (apply E_pkF; apply rfl; apply rfl))) | (apply Vp; apply rfl; apply rfl; apply fnT; apply rfl; apply h25; rintro _ rfl) | (apply Vo; apply rfl) | (apply s_region; apply rfl) | apply tri_seq | apply tri_exit | apply tri_ret | (apply tri_condF; apply rfl) | (apply end_q _ (.inr rfl); (apply pre_app; assumption); (focus repeat (first | apply R_nil | (apply R_tmp; apply rfl))); apply rfl) | apply p_then | apply p_in | apply p_thenE)
    rw [← hch]
    rfl
  · rw [hi] at h25 hch
    rw [if_pos rfl] at hch
    repeat' (first | apply triL_nil | (apply V; apply rfl; (first | (apply E_mv; apply rfl) | (apply E_as; apply rfl) | (apply E_lda; (apply tyT; apply rfl); apply rfl; (apply at_old; assumption); apply rfl) | (apply E_pkT; apply rfl; apply rfl) | (apply E_not; apply rfl))) | (apply Vp; apply rfl; apply rfl; apply fnT; apply rfl; apply h25; rintro _ rfl) | (apply Vp; apply rfl; apply rfl; apply fnT; apply rfl; apply call_wk; apply rfl; apply (sp95 acc a); rintro _ ⟨(_ | _), rfl, hin_⟩) | (apply Vp; apply rfl; apply rfl; apply fnT; apply rfl; apply h14; rintro _ rfl) | (apply Vw; apply rfl; (first | (apply W_bsL; apply rfl; (apply elT; apply rfl); (apply tyT; apply rfl); apply rfl; decide; apply rfl; apply rfl) | (apply W_ap; (apply elT; apply rfl); (apply tyT; apply rfl); (apply byT; apply rfl); apply rfl; apply rfl; apply rfl; decide; apply rfl; (apply A_ownLO (c := a); omega; omega; assumption)))) | (apply s_region; apply rfl) | apply tri_seq | (apply tri_region; apply rfl) | apply tri_block | apply tri_skip | apply tri_exit | apply tri_ret | (apply tri_condT; apply rfl) | (apply tri_condF; apply rfl) | (apply end_q _ (.inr rfl); (apply pre_app; assumption); (focus repeat (first | apply R_nil | (apply R_tmp; apply rfl))); apply rfl) | apply p_then | apply p_in | apply p_inN | apply p_thenE)
    · have hna : a ∉ acc := fun h => by cases hin_.2 h
      rw [if_neg (by rw [inS_false.2 hna]; decide)] at hch
      refine ⟨(m, supC p a, acc ++ [a]), _, _, by dsimp only; omega, ⟨nodup_snoc hn hna, fun x hx => ?_, by simp only [List.length_append, List.length_singleton]; omega, hch, by simp only [List.length_append]; omega, pre_app (pre_set hT (by omega)), at_old hb, at_set (List.getElem?_eq_some_iff.1 hTg).1⟩, ⟨rfl, rfl, rfl, trivial⟩, rfl⟩
      rcases List.mem_append.1 hx with h | h
      · exact hs x h
      · rw [List.mem_singleton.1 h]
        exact hi
    · rw [if_pos (inS_iff.2 (hin_.1 rfl))] at hch
      rw [← hch]
      rfl
end Go.Proofs.YtinffhimfoicdaaGreat

/- The document's classes: a look at them. No conditions. -/
namespace Go.Proofs.YtinffhimfoicdaaGreat
open Go Go.RowKit Go.Proofs.YtinffhimfoicdaaGreat.Calc
set_option linter.unusedVariables false
set_option linter.unusedSimpArgs false
set_option maxRecDepth 100000
set_option maxHeartbeats 8000000
attribute [local irreducible] Tri TriL TriP CallT stepV stepW thenQ inQ endQ

theorem sp43 (p : List Cl) (a : ByteArray) (hp : p.length ≤ 1000000) : PC 43 [vP p, vS a] (fun r => r = vB (typeC p a)) := by
  have h25 := sp31 p a hp
  unfold typeC
  cases hb : isC p a
  all_goals
    rw [hb] at h25
    intro S T M
    refine callT_go [] [] Tryz.func43 rfl Tryz.ntmps43 Tryz.results43 ?_
    repeat' (first | apply triL_nil | (apply V; apply rfl; (first | (apply E_mv; apply rfl) | (apply E_as; apply rfl) | (apply E_lda; (apply tyT; apply rfl); apply rfl; (apply at_; apply rfl; apply rfl); apply rfl) | (apply E_pkT; apply rfl; apply rfl) | (apply E_pkF; apply rfl; apply rfl))) | (apply Vp; apply rfl; apply rfl; apply fnT; apply rfl; apply h25; rintro _ rfl) | (apply Vd; apply rfl; (apply E_seql; apply rfl; apply rfl); all_goals intro h_) | (apply Vo; apply rfl) | (apply Vw; apply rfl; (apply W_bxL; apply rfl; apply rfl; apply rfl)) | (apply s_region; apply rfl) | apply tri_ret | (apply end_q _ (.inr rfl); (exact List.prefix_append _ _); (focus repeat (first | apply R_nil | (apply R_tmp; apply rfl))); apply rfl))
    all_goals exact vB_of (by simp_all)
theorem sp69 (p : List Cl) (hp : p.length ≤ 1000000) : PC 69 [vP p] (fun r => r = .tup [vI (checkC p).1, vI (checkC p).2]) := by
  intro S T M
  refine callT_go [] [] Tryz.func69 rfl Tryz.ntmps69 Tryz.results69 ?_
  repeat' (first | apply triL_nil | (apply V; apply rfl; (apply E_as; apply rfl)) | (apply Vw; apply rfl; (apply W_bxL; apply rfl; apply rfl; apply rfl)) | (apply s_region; apply rfl) | apply tri_seq | apply tri_block)
  refine tri_grow (fun k : Nat => p.length - k) (fun k => [(1, .ptr (S.length + 0) 0), (4, vI k)]) (fun k S1 T1 => k ≤ p.length ∧ S.length ≤ S1.length ∧ T <+: T1 ∧ S1[S.length + 0]? = some ([.d (encL encCl p)], 26) ∧ chk1 p p 0 = chk1 p (p.drop k) k) 0 ⟨Nat.zero_le _, by simp, by simp, at_ rfl rfl, by rw [List.drop_zero]⟩ ⟨rfl, rfl, trivial⟩ ?_
  rintro k S1 T1 ⟨hk, hS, hT, hb, hch⟩
  repeat' (first | apply triL_nil | (apply V; apply rfl; (first | (apply E_mv; apply rfl) | (apply E_as; apply rfl) | (apply E_fa; (apply plT; apply rfl); apply rfl; apply rfl; decide) | (apply E_ld; (apply tyT; apply rfl); apply rfl; (apply at_old; assumption); apply rfl) | (apply E_len; (apply elT; apply rfl); apply rfl; apply rfl))) | (apply Vd; apply rfl; (apply E_lss; apply rfl; apply rfl); all_goals intro h_) | (apply s_region; apply rfl) | apply tri_seq | apply tri_block | apply tri_skip | apply tri_exit | (apply tri_condT; apply rfl) | (apply tri_condF; apply rfl) | apply p_then | apply p_in | apply p_thenE)
  · obtain ⟨c, hc⟩ : ∃ c, p[k]? = some c := ⟨_, List.getElem?_eq_getElem (by omega)⟩
    have hd : p.drop k = c :: p.drop (k + 1) := by
      obtain ⟨hk', rfl⟩ := List.getElem?_eq_some_iff.1 hc
      exact List.drop_eq_getElem_cons hk'
    rw [hd, chk1] at hch
    have h32 := sp65 c.name
    have h33 := sp66 p c.name hp
    cases hi : inS BS c.name
    all_goals
      rw [hi] at h32 hch
      repeat' (first | apply triL_nil | (apply V; apply rfl; (first | (apply E_mv; apply rfl) | (apply E_as; apply rfl) | (apply E_fa; (apply plT; apply rfl); apply rfl; apply rfl; decide) | (apply E_lda; (apply tyT; apply rfl); apply rfl; (first | (apply at_; apply rfl; apply rfl) | (apply at_old; assumption)); apply rfl) | (apply E_ld; (apply tyT; apply rfl); apply rfl; (first | (apply at_; apply rfl; apply rfl) | (apply at_old; assumption)); apply rfl) | (apply E_lea; (apply tyT; apply rfl); apply rfl; (first | apply rfl | apply encEx_len | apply encSm_len)) | (apply E_pkT; apply rfl; apply rfl) | (apply E_pkF; apply rfl; apply rfl) | (apply E_add64; apply rfl; apply rfl; apply rfl; omega) | (apply E_ial (c := c); apply elT; apply rfl; apply rfl; apply rfl; apply rfl; exact encCl_len; omega; simpa using hc))) | (apply Vp; apply rfl; apply rfl; apply fnT; apply rfl; apply h32; rintro _ rfl) | (apply Vp; apply rfl; apply rfl; apply fnT; apply rfl; apply h33; rintro _ rfl) | (apply Vd; apply rfl; (apply E_neq; apply rfl; apply rfl); all_goals intro h_) | (apply Vo; apply rfl) | (apply Vw; apply rfl; (apply W_alL; apply rfl; (apply tyT; apply rfl))) | (apply Vs; apply rfl; (apply W_stL; apply rfl; (apply tyT; apply rfl); apply rfl; apply rfl; apply rfl; (first | apply okC_new | (apply okC_ge; omega)); apply rfl; apply rfl; (first | decide | (apply Nat.le_of_ble_eq_true; rfl)))) | (apply s_region; apply rfl) | (apply tri_region; apply rfl) | apply tri_skip | apply tri_ret | (apply tri_condT; apply rfl) | (apply tri_condF; apply rfl) | (apply end_q _ (.inr rfl); (apply pre_app; assumption); (focus repeat (first | apply R_nil | (apply R_tmp; apply rfl))); apply rfl) | apply p_then | apply p_inN | apply p_inR | apply p_thenR)
    · rw [if_pos (.inr h_)] at hch
      unfold checkC
      rw [hch]
      rfl
    · rw [if_neg (by simp; exact Classical.not_not.1 h_)] at hch
      exact ⟨k + 1, _, _, by omega, ⟨by omega, by simp only [List.length_append]; omega, pre_app hT, at_old hb, hch⟩, ⟨rfl, vI_of (by omega), trivial⟩, rfl⟩
    · rw [if_pos (.inl rfl)] at hch
      unfold checkC
      rw [hch]
      rfl
  · rw [List.drop_of_length_le (by omega), chk1] at hch
    refine tri_grow (fun k : Nat => p.length - k) (fun k => [(1, .ptr (S.length + 0) 0), (6, vI k)]) (fun k S1 T1 => k ≤ p.length ∧ S.length ≤ S1.length ∧ T <+: T1 ∧ S1[S.length + 0]? = some ([.d (encL encCl p)], 26) ∧ chk2 p p 0 = chk2 p (p.drop k) k) 0 ⟨Nat.zero_le _, by first | exact hS | (simp only [List.length_append]; omega), by first | exact hT | exact pre_app hT, by first | exact hb | exact at_old hb, by rw [List.drop_zero]⟩ ⟨rfl, rfl, trivial⟩ ?_
    clear hS hT hb hk
    rintro k S1 T1 ⟨hk, hS, hT, hb, hch2⟩
    repeat' (first | apply triL_nil | (apply V; apply rfl; (first | (apply E_mv; apply rfl) | (apply E_as; apply rfl) | (apply E_fa; (apply plT; apply rfl); apply rfl; apply rfl; decide) | (apply E_ld; (apply tyT; apply rfl); apply rfl; (apply at_old; assumption); apply rfl) | (apply E_len; (apply elT; apply rfl); apply rfl; apply rfl))) | (apply Vd; apply rfl; (apply E_lss; apply rfl; apply rfl); all_goals intro h_) | (apply s_region; apply rfl) | apply tri_seq | apply tri_block | apply tri_skip | apply tri_exit | apply tri_ret | (apply tri_condT; apply rfl) | (apply tri_condF; apply rfl) | (apply end_q _ (.inr rfl); (apply pre_app; assumption); (focus repeat (first | apply R_nil | (apply R_tmp; apply rfl))); apply rfl) | apply p_then | apply p_in | apply p_thenE)
    · obtain ⟨c, hc⟩ : ∃ c, p[k]? = some c := ⟨_, List.getElem?_eq_getElem (by omega)⟩
      have hd : p.drop k = c :: p.drop (k + 1) := by
        obtain ⟨hk', rfl⟩ := List.getElem?_eq_some_iff.1 hc
        exact List.drop_eq_getElem_cons hk'
      rw [hd, chk2] at hch2
      have h25 := sp31 p c.super hp
      have h28 := sp67 p c.name hp
      have hin : isC p c.name = true := by
        unfold isC
        rw [Bool.or_eq_true]
        exact .inr (decide_eq_true (mem_fi (List.mem_of_getElem? hc)))
      obtain ⟨U, hU⟩ := ch_self hin
      have hlen := ch_len p c.name
      have hlast : (chC p c.name)[(((chC p c.name).length : Int) - 1).toNat]? = some (lastS (chC p c.name)) := by
        unfold lastS
        rw [show (((chC p c.name).length : Int) - 1).toNat = (chC p c.name).length - 1 by omega]
        rw [List.getElem?_eq_getElem (by rw [hU]; simp)]
        rfl
      have hpos : 0 < (chC p c.name).length := by rw [hU]; simp
      have h14 := sp96 p (lastS (chC p c.name)) hp
      have h25' := sp31 p (supC p (lastS (chC p c.name))) hp
      generalize lastS (chC p c.name) = z at *
      generalize supC p z = z' at *
      cases hi : isC p c.super <;> cases hj : isC p z'
      all_goals
        rw [hi] at h25 hch2
        rw [hj] at h25' hch2
        repeat' (first | apply triL_nil | (apply V; apply rfl; (first | (apply E_mv; apply rfl) | (apply E_as; apply rfl) | (apply E_fa; (apply plT; apply rfl); apply rfl; apply rfl; decide) | (apply E_lda; (apply tyT; apply rfl); apply rfl; (first | (apply at_; apply rfl; apply rfl) | (apply at_old; assumption)); apply rfl) | (apply E_ld; (apply tyT; apply rfl); apply rfl; (first | (apply at_; apply rfl; apply rfl) | (apply at_old; assumption)); apply rfl) | (apply E_lea; (apply tyT; apply rfl); apply rfl; (first | apply rfl | apply encEx_len | apply encSm_len)) | (apply E_le; (apply tyT; apply rfl); apply rfl; apply rfl) | (apply E_len; (apply elT; apply rfl); apply rfl; apply rfl) | (apply E_not; apply rfl) | (apply E_add64; apply rfl; apply rfl; apply rfl; omega) | (apply E_sub64; apply rfl; apply rfl; apply rfl; omega) | (apply E_ial (c := c); apply elT; apply rfl; apply rfl; apply rfl; apply rfl; exact encCl_len; omega; simpa using hc) | (apply E_ial (c := z); apply elT; apply rfl; apply rfl; apply rfl; apply rfl; exact encStr_len; omega; exact hlast))) | (apply s_drawn (nt := 71) (.take 0 (.take 1 (.take 2 (.take 3 (.take 4 (.take 5 (.take 6 (.one 7 (.take 8 .nil))))))))) [] []; exact mixed; rfl; decide +kernel) | (apply Vp; apply rfl; apply rfl; apply fnT; apply rfl; apply h25; rintro _ rfl) | (apply Vp; apply rfl; apply rfl; apply fnT; apply rfl; apply h28; rintro _ rfl) | (apply oP; apply rfl; apply rfl; apply rfl; apply fnT; apply rfl; apply h14; rintro _ rfl) | (apply Vp; apply rfl; apply rfl; apply fnT; apply rfl; apply h25'; rintro _ rfl) | (apply Vd; apply rfl; (apply E_seql; apply rfl; apply rfl); all_goals intro h_) | (apply Vw; apply rfl; (apply W_alL; apply rfl; (apply tyT; apply rfl))) | (apply Vs; apply rfl; (apply W_stL; apply rfl; (apply tyT; apply rfl); apply rfl; apply rfl; apply rfl; (first | apply okC_new | (apply okC_ge; omega)); apply rfl; apply rfl; (first | decide | (apply Nat.le_of_ble_eq_true; rfl)))) | (apply s_region; apply rfl) | apply tri_seq | (apply tri_region; apply rfl) | apply tri_skip | apply tri_exit | apply tri_ret | (apply tri_condT; apply rfl) | (apply tri_condF; apply rfl) | (apply end_q _ (.inr rfl); (apply pre_app; assumption); (focus repeat (first | apply R_nil | (apply R_tmp; apply rfl))); apply rfl) | apply p_then | apply p_in | apply p_inN | apply p_inR | apply p_thenR | apply p_thenE | apply d_nil | (apply tV; apply rfl; apply rfl; (first | (apply E_mv; apply rfl) | (apply E_as; apply rfl) | (apply E_fa; (apply plT; apply rfl); apply rfl; apply rfl; decide) | (apply E_lda; (apply tyT; apply rfl); apply rfl; (first | (apply at_; apply rfl; apply rfl) | (apply at_old; assumption)); apply rfl) | (apply E_ld; (apply tyT; apply rfl); apply rfl; (first | (apply at_; apply rfl; apply rfl) | (apply at_old; assumption)); apply rfl) | (apply E_lea; (apply tyT; apply rfl); apply rfl; (first | apply rfl | apply encEx_len | apply encSm_len)) | (apply E_le; (apply tyT; apply rfl); apply rfl; apply rfl) | (apply E_len; (apply elT; apply rfl); apply rfl; apply rfl) | (apply E_not; apply rfl) | (apply E_add64; apply rfl; apply rfl; apply rfl; omega) | (apply E_sub64; apply rfl; apply rfl; apply rfl; omega) | (apply E_ial (c := c); apply elT; apply rfl; apply rfl; apply rfl; apply rfl; exact encCl_len; omega; simpa using hc) | (apply E_ial (c := z); apply elT; apply rfl; apply rfl; apply rfl; apply rfl; exact encStr_len; omega; exact hlast)); apply rfl))
        all_goals first
          | (rw [if_pos (show c.super = NIL from h_)] at hch2; exact ⟨k + 1, _, _, by omega, ⟨by omega, by simp only [List.length_append]; omega, pre_app hT, at_old hb, hch2⟩, ⟨rfl, vI_of (by omega), trivial⟩, rfl⟩)
          | (rw [if_neg (show ¬ c.super = NIL from h_), if_pos rfl] at hch2; unfold checkC; rw [hch, hch2]; rfl)
          | (rw [if_neg (show ¬ c.super = NIL from h_), if_neg (by decide), if_pos rfl] at hch2; unfold checkC; rw [hch, hch2]; rfl)
          | (rw [if_neg (show ¬ c.super = NIL from h_), if_neg (by decide), if_neg (by decide)] at hch2; exact ⟨k + 1, _, _, by omega, ⟨by omega, by simp only [List.length_append]; omega, pre_app hT, at_old hb, hch2⟩, ⟨rfl, vI_of (by omega), trivial⟩, rfl⟩)
    · rw [List.drop_of_length_le (by omega), chk2] at hch2
      unfold checkC
      rw [hch, hch2]
      rfl
theorem sp41 (p : List Cl) (hp : p.length ≤ 1000000) : PC 41 [vP p] (fun r => r = vB (decide ((checkC p).1 = 0))) := by
  have h76 := sp69 p hp
  intro S T M
  refine callT_go [] [] Tryz.func41 rfl Tryz.ntmps41 Tryz.results41 ?_
  repeat' (first | apply triL_nil | (apply V; apply rfl; (first | (apply E_mv; apply rfl) | (apply E_as; apply rfl) | (apply E_lda; (apply tyT; apply rfl); apply rfl; (apply at_; apply rfl; apply rfl); apply rfl) | (apply E_ex; apply rfl; apply rfl))) | (apply Vp; apply rfl; apply rfl; apply fnT; apply rfl; apply h76; rintro _ rfl) | (apply Vd; apply rfl; (apply E_eql; apply rfl; apply rfl); all_goals intro h_) | (apply Vw; apply rfl; (apply W_bxL; apply rfl; apply rfl; apply rfl)) | (apply s_region; apply rfl) | apply tri_ret | (apply end_q _ (.inr rfl); (exact List.prefix_append _ _); (focus repeat (first | apply R_nil | (apply R_tmp; apply rfl))); apply rfl))
  all_goals exact vB_of (by simp [h_])
/-- Rows that are not too long. -/
def Small (p : List Cl) : Prop := p.length ≤ 1000000 ∧ ∀ c ∈ p, c.fields.length ≤ 1000000
def vClA (c : Cl) : BV := .agg [vS c.name, vS c.super, .d (encL encFi c.fields), .d (encL encMe c.methods)]
theorem classC_eq (p : List Cl) (a : ByteArray) : (∃ (j : Nat) (c : Cl), p[j]? = some c ∧ findI p a = (j : Int) ∧ classC p a = c) ∨ (findI p a = -1 ∧ classC p a = ⟨⟨#[]⟩, ⟨#[]⟩, [], []⟩) := by
  rcases findI_spec p a with ⟨hf, _⟩ | ⟨j, hj, hf, _, _⟩
  · exact .inr ⟨hf, by unfold classC; rw [if_neg (by omega)]⟩
  · refine .inl ⟨j, p[j], List.getElem?_eq_getElem hj, hf, ?_⟩
    unfold classC clAt
    rw [if_pos (by omega), hf]
    rw [show ((j : Int)).toNat = j from rfl, List.getElem?_eq_getElem hj]
    rfl
theorem class_fields {p : List Cl} (hp : Small p) (a : ByteArray) : (classC p a).fields.length ≤ 1000000 := by
  rcases classC_eq p a with ⟨j, c, hc, _, h⟩ | ⟨_, h⟩
  · rw [h]; exact hp.2 c (List.mem_of_getElem? hc)
  · rw [h]; simp
theorem sp68 (p : List Cl) (a : ByteArray) (hp : p.length ≤ 1000000) : PC 68 [vP p, vS a] (fun r => r = vClA (classC p a)) := by
  have h33 := sp66 p a hp
  rcases classC_eq p a with ⟨j, c, hc, hf, h⟩ | ⟨hf, h⟩
  · rw [h]
    rw [hf] at h33
    have hj := (List.getElem?_eq_some_iff.1 hc).1
    intro S T M
    refine callT_go [] [] Tryz.func68 rfl Tryz.ntmps68 Tryz.results68 ?_
    repeat' (first | apply triL_nil | (apply V; apply rfl; (first | (apply E_mv; apply rfl) | (apply E_as; apply rfl) | (apply E_fa; (apply plT; apply rfl); apply rfl; apply rfl; decide) | (apply E_lda; (apply tyT; apply rfl); apply rfl; (apply at_; apply rfl; apply rfl); apply rfl) | (apply E_ld; (apply tyT; apply rfl); apply rfl; (apply at_; apply rfl; apply rfl); apply rfl) | (apply E_lea; (apply tyT; apply rfl); apply rfl; (first | apply rfl | apply encEx_len | apply encSm_len)) | (apply E_bd; (apply plT; apply rfl); apply rfl) | (apply E_ial (c := c); apply elT; apply rfl; apply rfl; apply rfl; apply rfl; exact encCl_len; omega; simpa using hc))) | (apply Vp; apply rfl; apply rfl; apply fnT; apply rfl; apply h33; rintro _ rfl) | (apply Vd; apply rfl; (apply E_geq; apply rfl; apply rfl); all_goals intro h_) | (apply Vw; apply rfl; (first | (apply W_alL; apply rfl; (apply tyT; apply rfl)) | (apply W_bxL; apply rfl; apply rfl; apply rfl))) | (apply Vs; apply rfl; (apply W_stL; apply rfl; (apply tyT; apply rfl); apply rfl; apply rfl; apply rfl; (first | apply okC_new | (apply okC_ge; omega)); apply rfl; apply rfl; (first | decide | (apply Nat.le_of_ble_eq_true; rfl)))) | (apply s_region; apply rfl) | apply tri_seq | apply tri_skip | apply tri_ret | (apply tri_condT; apply rfl) | (apply tri_condF; apply rfl) | (apply end_q _ (.inr rfl); (exact List.prefix_append _ _); (focus repeat (first | apply R_nil | (apply R_cell; apply rfl; apply rfl; apply tyT; apply rfl; apply rfl; apply rfl))); apply rfl) | apply p_then | apply p_thenR)
    all_goals first | rfl | (exfalso; omega)
  · rw [h]
    rw [hf] at h33
    intro S T M
    refine callT_go [] [] Tryz.func68 rfl Tryz.ntmps68 Tryz.results68 ?_
    repeat' (first | apply triL_nil | (apply V; apply rfl; (first | (apply E_mv; apply rfl) | (apply E_as; apply rfl) | (apply E_fa; (apply plT; apply rfl); apply rfl; apply rfl; decide) | (apply E_lda; (apply tyT; apply rfl); apply rfl; (apply at_; apply rfl; apply rfl); apply rfl) | (apply E_ld; (apply tyT; apply rfl); apply rfl; (apply at_; apply rfl; apply rfl); apply rfl) | (apply E_bd; (apply plT; apply rfl); apply rfl))) | (apply Vp; apply rfl; apply rfl; apply fnT; apply rfl; apply h33; rintro _ rfl) | (apply Vd; apply rfl; (apply E_geq; apply rfl; apply rfl); all_goals intro h_) | (apply Vw; apply rfl; (first | (apply W_alL; apply rfl; (apply tyT; apply rfl)) | (apply W_bxL; apply rfl; apply rfl; apply rfl))) | (apply Vs; apply rfl; (apply W_stL; apply rfl; (apply tyT; apply rfl); apply rfl; apply rfl; apply rfl; (first | apply okC_new | (apply okC_ge; omega)); apply rfl; apply rfl; (first | decide | (apply Nat.le_of_ble_eq_true; rfl)))) | (apply s_region; apply rfl) | apply tri_seq | apply tri_skip | apply tri_ret | (apply tri_condT; apply rfl) | (apply tri_condF; apply rfl) | (apply end_q _ (.inr rfl); (exact List.prefix_append _ _); (focus repeat (first | apply R_nil | (apply R_cell; apply rfl; apply rfl; apply tyT; apply rfl; apply rfl; apply rfl))); apply rfl) | apply p_then | (show TriL _ _ _ _ _ _; exfalso; omega))
    all_goals first | rfl | (exfalso; omega)
end Go.Proofs.YtinffhimfoicdaaGreat

/- The document's fields. No conditions. -/
namespace Go.Proofs.YtinffhimfoicdaaGreat
open Go Go.RowKit Go.Proofs.YtinffhimfoicdaaGreat.Calc
set_option linter.unusedVariables false
set_option linter.unusedSimpArgs false
set_option maxRecDepth 100000
set_option maxHeartbeats 8000000
attribute [local irreducible] Tri TriL TriP CallT stepV stepW thenQ inQ endQ

theorem findF_spec (p : List Fi) (a : ByteArray) : (findF p a = -1 ∧ ∀ x ∈ p, x.name ≠ a) ∨ (∃ j : Nat, ∃ h : j < p.length, findF p a = j ∧ (p[j]).name = a ∧ ∀ (j' : Nat) (h' : j' < j), (p[j']'(by omega)).name ≠ a) := by
  unfold findF
  cases h : p.findIdx? (fun c => decide (c.name = a)) with
  | none =>
    refine .inl ⟨rfl, fun x hx e => ?_⟩
    have := List.findIdx?_eq_none_iff.1 h x hx
    simp [e] at this
  | some j =>
    obtain ⟨hj, h1, h2⟩ := List.findIdx?_eq_some_iff_getElem.1 h
    exact .inr ⟨j, hj, rfl, by simpa using h1, fun j' h' => by simpa using h2 j' h'⟩
theorem findF_at {p : List Fi} {a : ByteArray} {k : Nat} {c : Fi} (hc : p[k]? = some c) (hn : c.name = a) (hpre : ∀ (i : Nat) (c' : Fi), i < k → p[i]? = some c' → c'.name ≠ a) : findF p a = k := by
  obtain ⟨hk, rfl⟩ := List.getElem?_eq_some_iff.1 hc
  rcases findF_spec p a with ⟨_, h⟩ | ⟨j, hj, h1, h2, h3⟩
  · exact absurd hn (h _ (List.getElem_mem hk))
  · rw [h1]
    rcases Nat.lt_trichotomy j k with h | h | h
    · exact absurd h2 (hpre j _ h (List.getElem?_eq_getElem hj))
    · rw [h]
    · exact absurd hn (h3 k h)
theorem findF_none {p : List Fi} {a : ByteArray} (hpre : ∀ (i : Nat) (c' : Fi), p[i]? = some c' → c'.name ≠ a) : findF p a = -1 := by
  rcases findF_spec p a with ⟨h, _⟩ | ⟨j, hj, h1, h2, h3⟩
  · exact h
  · exact absurd h2 (hpre j _ (List.getElem?_eq_getElem hj))
theorem drop_at {α : Type} {l : List α} {k : Nat} {c : α} (hc : l[k]? = some c) : l.drop k = c :: l.drop (k + 1) := by
  obtain ⟨hk', rfl⟩ := List.getElem?_eq_some_iff.1 hc
  exact List.drop_eq_getElem_cons hk'
theorem sp42 (p : List Cl) (a name : ByteArray) (hp : Small p) : PC 42 [vP p, vS a, vS name] (fun r => r = vI (ownF p a name)) := by
  have h128 := sp68 p a hp.1
  have hfl := class_fields hp a
  unfold ownF
  unfold vClA at h128
  generalize classC p a = c at *
  obtain ⟨cn, csup, cf, cm⟩ := c
  dsimp only at *
  intro S T M
  refine callT_go [] [] Tryz.func42 rfl Tryz.ntmps42 Tryz.results42 ?_
  repeat' (first | apply triL_nil | (apply V; apply rfl; (first | (apply E_mv; apply rfl) | (apply E_as; apply rfl) | (apply E_lda; (apply tyT; apply rfl); apply rfl; (apply at_; apply rfl; apply rfl); apply rfl))) | (apply Vp; apply rfl; apply rfl; apply fnT; apply rfl; apply h128; rintro _ rfl) | (apply Vw; apply rfl; (first | (apply W_alL; apply rfl; (apply tyT; apply rfl)) | (apply W_bxL; apply rfl; apply rfl; apply rfl))) | (apply Vs; apply rfl; (apply W_stL; apply rfl; (apply tyT; apply rfl); apply rfl; apply rfl; apply rfl; (first | apply okC_new | (apply okC_ge; omega)); apply rfl; apply rfl; (first | decide | (apply Nat.le_of_ble_eq_true; rfl)))) | (apply s_region; apply rfl) | apply tri_seq | apply tri_block)
  refine tri_fix (fun k : Nat => cf.length - k) (fun k => [(2, vS name), (7, .ptr (S.length + 1) 0), (8, vI k)]) (fun k => k ≤ cf.length ∧ ∀ (i : Nat) (c : Fi), i < k → cf[i]? = some c → c.name ≠ name) 0 ⟨Nat.zero_le _, fun i c h => by omega⟩ ⟨rfl, rfl, rfl, trivial⟩ ?_
  rintro k ⟨hk, hpre⟩
  repeat' (first | apply triL_nil | (apply V; apply rfl; (first | (apply E_mv; apply rfl) | (apply E_as; apply rfl) | (apply E_fa; (apply plT; apply rfl); apply rfl; apply rfl; decide) | (apply E_ld; (apply tyT; apply rfl); apply rfl; (apply at_; apply rfl; apply rfl); apply rfl) | (apply E_len; (apply elT; apply rfl); apply rfl; apply rfl))) | (apply Vd; apply rfl; (apply E_lss; apply rfl; apply rfl); all_goals intro h_) | (apply s_region; apply rfl) | apply tri_seq | apply tri_block | apply tri_skip | apply tri_exit | apply tri_ret | (apply tri_condT; apply rfl) | (apply tri_condF; apply rfl) | (apply end_q _ (.inr rfl); (exact List.prefix_append _ _); (focus repeat (first | apply R_nil | (apply R_tmp; apply rfl))); apply rfl) | apply p_then | apply p_in | apply p_thenE)
  · obtain ⟨c, hc⟩ : ∃ c, cf[k]? = some c := ⟨_, List.getElem?_eq_getElem (by omega)⟩
    repeat' (first | apply triL_nil | (apply V; apply rfl; (first | (apply E_mv; apply rfl) | (apply E_as; apply rfl) | (apply E_fe; (apply plT; apply rfl); apply rfl; apply rfl; decide) | (apply E_le; (apply tyT; apply rfl); apply rfl; apply rfl) | (apply E_add64; apply rfl; apply rfl; apply rfl; omega) | (apply E_ial (c := c); apply elT; apply rfl; apply rfl; apply rfl; apply rfl; exact encFi_len; omega; simpa using hc))) | (apply Vd; apply rfl; (apply E_seql; apply rfl; apply rfl); all_goals intro h_) | (apply s_region; apply rfl) | (apply tri_region; apply rfl) | apply tri_skip | apply tri_ret | (apply tri_condT; apply rfl) | (apply tri_condF; apply rfl) | (apply end_q _ (.inr rfl); (exact List.prefix_append _ _); (focus repeat (first | apply R_nil | (apply R_tmp; apply rfl))); apply rfl) | apply p_then | apply p_inN | apply p_inR | apply p_thenR)
    · exact vI_ret (findF_at hc h_ hpre).symm
    · refine ⟨k + 1, by omega, ⟨by omega, fun i c' hi hc' => ?_⟩, ⟨rfl, rfl, vI_of (by omega), trivial⟩, rfl⟩
      by_cases hik : i = k
      · subst hik
        obtain rfl := Option.some.inj (hc.symm.trans hc')
        assumption
      · exact hpre i c' (by omega) hc'
  · exact vI_ret (findF_none fun i c hc => hpre i c (by have := (List.getElem?_eq_some_iff.1 hc).1; omega) hc).symm
theorem sp23 (p : List Cl) (hp : Small p) : PC 23 [vP p] (fun r => r = .tup [vI (checkF p).1, vI (checkF p).2]) := by
  have h109 := sp41 p hp.1
  have hp1 := hp.1
  unfold checkF
  by_cases he : (checkC p).1 = 0
  case neg =>
    rw [if_pos he]
    rw [decide_eq_false he] at h109
    intro S T M
    refine callT_go [] [] Tryz.func23 rfl Tryz.ntmps23 Tryz.results23 ?_
    repeat' (first | apply triL_nil | (apply V; apply rfl; (first | (apply E_as; apply rfl) | (apply E_lda; (apply tyT; apply rfl); apply rfl; (apply at_; apply rfl; apply rfl); apply rfl) | (apply E_not; apply rfl))) | (apply Vp; apply rfl; apply rfl; apply fnT; apply rfl; apply h109; rintro _ rfl) | (apply Vw; apply rfl; (apply W_bxL; apply rfl; apply rfl; apply rfl)) | (apply s_region; apply rfl) | apply tri_seq | apply tri_ret | (apply tri_condT; apply rfl) | (apply end_q _ (.inr rfl); (exact List.prefix_append _ _); (focus repeat (first | apply R_nil | (apply R_tmp; apply rfl))); apply rfl) | apply p_thenR)
    rfl
  rw [if_neg (fun h => h he)]
  rw [decide_eq_true he] at h109
  intro S T M
  refine callT_go [] [] Tryz.func23 rfl Tryz.ntmps23 Tryz.results23 ?_
  repeat' (first | apply triL_nil | (apply V; apply rfl; (first | (apply E_as; apply rfl) | (apply E_lda; (apply tyT; apply rfl); apply rfl; (apply at_; apply rfl; apply rfl); apply rfl) | (apply E_not; apply rfl))) | (apply Vp; apply rfl; apply rfl; apply fnT; apply rfl; apply h109; rintro _ rfl) | (apply Vw; apply rfl; (apply W_bxL; apply rfl; apply rfl; apply rfl)) | (apply s_region; apply rfl) | apply tri_seq | apply tri_block | apply tri_skip | (apply tri_condF; apply rfl) | apply p_then)
  refine tri_fix (fun k : Nat => p.length - k) (fun k => [(1, .ptr (S.length + 0) 0), (4, vI k)]) (fun k => k ≤ p.length ∧ chkF p p 0 = chkF p (p.drop k) k) 0 ⟨Nat.zero_le _, by rw [List.drop_zero]⟩ ⟨rfl, rfl, trivial⟩ ?_
  rintro k ⟨hk, hch⟩
  repeat' (first | apply triL_nil | (apply V; apply rfl; (first | (apply E_mv; apply rfl) | (apply E_as; apply rfl) | (apply E_fa; (apply plT; apply rfl); apply rfl; apply rfl; decide) | (apply E_ld; (apply tyT; apply rfl); apply rfl; (apply at_; apply rfl; apply rfl); apply rfl) | (apply E_len; (apply elT; apply rfl); apply rfl; apply rfl))) | (apply Vd; apply rfl; (apply E_lss; apply rfl; apply rfl); all_goals intro h_) | (apply s_region; apply rfl) | apply tri_seq | apply tri_block | apply tri_skip | apply tri_exit | apply tri_ret | (apply tri_condT; apply rfl) | (apply tri_condF; apply rfl) | (apply end_q _ (.inr rfl); (exact List.prefix_append _ _); (focus repeat (first | apply R_nil | (apply R_tmp; apply rfl))); apply rfl) | apply p_then | apply p_in | apply p_thenE)
  · obtain ⟨c, hc⟩ : ∃ c, p[k]? = some c := ⟨_, List.getElem?_eq_getElem (by omega)⟩
    rw [drop_at hc, chkF] at hch
    have hfl := hp.2 c (List.mem_of_getElem? hc)
    repeat' (first | apply triL_nil | (apply V; apply rfl; (first | (apply E_as; apply rfl) | (apply E_fe; (apply plT; apply rfl); apply rfl; apply rfl; decide) | (apply E_le; (apply tyT; apply rfl); apply rfl; apply rfl) | (apply E_ial (c := c); apply elT; apply rfl; apply rfl; apply rfl; apply rfl; exact encCl_len; omega; simpa using hc))) | (apply s_region; apply rfl) | apply tri_seq | apply tri_block)
    refine tri_fix (fun j : Nat => c.fields.length - j) (fun j => [(1, .ptr (S.length + 0) 0), (4, vI k), (5, .d (encL encFi c.fields)), (6, vI j)]) (fun j => j ≤ c.fields.length ∧ chkF1 p c.name c.fields 0 = chkF1 p c.name (c.fields.drop j) j) 0 ⟨Nat.zero_le _, by rw [List.drop_zero]⟩ ⟨rfl, rfl, rfl, rfl, trivial⟩ ?_
    rintro j ⟨hj, hc1⟩
    repeat' (first | apply triL_nil | (apply V; apply rfl; (first | (apply E_mv; apply rfl) | (apply E_as; apply rfl) | (apply E_len; (apply elT; apply rfl); apply rfl; apply rfl))) | (apply Vd; apply rfl; (apply E_lss; apply rfl; apply rfl); all_goals intro h_) | (apply s_region; apply rfl) | apply tri_seq | apply tri_block | apply tri_skip | apply tri_exit | (apply tri_condT; apply rfl) | (apply tri_condF; apply rfl) | apply p_then | apply p_in | apply p_thenE)
    · obtain ⟨f, hf⟩ : ∃ f, c.fields[j]? = some f := ⟨_, List.getElem?_eq_getElem (by omega)⟩
      rw [drop_at hf, chkF1] at hc1
      have h110 := sp42 p c.name f.name hp
      repeat' (first | apply triL_nil | (apply V; apply rfl; (first | (apply E_mv; apply rfl) | (apply E_as; apply rfl) | (apply E_fa; (apply plT; apply rfl); apply rfl; apply rfl; decide) | (apply E_fe; (apply plT; apply rfl); apply rfl; apply rfl; decide) | (apply E_lda; (apply tyT; apply rfl); apply rfl; (apply at_; apply rfl; apply rfl); apply rfl) | (apply E_ld; (apply tyT; apply rfl); apply rfl; (apply at_; apply rfl; apply rfl); apply rfl) | (apply E_le; (apply tyT; apply rfl); apply rfl; apply rfl) | (apply E_add64; apply rfl; apply rfl; apply rfl; omega) | (apply E_ial (c := c); apply elT; apply rfl; apply rfl; apply rfl; apply rfl; exact encCl_len; omega; simpa using hc) | (apply E_ial (c := f); apply elT; apply rfl; apply rfl; apply rfl; apply rfl; exact encFi_len; omega; simpa using hf))) | (apply t_drawn (nt := 61) (.take 0 (.take 1 (.take 2 (.take 3 (.take 4 (.take 5 (.take 6 (.take 7 (.take 8 (.take 9 (.take 10 (.take 11 (.take 13 (.one 12 (.take 14 .nil))))))))))))))) [] []; exact mixed; rfl; decide +kernel) | (apply oP; apply rfl; apply rfl; apply rfl; apply fnT; apply rfl; apply h110; rintro _ rfl) | (apply s_region; apply rfl) | (apply tri_region; apply rfl) | apply tri_skip | apply tri_ret | (apply tri_condT; apply rfl) | (apply tri_condF; apply rfl) | (apply end_q _ (.inr rfl); (exact List.prefix_append _ _); (focus repeat (first | apply R_nil | (apply R_tmp; apply rfl))); apply rfl) | apply p_then | apply p_inN | apply p_inR | apply p_thenR | apply d_nil | (apply tV; apply rfl; apply rfl; (first | (apply E_mv; apply rfl) | (apply E_as; apply rfl) | (apply E_fa; (apply plT; apply rfl); apply rfl; apply rfl; decide) | (apply E_fe; (apply plT; apply rfl); apply rfl; apply rfl; decide) | (apply E_lda; (apply tyT; apply rfl); apply rfl; (apply at_; apply rfl; apply rfl); apply rfl) | (apply E_ld; (apply tyT; apply rfl); apply rfl; (apply at_; apply rfl; apply rfl); apply rfl) | (apply E_le; (apply tyT; apply rfl); apply rfl; apply rfl) | (apply E_add64; apply rfl; apply rfl; apply rfl; omega) | (apply E_ial (c := c); apply elT; apply rfl; apply rfl; apply rfl; apply rfl; exact encCl_len; omega; simpa using hc) | (apply E_ial (c := f); apply elT; apply rfl; apply rfl; apply rfl; apply rfl; exact encFi_len; omega; simpa using hf)); apply rfl) | (apply tVd; apply rfl; apply rfl; (apply E_neq; apply rfl; apply rfl); apply rfl; all_goals intro h_))
      · rw [if_pos h_] at hc1
        rw [if_pos hc1] at hch
        rw [hch]
        rfl
      · rw [if_neg h_] at hc1
        exact ⟨j + 1, by omega, ⟨by omega, hc1⟩, ⟨rfl, rfl, rfl, vI_of (by omega), trivial⟩, rfl⟩
    · rw [List.drop_of_length_le (by omega), chkF1] at hc1
      rw [if_neg (by rw [hc1]; decide)] at hch
      refine tri_fix (fun j : Nat => c.fields.length - j) (fun j => [(1, .ptr (S.length + 0) 0), (4, vI k), (5, .d (encL encFi c.fields)), (7, vI j)]) (fun j => j ≤ c.fields.length ∧ chkF2 p c.fields = chkF2 p (c.fields.drop j)) 0 ⟨Nat.zero_le _, by rw [List.drop_zero]⟩ ⟨rfl, rfl, rfl, rfl, trivial⟩ ?_
      clear hc1
      rintro j ⟨hj, hc2⟩
      repeat' (first | apply triL_nil | (apply V; apply rfl; (first | (apply E_mv; apply rfl) | (apply E_as; apply rfl) | (apply E_len; (apply elT; apply rfl); apply rfl; apply rfl) | (apply E_add64; apply rfl; apply rfl; apply rfl; omega))) | (apply Vd; apply rfl; (apply E_lss; apply rfl; apply rfl); all_goals intro h_) | (apply s_region; apply rfl) | apply tri_seq | (apply tri_region; apply rfl) | apply tri_block | apply tri_skip | apply tri_exit | (apply tri_condT; apply rfl) | (apply tri_condF; apply rfl) | apply p_then | apply p_in | apply p_inN | apply p_thenE)
      · obtain ⟨f, hf⟩ : ∃ f, c.fields[j]? = some f := ⟨_, List.getElem?_eq_getElem (by omega)⟩
        rw [drop_at hf, chkF2] at hc2
        have h26 := sp43 p f.typ hp1
        cases ht : typeC p f.typ
        all_goals
          rw [ht] at h26 hc2
          repeat' (first | apply triL_nil | (apply V; apply rfl; (first | (apply E_mv; apply rfl) | (apply E_as; apply rfl) | (apply E_fe; (apply plT; apply rfl); apply rfl; apply rfl; decide) | (apply E_lda; (apply tyT; apply rfl); apply rfl; (apply at_; apply rfl; apply rfl); apply rfl) | (apply E_le; (apply tyT; apply rfl); apply rfl; apply rfl) | (apply E_not; apply rfl) | (apply E_add64; apply rfl; apply rfl; apply rfl; omega) | (apply E_ial (c := f); apply elT; apply rfl; apply rfl; apply rfl; apply rfl; exact encFi_len; omega; simpa using hf))) | (apply t_drawn (nt := 61) (.take 0 (.take 1 (.take 2 (.take 3 (.take 4 (.take 5 (.one 6 (.take 7 .nil)))))))) [] []; exact mixed; rfl; decide +kernel) | (apply oP; apply rfl; apply rfl; apply rfl; apply fnT; apply rfl; apply h26; rintro _ rfl) | (apply s_region; apply rfl) | (apply tri_region; apply rfl) | apply tri_skip | apply tri_ret | (apply tri_condT; apply rfl) | (apply tri_condF; apply rfl) | (apply end_q _ (.inr rfl); (exact List.prefix_append _ _); (focus repeat (first | apply R_nil | (apply R_tmp; apply rfl))); apply rfl) | apply p_then | apply p_inN | apply p_inR | apply p_thenR | apply d_nil | (apply tV; apply rfl; apply rfl; (first | (apply E_mv; apply rfl) | (apply E_as; apply rfl) | (apply E_fe; (apply plT; apply rfl); apply rfl; apply rfl; decide) | (apply E_lda; (apply tyT; apply rfl); apply rfl; (apply at_; apply rfl; apply rfl); apply rfl) | (apply E_le; (apply tyT; apply rfl); apply rfl; apply rfl) | (apply E_not; apply rfl) | (apply E_add64; apply rfl; apply rfl; apply rfl; omega) | (apply E_ial (c := f); apply elT; apply rfl; apply rfl; apply rfl; apply rfl; exact encFi_len; omega; simpa using hf)); apply rfl))
        · rw [if_neg (by decide)] at hc2
          rw [if_pos hc2] at hch
          rw [hch]
          rfl
        · rw [if_pos rfl] at hc2
          exact ⟨j + 1, by omega, ⟨by omega, hc2⟩, ⟨rfl, rfl, rfl, vI_of (by omega), trivial⟩, rfl⟩
      · rw [List.drop_of_length_le (by omega), chkF2] at hc2
        rw [if_neg (by rw [hc2]; decide)] at hch
        exact ⟨k + 1, by omega, ⟨by omega, hch⟩, ⟨rfl, vI_of (by omega), trivial⟩, rfl⟩
  · rw [List.drop_of_length_le (by omega), chkF] at hch
    rw [hch]
    rfl
/-- 6.1's Sub. -/
def subC (p : List Cl) (a b : ByteArray) : Bool := if a = NULL then decide (b = NULL) || isC p b else if typeC p a = true ∧ typeC p b = true then decide (a = b) || inS (chC p a) b else false
theorem sp122 (p : List Cl) (a b : ByteArray) (hp : p.length ≤ 1000000) : PC 122 [vP p, vS a, vS b] (fun r => r = vB (subC p a b)) := by
  have h25 := sp31 p b hp
  have h26 := sp43 p a hp
  have h26' := sp43 p b hp
  have h28 := sp67 p a hp
  unfold subC
  cases hi : isC p b <;> cases ha : typeC p a <;> cases hb : typeC p b
  all_goals
    rw [hi] at h25
    rw [ha] at h26
    rw [hb] at h26'
    intro S T M
    refine callT_go [] [] Tryz.func122 rfl Tryz.ntmps122 Tryz.results122 ?_
    repeat' (first | apply triL_nil | (apply V; apply rfl; (first | (apply E_mv; apply rfl) | (apply E_as; apply rfl) | (apply E_lda; (apply tyT; apply rfl); apply rfl; (apply at_; apply rfl; apply rfl); apply rfl) | (apply E_pkT; apply rfl; apply rfl) | (apply E_pkF; apply rfl; apply rfl) | (apply E_not; apply rfl))) | (apply Vp; apply rfl; apply rfl; apply fnT; apply rfl; apply h25; rintro _ rfl) | (apply Vp; apply rfl; apply rfl; apply fnT; apply rfl; apply h26; rintro _ rfl) | (apply Vp; apply rfl; apply rfl; apply fnT; apply rfl; apply h26'; rintro _ rfl) | (apply Vp; apply rfl; apply rfl; apply fnT; apply rfl; apply h28; rintro _ rfl) | (apply Vp; apply rfl; apply rfl; apply fnT; apply rfl; apply (sp95 (chC p a) b); rintro _ ⟨(_ | _), rfl, hin_⟩) | (apply Vd; apply rfl; (apply E_seql; apply rfl; apply rfl); all_goals intro h_) | (apply Vo; apply rfl) | (apply Vw; apply rfl; (apply W_bxL; apply rfl; apply rfl; apply rfl)) | (apply s_region; apply rfl) | apply tri_seq | apply tri_block | apply tri_skip | apply tri_ret | (apply tri_condT; apply rfl) | (apply tri_condF; apply rfl) | (apply end_q _ (.inr rfl); (exact List.prefix_append _ _); (focus repeat (first | apply R_nil | (apply R_tmp; apply rfl))); apply rfl) | apply p_then | apply p_inN | apply p_inR | apply p_thenR)
    all_goals
      refine vB_of ?_
      unfold NULL
      first
        | (have q := inS_iff.2 (hin_.1 rfl); simp_all; done)
        | (have q := inS_false.2 (fun h => by cases hin_.2 h); simp_all; done)
        | (simp_all; done)
end Go.Proofs.YtinffhimfoicdaaGreat

/- The program's classes: which there are, supers, chains. No conditions. -/
namespace Go.Proofs.YtinffhimfoicdaaGreat
open Go Go.RowKit Go.Proofs.YtinffhimfoicdaaGreat.Calc
set_option linter.unusedVariables false
set_option linter.unusedSimpArgs false
set_option maxRecDepth 100000
set_option maxHeartbeats 8000000
attribute [local irreducible] Tri TriL TriP CallT stepV stepW thenQ inQ endQ

/-- The first place of a text. -/
def findS (l : List ByteArray) (a : ByteArray) : Int :=
  match l.findIdx? (fun c => decide (c = a)) with
  | some i => i
  | none => -1
theorem findS_spec (p : List ByteArray) (a : ByteArray) : (findS p a = -1 ∧ ∀ x ∈ p, x ≠ a) ∨ (∃ j : Nat, ∃ h : j < p.length, findS p a = j ∧ p[j] = a ∧ ∀ (j' : Nat) (h' : j' < j), (p[j']'(by omega)) ≠ a) := by
  unfold findS
  cases h : p.findIdx? (fun c => decide (c = a)) with
  | none =>
    refine .inl ⟨rfl, fun x hx e => ?_⟩
    have := List.findIdx?_eq_none_iff.1 h x hx
    simp [e] at this
  | some j =>
    obtain ⟨hj, h1, h2⟩ := List.findIdx?_eq_some_iff_getElem.1 h
    exact .inr ⟨j, hj, rfl, by simpa using h1, fun j' h' => by simpa using h2 j' h'⟩
theorem findS_at {p : List ByteArray} {a c : ByteArray} {k : Nat} (hc : p[k]? = some c) (hn : c = a) (hpre : ∀ (i : Nat) (c' : ByteArray), i < k → p[i]? = some c' → c' ≠ a) : findS p a = k := by
  obtain ⟨hk, rfl⟩ := List.getElem?_eq_some_iff.1 hc
  rcases findS_spec p a with ⟨_, h⟩ | ⟨j, hj, h1, h2, h3⟩
  · exact absurd hn (h _ (List.getElem_mem hk))
  · rw [h1]
    rcases Nat.lt_trichotomy j k with h | h | h
    · exact absurd h2 (hpre j _ h (List.getElem?_eq_getElem hj))
    · rw [h]
    · exact absurd hn (h3 k h)
theorem findS_none {p : List ByteArray} {a : ByteArray} (hpre : ∀ (i : Nat) (c' : ByteArray), p[i]? = some c' → c' ≠ a) : findS p a = -1 := by
  rcases findS_spec p a with ⟨h, _⟩ | ⟨j, hj, h1, h2, h3⟩
  · exact h
  · exact absurd h2 (hpre j _ (List.getElem?_eq_getElem hj))
theorem findS_in (p : List ByteArray) (a : ByteArray) : decide (0 ≤ findS p a) = inS p a := by
  rw [Bool.eq_iff_iff, decide_eq_true_eq, inS_iff]
  rcases findS_spec p a with ⟨h, hn⟩ | ⟨j, hj, h1, h2, h3⟩
  · exact ⟨fun h0 => by omega, fun hm => absurd rfl (hn a hm)⟩
  · exact ⟨fun _ => h2 ▸ List.getElem_mem hj, fun _ => by omega⟩
theorem sp94 (l : List ByteArray) (s : ByteArray) (hl : l.length ≤ 1000000000) : PC 94 [.d (encL encStr l), vS s] (fun r => r = vI (findS l s)) := by
  intro S T M
  refine callT_go [] [] Tryz.func94 rfl Tryz.ntmps94 Tryz.results94 ?_
  repeat' (first | apply triL_nil | (apply V; apply rfl; (first | (apply E_mv; apply rfl) | (apply E_as; apply rfl) | (apply E_len; (apply elT; apply rfl); apply rfl; apply rfl))) | (apply s_region; apply rfl) | apply tri_seq | apply tri_block)
  refine tri_fix (fun k : Nat => l.length - k) (fun k => [(0, .d (encL encStr l)), (1, vS s), (7, vI l.length), (8, vI k)]) (fun k => k ≤ l.length ∧ ∀ (i : Nat) (c : ByteArray), i < k → l[i]? = some c → c ≠ s) 0 ⟨Nat.zero_le _, fun i c h => by omega⟩ ⟨rfl, rfl, rfl, rfl, trivial⟩ ?_
  rintro k ⟨hk, hpre⟩
  repeat' (first | apply triL_nil | (apply V; apply rfl; (first | (apply E_mv; apply rfl) | (apply E_as; apply rfl))) | (apply Vd; apply rfl; (apply E_lss; apply rfl; apply rfl); all_goals intro h_) | (apply s_region; apply rfl) | apply tri_seq | apply tri_block | apply tri_skip | apply tri_exit | apply tri_ret | (apply tri_condT; apply rfl) | (apply tri_condF; apply rfl) | (apply end_q _ (.inr rfl); (exact List.prefix_append _ _); (focus repeat (first | apply R_nil | (apply R_tmp; apply rfl))); apply rfl) | apply p_then | apply p_in | apply p_thenE)
  · obtain ⟨c, hc⟩ : ∃ c, l[k]? = some c := ⟨_, List.getElem?_eq_getElem (by omega)⟩
    repeat' (first | apply triL_nil | (apply V; apply rfl; (first | (apply E_mv; apply rfl) | (apply E_as; apply rfl) | (apply E_le; (apply tyT; apply rfl); apply rfl; apply rfl) | (apply E_add64; apply rfl; apply rfl; apply rfl; omega) | (apply E_ial (c := c); apply elT; apply rfl; apply rfl; apply rfl; apply rfl; exact encStr_len; omega; simpa using hc))) | (apply Vd; apply rfl; (apply E_seql; apply rfl; apply rfl); all_goals intro h_) | (apply s_region; apply rfl) | (apply tri_region; apply rfl) | apply tri_skip | apply tri_ret | (apply tri_condT; apply rfl) | (apply tri_condF; apply rfl) | (apply end_q _ (.inr rfl); (exact List.prefix_append _ _); (focus repeat (first | apply R_nil | (apply R_tmp; apply rfl))); apply rfl) | apply p_then | apply p_inN | apply p_inR | apply p_thenR)
    · exact vI_ret (findS_at hc (Eq.symm h_) hpre).symm
    · refine ⟨k + 1, by omega, ⟨by omega, fun i c' hi hc' => ?_⟩, ⟨rfl, rfl, rfl, vI_of (by omega), trivial⟩, rfl⟩
      by_cases hik : i = k
      · subst hik
        obtain rfl := Option.some.inj (hc.symm.trans hc')
        intro e
        exact absurd e.symm (by assumption)
      · exact hpre i c' (by omega) hc'
  · exact vI_ret (findS_none fun i c hc => hpre i c (by have := (List.getElem?_eq_some_iff.1 hc).1; omega) hc).symm
theorem sp61 (l : List ByteArray) (s : ByteArray) (hl : l.length ≤ 1000000000) : PC 61 [.d (encL encStr l), vS s] (fun r => r = vB (inS l s)) := by
  have h85 := sp94 l s hl
  have hin := findS_in l s
  intro S T M
  refine callT_go [] [] Tryz.func61 rfl Tryz.ntmps61 Tryz.results61 ?_
  repeat' (first | apply triL_nil | (apply V; apply rfl; (first | (apply E_mv; apply rfl) | (apply E_as; apply rfl))) | (apply Vp; apply rfl; apply rfl; apply fnT; apply rfl; apply h85; rintro _ rfl) | (apply Vd; apply rfl; (apply E_geq; apply rfl; apply rfl); all_goals intro h_) | (apply s_region; apply rfl) | apply tri_ret | (apply end_q _ (.inr rfl); (exact List.prefix_append _ _); (focus repeat (first | apply R_nil | (apply R_tmp; apply rfl))); apply rfl))
  all_goals exact vB_of (by rw [← hin]; simp [h_])
theorem sp61d {ds : List DV} {n : Nat} {l : List ByteArray} {s : ByteArray} (h : strsOf ds = some l) (hn : l.length = n) (hl : l.length ≤ 1000000000) : PC 61 [.d (.sl ds n), vS s] (fun r => r = vB (inS l s)) := by
  subst hn
  rw [strsOf_eq h]
  exact sp61 l s hl
theorem sp60 (s : ByteArray) : PC 60 [vS s] (fun r => r = vB (inS BS s)) := by
  intro S T M
  refine callT_go [] [] Tryz.func60 rfl Tryz.ntmps60 Tryz.results60 ?_
  repeat' (first | apply triL_nil | (apply V; apply rfl; (first | (apply E_mv; apply rfl) | (apply E_as; apply rfl))) | (apply Vp; apply rfl; apply rfl; apply fnT; apply rfl; apply call_wk; apply rfl; apply sp61d; apply rfl; apply rfl; decide; rintro _ rfl) | (apply Vw; apply rfl; (apply W_bsL; apply rfl; (apply elT; apply rfl); (apply tyT; apply rfl); apply rfl; decide; apply rfl; apply rfl)) | (apply s_region; apply rfl) | apply tri_ret | (apply end_q _ (.inr rfl); (exact List.prefix_append _ _); (focus repeat (first | apply R_nil | (apply R_tmp; apply rfl))); apply rfl))
  rfl
/-- A call that only reads, where a box holds a text. -/
abbrev NC (name : ByteArray) (f : Nat) (args : Nat → List BV) (R : BV → Prop) : Prop := ∀ S T M id, S[id]? = some ([vS name], 9) → CallT Tryz.prog [] [] f (args id) ⟨S, T, M⟩ (fun r s => s = ⟨S, T, M⟩ ∧ R r)
theorem sp64 (c : Cl) (name : ByteArray) : NC name 64 (fun id => [.agg ((encCl c).map .d), .ptr id 0]) (fun r => r = vB (decide (c.name = name))) := by
  intro S T M id hid
  refine callT_go [] [] Tryz.func64 rfl Tryz.ntmps64 Tryz.results64 ?_
  repeat' (first | apply triL_nil | (apply V; apply rfl; (first | (apply E_as; apply rfl) | (apply E_fa; (apply plT; apply rfl); apply rfl; apply rfl; decide) | (apply E_ld; (apply tyT; apply rfl); apply rfl; (first | (apply at_; apply rfl; apply rfl) | (apply at_old; assumption)); apply rfl))) | (apply Vd; apply rfl; (apply E_seql; apply rfl; apply rfl); all_goals intro h_) | (apply Vw; apply rfl; (apply W_bxL; apply rfl; apply rfl; apply rfl)) | (apply s_region; apply rfl) | apply tri_ret | (apply end_q _ (.inr rfl); (exact List.prefix_append _ _); (focus repeat (first | apply R_nil | (apply R_tmp; apply rfl))); apply rfl))
  all_goals exact vB_of (by simp [h_])
theorem sp63 (p : List Cl) (name : ByteArray) (hp : p.length ≤ 1000000) : NC name 63 (fun id => [.d (encL encCl p), .fn 64 [.ptr id 0]]) (fun r => r = vI (findI p name)) := by
  intro S T M id hid
  refine callT_go [] [] Tryz.func63 rfl Tryz.ntmps63 Tryz.results63 ?_
  repeat' (first | apply triL_nil | (apply V; apply rfl; (first | (apply E_mv; apply rfl) | (apply E_as; apply rfl) | (apply E_len; (apply elT; apply rfl); apply rfl; apply rfl))) | (apply s_region; apply rfl) | apply tri_seq | apply tri_block)
  refine tri_fix (fun k : Nat => p.length - k) (fun k => [(0, .d (encL encCl p)), (1, .fn 64 [.ptr id 0]), (7, vI p.length), (8, vI k)]) (fun k => k ≤ p.length ∧ ∀ (i : Nat) (c : Cl), i < k → p[i]? = some c → c.name ≠ name) 0 ⟨Nat.zero_le _, fun i c h => by omega⟩ ⟨rfl, rfl, rfl, rfl, trivial⟩ ?_
  rintro k ⟨hk, hpre⟩
  repeat' (first | apply triL_nil | (apply V; apply rfl; (first | (apply E_mv; apply rfl) | (apply E_as; apply rfl))) | (apply Vd; apply rfl; (apply E_lss; apply rfl; apply rfl); all_goals intro h_) | (apply s_region; apply rfl) | apply tri_seq | apply tri_block | apply tri_skip | apply tri_exit | apply tri_ret | (apply tri_condT; apply rfl) | (apply tri_condF; apply rfl) | (apply end_q _ (.inr rfl); (exact List.prefix_append _ _); (focus repeat (first | apply R_nil | (apply R_tmp; apply rfl))); apply rfl) | apply p_then | apply p_in | apply p_thenE)
  · obtain ⟨c, hc⟩ : ∃ c, p[k]? = some c := ⟨_, List.getElem?_eq_getElem (by omega)⟩
    have h116 := sp64 c name
    by_cases hcn : c.name = name
    · rw [decide_eq_true hcn] at h116
      repeat' (first | apply triL_nil | (apply V; apply rfl; (first | (apply E_mv; apply rfl) | (apply E_as; apply rfl) | (apply E_lea; (apply tyT; apply rfl); apply rfl; (first | apply rfl | apply encEx_len | apply encSm_len)) | (apply E_ial (c := c); apply elT; apply rfl; apply rfl; apply rfl; apply rfl; exact encCl_len; omega; simpa using hc))) | (apply Vp; apply rfl; apply rfl; apply fnT; apply rfl; apply h116; (first | (apply at_old; assumption) | assumption); rintro _ rfl) | (apply s_region; apply rfl) | apply tri_ret | (apply tri_condT; apply rfl) | (apply end_q _ (.inr rfl); (exact List.prefix_append _ _); (focus repeat (first | apply R_nil | (apply R_tmp; apply rfl))); apply rfl) | apply p_inR | apply p_thenR)
      exact vI_ret (findI_at hc hcn hpre).symm
    · rw [decide_eq_false hcn] at h116
      repeat' (first | apply triL_nil | (apply V; apply rfl; (first | (apply E_mv; apply rfl) | (apply E_lea; (apply tyT; apply rfl); apply rfl; (first | apply rfl | apply encEx_len | apply encSm_len)) | (apply E_add64; apply rfl; apply rfl; apply rfl; omega) | (apply E_ial (c := c); apply elT; apply rfl; apply rfl; apply rfl; apply rfl; exact encCl_len; omega; simpa using hc))) | (apply Vp; apply rfl; apply rfl; apply fnT; apply rfl; apply h116; (first | (apply at_old; assumption) | assumption); rintro _ rfl) | (apply tri_region; apply rfl) | apply tri_skip | (apply tri_condF; apply rfl) | apply p_then | apply p_inN)
      refine ⟨k + 1, by omega, ⟨by omega, fun i c' hi hc' => ?_⟩, ⟨rfl, rfl, rfl, vI_of (by omega), trivial⟩, rfl⟩
      by_cases hik : i = k
      · subst hik
        obtain rfl := Option.some.inj (hc.symm.trans hc')
        assumption
      · exact hpre i c' (by omega) hc'
  · exact vI_ret (findI_none fun i c hc => hpre i c (by have := (List.getElem?_eq_some_iff.1 hc).1; omega) hc).symm
theorem sp30 (p : List Cl) (name : ByteArray) (hp : p.length ≤ 1000000) : PC 30 [vP p, vS name] (fun r => r = vI (findI p name)) := by
  have h115 := sp63 p name hp
  intro S T M
  refine callT_go [] [] Tryz.func30 rfl Tryz.ntmps30 Tryz.results30 ?_
  repeat' (first | apply triL_nil | (apply V; apply rfl; (first | (apply E_as; apply rfl) | (apply E_fa; (apply plT; apply rfl); apply rfl; apply rfl; decide) | (apply E_ld; (apply tyT; apply rfl); apply rfl; (apply at_; apply rfl; apply rfl); apply rfl) | (apply E_mf; apply rfl))) | (apply Vp; apply rfl; apply rfl; apply fnT; apply rfl; apply h115; (first | (apply at_; apply rfl; apply rfl) | (apply at_old; assumption) | assumption); rintro _ rfl) | (apply Vw; apply rfl; (apply W_bxL; apply rfl; apply rfl; apply rfl)) | (apply s_region; apply rfl) | apply tri_ret | (apply end_q _ (.inr rfl); (exact List.prefix_append _ _); (focus repeat (first | apply R_nil | (apply R_tmp; apply rfl))); apply rfl))
  rfl
theorem sp28 (p : List Cl) (a : ByteArray) (hp : p.length ≤ 1000000) : PC 28 [vP p, vS a] (fun r => r = vB (isC p a)) := by
  have h32 := sp60 a
  have h33 := sp30 p a hp
  unfold isC
  cases hb : inS BS a
  all_goals
    rw [hb] at h32
    intro S T M
    refine callT_go [] [] Tryz.func28 rfl Tryz.ntmps28 Tryz.results28 ?_
    repeat' (first | apply triL_nil | (apply V; apply rfl; (first | (apply E_mv; apply rfl) | (apply E_as; apply rfl) | (apply E_lda; (apply tyT; apply rfl); apply rfl; (apply at_; apply rfl; apply rfl); apply rfl) | (apply E_pkT; apply rfl; apply rfl) | (apply E_pkF; apply rfl; apply rfl))) | (apply Vp; apply rfl; apply rfl; apply fnT; apply rfl; apply h32; rintro _ rfl) | (apply Vp; apply rfl; apply rfl; apply fnT; apply rfl; apply h33; rintro _ rfl) | (apply Vd; apply rfl; (apply E_geq; apply rfl; apply rfl); all_goals intro h_) | (apply Vo; apply rfl) | (apply Vw; apply rfl; (apply W_bxL; apply rfl; apply rfl; apply rfl)) | (apply s_region; apply rfl) | apply tri_ret | (apply end_q _ (.inr rfl); (exact List.prefix_append _ _); (focus repeat (first | apply R_nil | (apply R_tmp; apply rfl))); apply rfl))
    all_goals first | exact vB_of rfl | exact vB_of (by simp [h_])
theorem sp62 (p : List Cl) (a : ByteArray) (hp : p.length ≤ 1000000) : PC 62 [vP p, vS a] (fun r => r = vS (supC p a)) := by
  have h32 := sp60 a
  have h33 := sp30 p a hp
  unfold supC
  rcases findI_spec p a with ⟨hf, _⟩ | ⟨j, hj, hf, _, _⟩
  · cases hb : inS BS a
    all_goals
      rw [hb] at h32
      rw [hf] at h33
      intro S T M
      refine callT_go [] [] Tryz.func62 rfl Tryz.ntmps62 Tryz.results62 ?_
      repeat' (first | apply triL_nil | (apply V; apply rfl; (first | (apply E_mv; apply rfl) | (apply E_as; apply rfl) | (apply E_fa; (apply plT; apply rfl); apply rfl; apply rfl; decide) | (apply E_lda; (apply tyT; apply rfl); apply rfl; (apply at_; apply rfl; apply rfl); apply rfl) | (apply E_ld; (apply tyT; apply rfl); apply rfl; (apply at_; apply rfl; apply rfl); apply rfl))) | (apply Vp; apply rfl; apply rfl; apply fnT; apply rfl; apply h32; rintro _ rfl) | (apply Vp; apply rfl; apply rfl; apply fnT; apply rfl; apply h33; rintro _ rfl) | (apply Vd; apply rfl; (first | (apply E_lss; apply rfl; apply rfl) | (apply E_seql; apply rfl; apply rfl)); all_goals intro h_) | (apply Vw; apply rfl; (apply W_bxL; apply rfl; apply rfl; apply rfl)) | (apply s_region; apply rfl) | apply tri_seq | apply tri_skip | apply tri_ret | (apply tri_condT; apply rfl) | (apply tri_condF; apply rfl) | (apply end_q _ (.inr rfl); (exact List.prefix_append _ _); (focus repeat (first | apply R_nil | (apply R_tmp; apply rfl))); apply rfl) | apply p_then | apply p_thenR | (show TriL _ _ _ _ _ _; exfalso; omega))
      all_goals first | (exfalso; omega) | exact vS_of (by rw [if_pos rfl, if_pos (show a = EXC from h_)]; rfl) | exact vS_of (by rw [if_pos rfl, if_neg (show ¬ a = EXC from h_)]; rfl) | exact vS_of (by rw [if_neg (by decide), if_pos (by omega)]; rfl)
  · obtain ⟨c, hc⟩ : ∃ c, p[j]? = some c := ⟨_, List.getElem?_eq_getElem hj⟩
    cases hb : inS BS a
    all_goals
      rw [hb] at h32
      rw [hf] at h33
      intro S T M
      refine callT_go [] [] Tryz.func62 rfl Tryz.ntmps62 Tryz.results62 ?_
      repeat' (first | apply triL_nil | (apply V; apply rfl; (first | (apply E_mv; apply rfl) | (apply E_as; apply rfl) | (apply E_fa; (apply plT; apply rfl); apply rfl; apply rfl; decide) | (apply E_fe; (apply plT; apply rfl); apply rfl; apply rfl; decide) | (apply E_lda; (apply tyT; apply rfl); apply rfl; (apply at_; apply rfl; apply rfl); apply rfl) | (apply E_ld; (apply tyT; apply rfl); apply rfl; (apply at_; apply rfl; apply rfl); apply rfl) | (apply E_le; (apply tyT; apply rfl); apply rfl; apply rfl) | (apply E_ial (c := c); apply elT; apply rfl; apply rfl; apply rfl; apply rfl; exact encCl_len; omega; simpa using hc))) | (apply Vp; apply rfl; apply rfl; apply fnT; apply rfl; apply h32; rintro _ rfl) | (apply Vp; apply rfl; apply rfl; apply fnT; apply rfl; apply h33; rintro _ rfl) | (apply Vd; apply rfl; (first | (apply E_lss; apply rfl; apply rfl) | (apply E_seql; apply rfl; apply rfl)); all_goals intro h_) | (apply Vw; apply rfl; (apply W_bxL; apply rfl; apply rfl; apply rfl)) | (apply s_region; apply rfl) | apply tri_seq | apply tri_skip | apply tri_ret | (apply tri_condT; apply rfl) | (apply tri_condF; apply rfl) | (apply end_q _ (.inr rfl); (exact List.prefix_append _ _); (focus repeat (first | apply R_nil | (apply R_tmp; apply rfl))); apply rfl) | apply p_then | apply p_thenR)
      all_goals first | (exfalso; omega) | exact vS_of (by rw [if_pos rfl, if_pos (show a = EXC from h_)]; rfl) | exact vS_of (by rw [if_pos rfl, if_neg (show ¬ a = EXC from h_)]; rfl) | exact vS_of (by rw [if_neg (by decide), if_neg (by omega), hf]; unfold clAt; rw [show ((j : Int)).toNat = j from rfl, hc]; rfl)
theorem sp29 (p : List Cl) (a0 : ByteArray) (hp : p.length ≤ 1000000) : PC 29 [vP p, vS a0] (fun r => r = .d (encL encStr (chC p a0))) := by
  intro S T M
  refine callT_go [] [] Tryz.func29 rfl Tryz.ntmps29 Tryz.results29 ?_
  repeat' (first | apply triL_nil | (apply V; apply rfl; (apply E_as; apply rfl)) | (apply Vw; apply rfl; (apply W_bxL; apply rfl; apply rfl; apply rfl)) | (apply s_region; apply rfl) | apply tri_seq | apply tri_block)
  refine tri_ownX 5 9 1 rfl rfl ?_
  refine tri_grow (fun k : Nat × ByteArray × List ByteArray => k.1) (fun k => [(1, vS k.2.1), (2, .ptr (S.length + 0) 0), (5, .own 9 1 (T.length + 0) (k.2.2.flatMap encStr) k.2.2.length)]) (fun k S1 T1 => k.2.2.Nodup ∧ (∀ x ∈ k.2.2, isC p x = true) ∧ k.2.2.length + k.1 = p.length + 6 ∧ chG p k.1 k.2.1 k.2.2 = chC p a0 ∧ S.length ≤ S1.length ∧ T <+: T1 ∧ S1[S.length + 0]? = some ([.d (encL encCl p)], 26) ∧ T1[T.length + 0]? = some (k.2.2.flatMap encStr).length) (p.length + 6, a0, []) ⟨by simp, by simp, by simp, rfl, by simp, by simp, at_ rfl rfl, by simp⟩ ⟨rfl, rfl, rfl, trivial⟩ ?_
  rintro ⟨n, a, acc⟩ S1 T1 ⟨hn, hs, he, hch, hS, hT, hb, hTg⟩
  dsimp only at hn hs he hch hTg ⊢
  have hlen := room hn hs
  obtain ⟨m, rfl⟩ : ∃ m, n = m + 1 := ⟨n - 1, by omega⟩
  rw [chG] at hch
  have h25 := sp28 p a hp
  have h14 := sp62 p a hp
  have h54 := sp61 acc a (by omega)
  cases hi : isC p a
  · rw [hi] at h25 hch
    rw [if_neg (by decide)] at hch
    repeat' (first | apply triL_nil | (apply V; apply rfl; (first | (apply E_mv; apply rfl) | (apply E_as; apply rfl) | (apply E_lda; (apply tyT; apply rfl); apply rfl; (apply at_old; assumption); apply rfl) | (apply E_pkF; apply rfl; apply rfl))) | (apply Vp; apply rfl; apply rfl; apply fnT; apply rfl; apply h25; rintro _ rfl) | (apply Vo; apply rfl) | (apply s_region; apply rfl) | apply tri_seq | apply tri_exit | apply tri_ret | (apply tri_condF; apply rfl) | (apply end_q _ (.inr rfl); (apply pre_app; assumption); (focus repeat (first | apply R_nil | (apply R_tmp; apply rfl))); apply rfl) | apply p_then | apply p_in | apply p_thenE)
    rw [← hch]
    rfl
  · rw [hi] at h25 hch
    rw [if_pos rfl] at hch
    cases hin : inS acc a
    · rw [hin] at h54 hch
      rw [if_neg (by decide)] at hch
      repeat' (first | apply triL_nil | (apply V; apply rfl; (first | (apply E_mv; apply rfl) | (apply E_as; apply rfl) | (apply E_lda; (apply tyT; apply rfl); apply rfl; (apply at_old; assumption); apply rfl) | (apply E_pkT; apply rfl; apply rfl) | (apply E_not; apply rfl))) | (apply Vp; apply rfl; apply rfl; apply fnT; apply rfl; apply h25; rintro _ rfl) | (apply Vp; apply rfl; apply rfl; apply fnT; apply rfl; apply call_wk; apply rfl; apply h54; rintro _ rfl) | (apply Vp; apply rfl; apply rfl; apply fnT; apply rfl; apply h14; rintro _ rfl) | (apply Vw; apply rfl; (first | (apply W_bsL; apply rfl; (apply elT; apply rfl); (apply tyT; apply rfl); apply rfl; decide; apply rfl; apply rfl) | (apply W_ap; (apply elT; apply rfl); (apply tyT; apply rfl); (apply byT; apply rfl); apply rfl; apply rfl; apply rfl; decide; apply rfl; (apply A_ownLO (c := a); omega; omega; assumption)))) | (apply s_region; apply rfl) | apply tri_seq | (apply tri_region; apply rfl) | apply tri_block | apply tri_skip | (apply tri_condT; apply rfl) | apply p_then | apply p_inN)
      have hna : a ∉ acc := inS_false.1 hin
      refine ⟨(m, supC p a, acc ++ [a]), _, _, by dsimp only; omega, ⟨nodup_snoc hn hna, fun x hx => ?_, by simp only [List.length_append, List.length_singleton]; omega, hch, by simp only [List.length_append]; omega, pre_app (pre_set hT (by omega)), at_old hb, at_set (List.getElem?_eq_some_iff.1 hTg).1⟩, ⟨rfl, rfl, rfl, trivial⟩, rfl⟩
      rcases List.mem_append.1 hx with h | h
      · exact hs x h
      · rw [List.mem_singleton.1 h]
        exact hi
    · rw [hin] at h54 hch
      rw [if_pos rfl] at hch
      repeat' (first | apply triL_nil | (apply V; apply rfl; (first | (apply E_mv; apply rfl) | (apply E_as; apply rfl) | (apply E_lda; (apply tyT; apply rfl); apply rfl; (apply at_old; assumption); apply rfl) | (apply E_pkT; apply rfl; apply rfl) | (apply E_not; apply rfl))) | (apply Vp; apply rfl; apply rfl; apply fnT; apply rfl; apply h25; rintro _ rfl) | (apply Vp; apply rfl; apply rfl; apply fnT; apply rfl; apply call_wk; apply rfl; apply h54; rintro _ rfl) | (apply s_region; apply rfl) | apply tri_seq | apply tri_exit | apply tri_ret | (apply tri_condF; apply rfl) | (apply end_q _ (.inr rfl); (apply pre_app; assumption); (focus repeat (first | apply R_nil | (apply R_tmp; apply rfl))); apply rfl) | apply p_then | apply p_in | apply p_thenE)
      rw [← hch]
      rfl
theorem sp59 (p : List Cl) (a : ByteArray) (hp : p.length ≤ 1000000) : PC 59 [vP p, vS a] (fun r => r = vB (typeC p a)) := by
  have h25 := sp28 p a hp
  unfold typeC
  cases hb : isC p a
  all_goals
    rw [hb] at h25
    intro S T M
    refine callT_go [] [] Tryz.func59 rfl Tryz.ntmps59 Tryz.results59 ?_
    repeat' (first | apply triL_nil | (apply V; apply rfl; (first | (apply E_mv; apply rfl) | (apply E_as; apply rfl) | (apply E_lda; (apply tyT; apply rfl); apply rfl; (apply at_; apply rfl; apply rfl); apply rfl) | (apply E_pkT; apply rfl; apply rfl) | (apply E_pkF; apply rfl; apply rfl))) | (apply Vp; apply rfl; apply rfl; apply fnT; apply rfl; apply h25; rintro _ rfl) | (apply Vd; apply rfl; (apply E_seql; apply rfl; apply rfl); all_goals intro h_) | (apply Vo; apply rfl) | (apply Vw; apply rfl; (apply W_bxL; apply rfl; apply rfl; apply rfl)) | (apply s_region; apply rfl) | apply tri_ret | (apply end_q _ (.inr rfl); (exact List.prefix_append _ _); (focus repeat (first | apply R_nil | (apply R_tmp; apply rfl))); apply rfl))
    all_goals exact vB_of (by simp_all)
end Go.Proofs.YtinffhimfoicdaaGreat

/- The program's look at classes. No conditions. -/
namespace Go.Proofs.YtinffhimfoicdaaGreat
open Go Go.RowKit Go.Proofs.YtinffhimfoicdaaGreat.Calc
set_option linter.unusedVariables false
set_option linter.unusedSimpArgs false
set_option maxRecDepth 100000
set_option maxHeartbeats 8000000

/-- A type that is no interface. -/
def nifOf (P : Program) (t : Nat) : Bool := match P.underlying t with
  | some (.interface _) => false
  | some _ => true
  | none => false
section
variable {P : Program} {st : St} {ρ : Rg} {x : Operand} {t u : Nat}
theorem E_mi {d : DV} (hn : nifOf P t = true) (hx : (evB ρ x).bind toD = some d) : stepV P st ρ (.makeInterface t x) = some (.d (.iface t d)) := by
  unfold nifOf at hn
  unfold stepV
  split at hn
  · cases hn
  · rename_i d' h1 h2
    simp only [h2]
    rw [hx]
    cases d' <;> first | rfl | (exfalso; exact h1 _ h2)
  · cases hn
theorem E_taT {d : DV} {ag : Bool} {sz : Nat} {z : List BV} (hn : nifOf P t = true) (ht : tyOf P t = some (ag, sz, z)) (hx : evB ρ x = some (.d (.iface t d))) : stepV P st ρ (.typeAssert x u t true) = some (.tup [ofD d, vB true]) := by
  unfold nifOf at hn
  unfold stepV
  split at hn
  · cases hn
  · rename_i d' h1 h2
    simp only [h2, hx, ht]
    cases d' <;> first | rfl | (exfalso; exact h1 _ h2)
  · cases hn
theorem E_taF {sz : Nat} {z : List BV} (hn : nifOf P t = true) (ht : tyOf P t = some (true, sz, z)) (hx : evB ρ x = some (.d (.flat .nilIface))) : stepV P st ρ (.typeAssert x u t true) = some (.tup [.agg z, vB false]) := by
  unfold nifOf at hn
  unfold stepV
  split at hn
  · cases hn
  · rename_i d' h1 h2
    simp only [h2, hx, ht]
    cases d' <;> first | rfl | (exfalso; exact h1 _ h2)
  · cases hn
end
theorem nif114 : nifOf Tryz.prog 173 = true := by kernel_rfl
attribute [local irreducible] Tri TriL TriP CallT stepV stepW thenQ inQ endQ
/-- A call that only reads, where a box holds a program. -/
abbrev QC (p : List Cl) (f : Nat) (args : Nat → List BV) (R : BV → Prop) : Prop := ∀ S T M id, S[id]? = some ([.d (encL encCl p)], 26) → CallT Tryz.prog [] [] f (args id) ⟨S, T, M⟩ (fun r s => s = ⟨S, T, M⟩ ∧ R r)
def g81 (p : List Cl) (k : Nat) (c : Cl) : Int := if inS BS c.name = true ∨ findI p c.name < k then 6 else 0
def g84 (p : List Cl) (k : Nat) (c : Cl) : Int := if c.super = NIL then 0 else if isC p c.super = false then 7 else if inS (chC p c.name) (supC p (lastS (chC p c.name))) = true then 8 else 0
theorem sp126 (p : List Cl) (k : Nat) (c : Cl) (hp : p.length ≤ 1000000) : QC p 126 (fun id => [vI k, .agg ((encCl c).map .d), .ptr id 0]) (fun r => r = vI (g81 p k c)) := by
  have h82 := sp60 c.name
  have h83 := sp30 p c.name hp
  unfold g81
  cases hb : inS BS c.name
  all_goals
    rw [hb] at h82
    intro S T M id hid
    refine callT_go [] [] Tryz.func126 rfl Tryz.ntmps126 Tryz.results126 ?_
    repeat' (first | apply triL_nil | (apply V; apply rfl; (first | (apply E_mv; apply rfl) | (apply E_as; apply rfl) | (apply E_fa; (apply plT; apply rfl); apply rfl; apply rfl; decide) | (apply E_lda; (apply tyT; apply rfl); apply rfl; (first | (apply at_; apply rfl; apply rfl) | (apply at_old; assumption)); apply rfl) | (apply E_ld; (apply tyT; apply rfl); apply rfl; (first | (apply at_; apply rfl; apply rfl) | (apply at_old; assumption)); apply rfl) | (apply E_pkT; apply rfl; apply rfl) | (apply E_pkF; apply rfl; apply rfl))) | (apply Vp; apply rfl; apply rfl; apply fnT; apply rfl; apply h82; rintro _ rfl) | (apply Vp; apply rfl; apply rfl; apply fnT; apply rfl; apply h83; rintro _ rfl) | (apply Vd; apply rfl; (apply E_lss; apply rfl; apply rfl); all_goals intro h_) | (apply Vo; apply rfl) | (apply Vw; apply rfl; (apply W_bxL; apply rfl; apply rfl; apply rfl)) | (apply s_region; apply rfl) | apply tri_seq | apply tri_skip | apply tri_ret | (apply tri_condT; apply rfl) | (apply tri_condF; apply rfl) | (apply end_q _ (.inr rfl); (exact List.prefix_append _ _); (focus repeat (first | apply R_nil | (apply R_tmp; apply rfl))); apply rfl) | apply p_then | apply p_thenR)
    all_goals exact vI_ret (by simp_all)
theorem sp127 (p : List Cl) (k : Nat) (c : Cl) (hp : p.length ≤ 1000000) (hc : c ∈ p) : QC p 127 (fun id => [vI k, .agg ((encCl c).map .d), .ptr id 0]) (fun r => r = vI (g84 p k c)) := by
  have h53 := sp28 p c.super hp
  have h29 := sp29 p c.name hp
  have hin : isC p c.name = true := by
    unfold isC
    rw [Bool.or_eq_true]
    exact .inr (decide_eq_true (mem_fi hc))
  obtain ⟨U, hU⟩ := ch_self hin
  have hlen := ch_len p c.name
  have hlast : (chC p c.name)[(((chC p c.name).length : Int) - 1).toNat]? = some (lastS (chC p c.name)) := by
    unfold lastS
    rw [show (((chC p c.name).length : Int) - 1).toNat = (chC p c.name).length - 1 by omega]
    rw [List.getElem?_eq_getElem (by rw [hU]; simp)]
    rfl
  have hpos : 0 < (chC p c.name).length := by rw [hU]; simp
  have h55 := sp62 p (lastS (chC p c.name)) hp
  have h54 := sp61 (chC p c.name) (supC p (lastS (chC p c.name))) (by omega)
  unfold g84
  generalize lastS (chC p c.name) = z at *
  generalize supC p z = z' at *
  cases hi : isC p c.super <;> cases hj : inS (chC p c.name) z'
  all_goals
    rw [hi] at h53
    rw [hj] at h54
    intro S T M id hid
    refine callT_go [] [] Tryz.func127 rfl Tryz.ntmps127 Tryz.results127 ?_
    repeat' (first | apply triL_nil | (apply V; apply rfl; (first | (apply E_mv; apply rfl) | (apply E_as; apply rfl) | (apply E_fa; (apply plT; apply rfl); apply rfl; apply rfl; decide) | (apply E_lda; (apply tyT; apply rfl); apply rfl; (first | (apply at_; apply rfl; apply rfl) | (apply at_old; assumption)); apply rfl) | (apply E_ld; (apply tyT; apply rfl); apply rfl; (first | (apply at_; apply rfl; apply rfl) | (apply at_old; assumption)); apply rfl) | (apply E_le; (apply tyT; apply rfl); apply rfl; apply rfl) | (apply E_len; (apply elT; apply rfl); apply rfl; apply rfl) | (apply E_not; apply rfl) | (apply E_sub64; apply rfl; apply rfl; apply rfl; omega) | (apply E_ial (c := z); apply elT; apply rfl; apply rfl; apply rfl; apply rfl; exact encStr_len; omega; exact hlast))) | (apply s_drawn (nt := 31) (.take 0 (.take 1 (.take 2 (.take 3 (.take 4 (.take 5 (.take 6 (.one 7 (.take 8 .nil))))))))) [] []; exact mixed; rfl; decide +kernel) | (apply Vp; apply rfl; apply rfl; apply fnT; apply rfl; apply h53; rintro _ rfl) | (apply Vp; apply rfl; apply rfl; apply fnT; apply rfl; apply h29; rintro _ rfl) | (apply oP; apply rfl; apply rfl; apply rfl; apply fnT; apply rfl; apply h55; rintro _ rfl) | (apply Vp; apply rfl; apply rfl; apply fnT; apply rfl; apply h54; rintro _ rfl) | (apply Vd; apply rfl; (apply E_seql; apply rfl; apply rfl); all_goals intro h_) | (apply Vw; apply rfl; (apply W_bxL; apply rfl; apply rfl; apply rfl)) | (apply s_region; apply rfl) | apply tri_seq | apply tri_skip | apply tri_ret | (apply tri_condT; apply rfl) | (apply tri_condF; apply rfl) | (apply end_q _ (.inr rfl); (exact List.prefix_append _ _); (focus repeat (first | apply R_nil | (apply R_tmp; apply rfl))); apply rfl) | apply p_then | apply p_thenR | apply d_nil | (apply tV; apply rfl; apply rfl; (first | (apply E_mv; apply rfl) | (apply E_as; apply rfl) | (apply E_fa; (apply plT; apply rfl); apply rfl; apply rfl; decide) | (apply E_lda; (apply tyT; apply rfl); apply rfl; (first | (apply at_; apply rfl; apply rfl) | (apply at_old; assumption)); apply rfl) | (apply E_ld; (apply tyT; apply rfl); apply rfl; (first | (apply at_; apply rfl; apply rfl) | (apply at_old; assumption)); apply rfl) | (apply E_le; (apply tyT; apply rfl); apply rfl; apply rfl) | (apply E_len; (apply elT; apply rfl); apply rfl; apply rfl) | (apply E_not; apply rfl) | (apply E_sub64; apply rfl; apply rfl; apply rfl; omega) | (apply E_ial (c := z); apply elT; apply rfl; apply rfl; apply rfl; apply rfl; exact encStr_len; omega; exact hlast)); apply rfl))
    all_goals exact vI_ret (by unfold NIL; simp_all)
/-- The first class with a code. -/
def lookG (g : Nat → Cl → Int) : List Cl → Nat → Option (Int × Nat)
  | [], _ => none
  | c :: l, k => if g k c ≠ 0 then some (g k c, k) else lookG g l (k + 1)
def vLook : Option (Int × Nat) → BV
  | none => .d (.flat .nilIface)
  | some (e, k) => .d (.iface 173 (.agg [dI e, dI k]))
theorem sp125 (p : List Cl) (f : Nat) (g : Nat → Cl → Int) (hf : fnOK Tryz.prog f = true) (hp : p.length ≤ 1000000) (h : ∀ (k : Nat) (c : Cl), p[k]? = some c → QC p f (fun id => [vI k, .agg ((encCl c).map .d), .ptr id 0]) (fun r => r = vI (g k c))) : QC p 125 (fun id => [vP p, .fn f [.ptr id 0]]) (fun r => r = vLook (lookG g p 0)) := by
  intro S T M id hid
  refine callT_go [] [] Tryz.func125 rfl Tryz.ntmps125 Tryz.results125 ?_
  repeat' (first | apply triL_nil | (apply V; apply rfl; (first | (apply E_mv; apply rfl) | (apply E_as; apply rfl) | (apply E_fa; (apply plT; apply rfl); apply rfl; apply rfl; decide) | (apply E_ld; (apply tyT; apply rfl); apply rfl; (apply at_; apply rfl; apply rfl); apply rfl) | (apply E_len; (apply elT; apply rfl); apply rfl; apply rfl))) | (apply Vw; apply rfl; (apply W_bxL; apply rfl; apply rfl; apply rfl)) | (apply s_region; apply rfl) | apply tri_seq | apply tri_block)
  refine tri_grow (fun k : Nat => p.length - k) (fun k => [(1, .fn f [.ptr id 0]), (9, .d (encL encCl p)), (10, vI p.length), (11, vI k)]) (fun k S1 T1 => k ≤ p.length ∧ S.length ≤ S1.length ∧ T <+: T1 ∧ S1[id]? = some ([.d (encL encCl p)], 26) ∧ lookG g p 0 = lookG g (p.drop k) k) 0 ⟨Nat.zero_le _, by simp, by simp, by first | exact at_old hid | exact hid, by rw [List.drop_zero]⟩ ⟨rfl, rfl, rfl, rfl, trivial⟩ ?_
  rintro k S1 T1 ⟨hk, hS, hT, hb, hl⟩
  repeat' (first | apply triL_nil | (apply V; apply rfl; (first | (apply E_mv; apply rfl) | (apply E_as; apply rfl))) | (apply Vd; apply rfl; (apply E_lss; apply rfl; apply rfl); all_goals intro h_) | (apply s_region; apply rfl) | apply tri_seq | apply tri_block | apply tri_skip | apply tri_exit | apply tri_ret | (apply tri_condT; apply rfl) | (apply tri_condF; apply rfl) | (apply end_q _ (.inr rfl); (apply pre_app; assumption); (focus repeat (first | apply R_nil | (apply R_tmp; apply rfl))); apply rfl) | apply p_then | apply p_in | apply p_thenE)
  · obtain ⟨c, hc⟩ : ∃ c, p[k]? = some c := ⟨_, List.getElem?_eq_getElem (by omega)⟩
    rw [drop_at hc, lookG] at hl
    have hlaw := h k c hc
    repeat' (first | apply triL_nil | (apply V; apply rfl; (first | (apply E_mv; apply rfl) | (apply E_as; apply rfl) | (apply E_lda; (apply tyT; apply rfl); apply rfl; (apply at_; apply rfl; apply rfl); apply rfl) | (apply E_lea; (apply tyT; apply rfl); apply rfl; (first | apply rfl | apply encEx_len | apply encSm_len)) | (apply E_bd; (apply plT; apply rfl); apply rfl) | (apply E_add64; apply rfl; apply rfl; apply rfl; omega) | (apply E_ial (c := c); apply elT; apply rfl; apply rfl; apply rfl; apply rfl; exact encCl_len; omega; simpa using hc) | (apply E_mi; exact nif114; apply rfl))) | (apply Vp; apply rfl; apply rfl; exact hf; apply hlaw; (first | (apply at_old; assumption) | assumption); rintro _ rfl) | (apply Vd; apply rfl; (apply E_neq; apply rfl; apply rfl); all_goals intro h_) | (apply Vw; apply rfl; (apply W_alL; apply rfl; (apply tyT; apply rfl))) | (apply Vs; apply rfl; (apply W_stL; apply rfl; (apply tyT; apply rfl); apply rfl; apply rfl; apply rfl; (first | apply okC_new | (apply okC_ge; omega)); apply rfl; apply rfl; (first | decide | (apply Nat.le_of_ble_eq_true; rfl)))) | (apply s_region; apply rfl) | (apply tri_region; apply rfl) | apply tri_skip | apply tri_ret | (apply tri_condT; apply rfl) | (apply tri_condF; apply rfl) | (apply end_q _ (.inr rfl); (apply pre_app; assumption); (focus repeat (first | apply R_nil | (apply R_tmp; apply rfl))); apply rfl) | apply p_then | apply p_inN | apply p_inR | apply p_thenR)
    · rw [if_pos h_] at hl
      rw [hl]
      rfl
    · rw [if_neg h_] at hl
      exact ⟨k + 1, _, _, by omega, ⟨by omega, by simp only [List.length_append]; omega, pre_app hT, at_old hb, hl⟩, ⟨rfl, rfl, rfl, vI_of (by omega), trivial⟩, rfl⟩
  · rw [List.drop_of_length_le (by omega), lookG] at hl
    rw [hl]
    rfl
end Go.Proofs.YtinffhimfoicdaaGreat

/- The program's check of classes, fields. No conditions. -/
namespace Go.Proofs.YtinffhimfoicdaaGreat
open Go Go.RowKit Go.Proofs.YtinffhimfoicdaaGreat.Calc
set_option linter.unusedVariables false
set_option linter.unusedSimpArgs false
set_option maxRecDepth 100000
set_option maxHeartbeats 8000000
attribute [local irreducible] Tri TriL TriP CallT stepV stepW thenQ inQ endQ

theorem findI_le {p : List Cl} {k : Nat} {c : Cl} (hc : p[k]? = some c) : 0 ≤ findI p c.name ∧ findI p c.name ≤ k := by
  obtain ⟨hk, rfl⟩ := List.getElem?_eq_some_iff.1 hc
  rcases findI_spec p (p[k]).name with ⟨_, h⟩ | ⟨j, hj, h1, h2, h3⟩
  · exact absurd rfl (h _ (List.getElem_mem hk))
  · rw [h1]
    refine ⟨by omega, ?_⟩
    by_cases hjk : j ≤ k
    · omega
    · exact absurd rfl (h3 k (by omega))
theorem drop_cons {α : Type} {p l : List α} {i : Nat} {c : α} (h : p.drop i = c :: l) : p[i]? = some c ∧ p.drop (i + 1) = l := by
  have hl : i < p.length := by
    by_cases hl : i < p.length
    · exact hl
    · rw [List.drop_of_length_le (by omega)] at h
      cases h
  rw [List.drop_eq_getElem_cons hl] at h
  injection h with h1 h2
  exact ⟨by rw [List.getElem?_eq_getElem hl, h1], h2⟩
theorem look1_eq (p : List Cl) : ∀ (l : List Cl) (i : Nat), p.drop i = l → lookG (g81 p) l i = (chk1 p l i).map fun i => (6, i)
  | [], i, h => rfl
  | c :: l, i, h => by
    obtain ⟨hc, h'⟩ := drop_cons h
    have hle := findI_le hc
    have ih := look1_eq p l (i + 1) h'
    rw [lookG, chk1]
    have e : (inS BS c.name = true ∨ findI p c.name < i) ↔ (inS BS c.name = true ∨ findI p c.name ≠ i) := by
      constructor
      · rintro (h | h)
        · exact .inl h
        · exact .inr (by omega)
      · rintro (h | h)
        · exact .inl h
        · exact .inr (by omega)
    by_cases hq : inS BS c.name = true ∨ findI p c.name < i
    · have : g81 p i c = 6 := by unfold g81; rw [if_pos hq]
      rw [if_pos (by rw [this]; decide), this, if_pos (e.1 hq)]
      rfl
    · have : g81 p i c = 0 := by unfold g81; rw [if_neg hq]
      rw [if_neg (by rw [this]; decide), if_neg (fun h => hq (e.2 h))]
      exact ih
theorem last_in (p : List Cl) (c : Cl) (hc : c ∈ p) : inS (chC p c.name) (supC p (lastS (chC p c.name))) = isC p (supC p (lastS (chC p c.name))) := by
  have hin : isC p c.name = true := by
    unfold isC
    rw [Bool.or_eq_true]
    exact .inr (decide_eq_true (mem_fi hc))
  obtain ⟨U, hU⟩ := ch_self hin
  obtain ⟨z, hw, hz, _⟩ := ch_walk p c.name
  rw [hw.last (by rw [hU]; simp)]
  rw [Bool.eq_iff_iff, inS_iff]
  constructor
  · intro h
    exact hw.all z h
  · intro h
    rcases hz with hz | hz
    · rw [h] at hz; cases hz
    · exact hz
theorem look2_eq (p : List Cl) : ∀ (l : List Cl) (i : Nat), p.drop i = l → lookG (g84 p) l i = chk2 p l i
  | [], i, h => rfl
  | c :: l, i, h => by
    obtain ⟨hc, h'⟩ := drop_cons h
    have ih := look2_eq p l (i + 1) h'
    have hlast := last_in p c (List.mem_of_getElem? hc)
    rw [lookG, chk2]
    by_cases h1 : c.super = NIL
    · have hg : g84 p i c = 0 := by unfold g84; rw [if_pos h1]
      rw [if_neg (show ¬ (g84 p i c ≠ 0) by rw [hg]; decide), if_pos h1]
      exact ih
    · rw [if_neg h1]
      cases h2 : isC p c.super
      · have hg : g84 p i c = 7 := by unfold g84; rw [if_neg h1, h2]; rfl
        rw [if_pos (show g84 p i c ≠ 0 by rw [hg]; decide), hg, if_pos rfl]
      · rw [if_neg (show ¬ (true = false) by decide)]
        cases h3 : isC p (supC p (lastS (chC p c.name)))
        · have hg : g84 p i c = 0 := by unfold g84; rw [if_neg h1, h2, hlast, h3]; rfl
          rw [if_neg (show ¬ (g84 p i c ≠ 0) by rw [hg]; decide), if_neg (show ¬ (false = true) by decide)]
          exact ih
        · have hg : g84 p i c = 8 := by unfold g84; rw [if_neg h1, h2, hlast, h3]; rfl
          rw [if_pos (show g84 p i c ≠ 0 by rw [hg]; decide), hg, if_pos rfl]
theorem sp90 (p : List Cl) (hp : p.length ≤ 1000000) : PC 90 [vP p] (fun r => r = .tup [vI (checkC p).1, vI (checkC p).2]) := by
  have ha := sp125 p 126 (g81 p) (fnT rfl) hp fun k c hc => sp126 p k c hp
  have hb := sp125 p 127 (g84 p) (fnT rfl) hp fun k c hc => sp127 p k c hp (List.mem_of_getElem? hc)
  rw [look1_eq p p 0 rfl] at ha
  rw [look2_eq p p 0 rfl] at hb
  unfold checkC
  rcases h1 : chk1 p p 0 with _ | i
  · rw [h1] at ha
    rcases h2 : chk2 p p 0 with _ | ⟨e, j⟩
    · rw [h2] at hb
      intro S T M
      refine callT_go [] [] Tryz.func90 rfl Tryz.ntmps90 Tryz.results90 ?_
      repeat' (first | apply triL_nil | (apply V; apply rfl; (first | (apply E_mv; apply rfl) | (apply E_as; apply rfl) | (apply E_lda; (apply tyT; apply rfl); apply rfl; (apply at_; apply rfl; apply rfl); apply rfl) | (apply E_ex; apply rfl; apply rfl) | (apply E_mf; apply rfl) | (apply E_mf; apply rfl) | (apply E_taF; exact nif114; apply tyT; apply rfl; apply rfl))) | (apply Vp; apply rfl; apply rfl; apply fnT; apply rfl; apply ha; (first | (apply at_; apply rfl; apply rfl) | (apply at_old; assumption) | assumption); rintro _ rfl) | (apply Vp; apply rfl; apply rfl; apply fnT; apply rfl; apply hb; (first | (apply at_; apply rfl; apply rfl) | (apply at_old; assumption) | assumption); rintro _ rfl) | (apply Vw; apply rfl; (first | (apply W_alL; apply rfl; (apply tyT; apply rfl)) | (apply W_bxL; apply rfl; apply rfl; apply rfl))) | (apply Vs; apply rfl; (apply W_stL; apply rfl; (apply tyT; apply rfl); apply rfl; apply rfl; apply rfl; (first | apply okC_new | (apply okC_ge; omega)); apply rfl; apply rfl; (first | decide | (apply Nat.le_of_ble_eq_true; rfl)))) | (apply s_region; apply rfl) | apply tri_seq | apply tri_skip | apply tri_ret | (apply tri_condF; apply rfl) | (apply end_q _ (.inr rfl); (exact List.prefix_append _ _); (focus repeat (first | apply R_nil | (apply R_tmp; apply rfl))); apply rfl) | apply p_then)
      rfl
    · rw [h2] at hb
      intro S T M
      refine callT_go [] [] Tryz.func90 rfl Tryz.ntmps90 Tryz.results90 ?_
      repeat' (first | apply triL_nil | (apply V; apply rfl; (first | (apply E_mv; apply rfl) | (apply E_as; apply rfl) | (apply E_fa; (apply plT; apply rfl); apply rfl; apply rfl; decide) | (apply E_lda; (apply tyT; apply rfl); apply rfl; (apply at_; apply rfl; apply rfl); apply rfl) | (apply E_ld; (apply tyT; apply rfl); apply rfl; (apply at_; apply rfl; apply rfl); apply rfl) | (apply E_ex; apply rfl; apply rfl) | (apply E_mf; apply rfl) | (apply E_mf; apply rfl) | (apply E_taF; exact nif114; apply tyT; apply rfl; apply rfl) | (apply E_taT; exact nif114; apply tyT; apply rfl; apply rfl))) | (apply s_drawn (nt := 32) (.take 0 (.take 1 (.take 2 (.take 3 (.take 4 (.take 5 .nil)))))) [] []; exact mixed; rfl; decide +kernel) | (apply s_drawn (nt := 32) (.take 0 (.take 1 (.take 2 (.take 3 (.take 4 (.take 5 .nil)))))) [] []; exact mixed; rfl; decide +kernel) | (apply Vp; apply rfl; apply rfl; apply fnT; apply rfl; apply ha; (first | (apply at_; apply rfl; apply rfl) | (apply at_old; assumption) | assumption); rintro _ rfl) | (apply Vp; apply rfl; apply rfl; apply fnT; apply rfl; apply hb; (first | (apply at_; apply rfl; apply rfl) | (apply at_old; assumption) | assumption); rintro _ rfl) | (apply Vw; apply rfl; (first | (apply W_alL; apply rfl; (apply tyT; apply rfl)) | (apply W_bxL; apply rfl; apply rfl; apply rfl))) | (apply Vs; apply rfl; (apply W_stL; apply rfl; (apply tyT; apply rfl); apply rfl; apply rfl; apply rfl; (first | apply okC_new | (apply okC_ge; omega)); apply rfl; apply rfl; (first | decide | (apply Nat.le_of_ble_eq_true; rfl)))) | (apply s_region; apply rfl) | apply tri_seq | apply tri_skip | apply tri_ret | (apply tri_condT; apply rfl) | (apply tri_condF; apply rfl) | (apply end_q _ (.inr rfl); (exact List.prefix_append _ _); (focus repeat (first | apply R_nil | (apply R_tmp; apply rfl))); apply rfl) | apply p_then | apply p_thenR | apply d_nil | (apply tV; apply rfl; apply rfl; (first | (apply E_mv; apply rfl) | (apply E_as; apply rfl) | (apply E_fa; (apply plT; apply rfl); apply rfl; apply rfl; decide) | (apply E_lda; (apply tyT; apply rfl); apply rfl; (apply at_; apply rfl; apply rfl); apply rfl) | (apply E_ld; (apply tyT; apply rfl); apply rfl; (apply at_; apply rfl; apply rfl); apply rfl) | (apply E_ex; apply rfl; apply rfl) | (apply E_mf; apply rfl) | (apply E_mf; apply rfl) | (apply E_taF; exact nif114; apply tyT; apply rfl; apply rfl) | (apply E_taT; exact nif114; apply tyT; apply rfl; apply rfl)); apply rfl))
      rfl
  · rw [h1] at ha
    intro S T M
    refine callT_go [] [] Tryz.func90 rfl Tryz.ntmps90 Tryz.results90 ?_
    repeat' (first | apply triL_nil | (apply V; apply rfl; (first | (apply E_mv; apply rfl) | (apply E_as; apply rfl) | (apply E_fa; (apply plT; apply rfl); apply rfl; apply rfl; decide) | (apply E_lda; (apply tyT; apply rfl); apply rfl; (apply at_; apply rfl; apply rfl); apply rfl) | (apply E_ld; (apply tyT; apply rfl); apply rfl; (apply at_; apply rfl; apply rfl); apply rfl) | (apply E_ex; apply rfl; apply rfl) | (apply E_mf; apply rfl) | (apply E_mf; apply rfl) | (apply E_taT; exact nif114; apply tyT; apply rfl; apply rfl))) | (apply s_drawn (nt := 32) (.take 0 (.take 1 (.take 2 (.take 3 (.take 4 (.take 5 .nil)))))) [] []; exact mixed; rfl; decide +kernel) | (apply s_drawn (nt := 32) (.take 0 (.take 1 (.take 2 (.take 3 (.take 4 (.take 5 .nil)))))) [] []; exact mixed; rfl; decide +kernel) | (apply Vp; apply rfl; apply rfl; apply fnT; apply rfl; apply ha; (first | (apply at_; apply rfl; apply rfl) | (apply at_old; assumption) | assumption); rintro _ rfl) | (apply Vw; apply rfl; (first | (apply W_alL; apply rfl; (apply tyT; apply rfl)) | (apply W_bxL; apply rfl; apply rfl; apply rfl))) | (apply Vs; apply rfl; (apply W_stL; apply rfl; (apply tyT; apply rfl); apply rfl; apply rfl; apply rfl; (first | apply okC_new | (apply okC_ge; omega)); apply rfl; apply rfl; (first | decide | (apply Nat.le_of_ble_eq_true; rfl)))) | (apply s_region; apply rfl) | apply tri_seq | apply tri_ret | (apply tri_condT; apply rfl) | (apply end_q _ (.inr rfl); (exact List.prefix_append _ _); (focus repeat (first | apply R_nil | (apply R_tmp; apply rfl))); apply rfl) | apply p_thenR | apply d_nil | (apply tV; apply rfl; apply rfl; (first | (apply E_mv; apply rfl) | (apply E_as; apply rfl) | (apply E_fa; (apply plT; apply rfl); apply rfl; apply rfl; decide) | (apply E_lda; (apply tyT; apply rfl); apply rfl; (apply at_; apply rfl; apply rfl); apply rfl) | (apply E_ld; (apply tyT; apply rfl); apply rfl; (apply at_; apply rfl; apply rfl); apply rfl) | (apply E_ex; apply rfl; apply rfl) | (apply E_mf; apply rfl) | (apply E_mf; apply rfl) | (apply E_taT; exact nif114; apply tyT; apply rfl; apply rfl)); apply rfl))
    rfl
end Go.Proofs.YtinffhimfoicdaaGreat

/- The program's fields. No conditions. -/
namespace Go.Proofs.YtinffhimfoicdaaGreat
open Go Go.RowKit Go.Proofs.YtinffhimfoicdaaGreat.Calc
set_option linter.unusedVariables false
set_option linter.unusedSimpArgs false
set_option maxRecDepth 100000
set_option maxHeartbeats 8000000
attribute [local irreducible] Tri TriL TriP CallT stepV stepW thenQ inQ endQ

theorem nif30 : nifOf Tryz.prog 37 = true := by kernel_rfl
theorem sp57 (p : List Cl) (hp : p.length ≤ 1000000) : PC 57 [vP p] (fun r => r = vB (decide ((checkC p).1 = 0))) := by
  have h49 := sp90 p hp
  generalize checkC p = r at *
  obtain ⟨e, i⟩ := r
  dsimp only at *
  intro S T M
  refine callT_go [] [] Tryz.func57 rfl Tryz.ntmps57 Tryz.results57 ?_
  repeat' (first | apply triL_nil | (apply V; apply rfl; (first | (apply E_mv; apply rfl) | (apply E_as; apply rfl) | (apply E_lda; (apply tyT; apply rfl); apply rfl; (apply at_; apply rfl; apply rfl); apply rfl) | (apply E_ex; apply rfl; apply rfl))) | (apply Vp; apply rfl; apply rfl; apply fnT; apply rfl; apply h49; rintro _ rfl) | (apply Vd; apply rfl; (apply E_eql; apply rfl; apply rfl); all_goals intro h_) | (apply Vw; apply rfl; (apply W_bxL; apply rfl; apply rfl; apply rfl)) | (apply s_region; apply rfl) | apply tri_ret | (apply end_q _ (.inr rfl); (exact List.prefix_append _ _); (focus repeat (first | apply R_nil | (apply R_tmp; apply rfl))); apply rfl))
  all_goals exact vB_of (by simp [h_])
/-- A class of a program, or nil. -/
def vAny (p : List Cl) (a : ByteArray) : BV := if 0 ≤ findI p a then .d (.iface 37 (.agg (encCl (clAt p (findI p a))))) else .d (.flat .nilIface)
theorem sp128 (p : List Cl) (a : ByteArray) (hp : p.length ≤ 1000000) : PC 128 [vP p, vS a] (fun r => r = vAny p a) := by
  have h83 := sp30 p a hp
  unfold vAny
  rcases findI_spec p a with ⟨hf, _⟩ | ⟨j, hj, hf, _, _⟩
  · rw [hf] at h83 ⊢
    intro S T M
    refine callT_go [] [] Tryz.func128 rfl Tryz.ntmps128 Tryz.results128 ?_
    repeat' (first | apply triL_nil | (apply V; apply rfl; (first | (apply E_mv; apply rfl) | (apply E_as; apply rfl) | (apply E_fa; (apply plT; apply rfl); apply rfl; apply rfl; decide) | (apply E_lda; (apply tyT; apply rfl); apply rfl; (apply at_; apply rfl; apply rfl); apply rfl) | (apply E_ld; (apply tyT; apply rfl); apply rfl; (apply at_; apply rfl; apply rfl); apply rfl))) | (apply Vp; apply rfl; apply rfl; apply fnT; apply rfl; apply h83; rintro _ rfl) | (apply Vd; apply rfl; (apply E_geq; apply rfl; apply rfl); all_goals intro h_) | (apply Vw; apply rfl; (apply W_bxL; apply rfl; apply rfl; apply rfl)) | (apply s_region; apply rfl) | apply tri_seq | apply tri_skip | apply tri_ret | (apply tri_condT; apply rfl) | (apply tri_condF; apply rfl) | (apply end_q _ (.inr rfl); (exact List.prefix_append _ _); (focus repeat (first | apply R_nil | (apply R_tmp; apply rfl))); apply rfl) | apply p_then | (show TriL _ _ _ _ _ _; exfalso; omega))
    all_goals first | (exfalso; omega) | (rw [if_neg (by decide)]; rfl)
  · obtain ⟨c, hc⟩ : ∃ c, p[j]? = some c := ⟨_, List.getElem?_eq_getElem hj⟩
    rw [hf] at h83 ⊢
    rw [if_pos (by omega)]
    have hcl : clAt p (j : Int) = c := by
      unfold clAt
      rw [show ((j : Int)).toNat = j from rfl, hc]
      rfl
    rw [hcl]
    intro S T M
    refine callT_go [] [] Tryz.func128 rfl Tryz.ntmps128 Tryz.results128 ?_
    repeat' (first | apply triL_nil | (apply V; apply rfl; (first | (apply E_mv; apply rfl) | (apply E_as; apply rfl) | (apply E_fa; (apply plT; apply rfl); apply rfl; apply rfl; decide) | (apply E_lda; (apply tyT; apply rfl); apply rfl; (apply at_; apply rfl; apply rfl); apply rfl) | (apply E_ld; (apply tyT; apply rfl); apply rfl; (apply at_; apply rfl; apply rfl); apply rfl) | (apply E_lea; (apply tyT; apply rfl); apply rfl; (first | apply rfl | apply encEx_len | apply encSm_len)) | (apply E_ial (c := c); apply elT; apply rfl; apply rfl; apply rfl; apply rfl; exact encCl_len; omega; simpa using hc) | (apply E_mi; exact nif30; apply rfl))) | (apply Vp; apply rfl; apply rfl; apply fnT; apply rfl; apply h83; rintro _ rfl) | (apply Vd; apply rfl; (apply E_geq; apply rfl; apply rfl); all_goals intro h_) | (apply Vw; apply rfl; (apply W_bxL; apply rfl; apply rfl; apply rfl)) | (apply s_region; apply rfl) | apply tri_seq | apply tri_skip | apply tri_ret | (apply tri_condT; apply rfl) | (apply tri_condF; apply rfl) | (apply end_q _ (.inr rfl); (exact List.prefix_append _ _); (focus repeat (first | apply R_nil | (apply R_tmp; apply rfl))); apply rfl) | apply p_then | apply p_thenR)
    all_goals first | (exfalso; omega) | rfl
theorem sp92 (p : List Cl) (a : ByteArray) (hp : p.length ≤ 1000000) : PC 92 [vP p, vS a] (fun r => r = .d (encL encFi (classC p a).fields)) := by
  have h56 := sp128 p a hp
  unfold vAny at h56
  unfold classC
  by_cases h0 : 0 ≤ findI p a
  · rw [if_pos h0] at h56 ⊢
    generalize clAt p (findI p a) = c at *
    obtain ⟨cn, csup, cf, cm⟩ := c
    intro S T M
    refine callT_go [] [] Tryz.func92 rfl Tryz.ntmps92 Tryz.results92 ?_
    repeat' (first | apply triL_nil | (apply V; apply rfl; (first | (apply E_mv; apply rfl) | (apply E_as; apply rfl) | (apply E_fa; (apply plT; apply rfl); apply rfl; apply rfl; decide) | (apply E_lda; (apply tyT; apply rfl); apply rfl; (apply at_; apply rfl; apply rfl); apply rfl) | (apply E_ld; (apply tyT; apply rfl); apply rfl; (apply at_; apply rfl; apply rfl); apply rfl) | (apply E_ex; apply rfl; apply rfl) | (apply E_not; apply rfl) | (apply E_taT; exact nif30; apply tyT; apply rfl; apply rfl))) | (apply Vp; apply rfl; apply rfl; apply fnT; apply rfl; apply h56; rintro _ rfl) | (apply Vw; apply rfl; (first | (apply W_alL; apply rfl; (apply tyT; apply rfl)) | (apply W_bxL; apply rfl; apply rfl; apply rfl))) | (apply Vs; apply rfl; (apply W_stL; apply rfl; (apply tyT; apply rfl); apply rfl; apply rfl; apply rfl; (first | apply okC_new | (apply okC_ge; omega)); apply rfl; apply rfl; (first | decide | (apply Nat.le_of_ble_eq_true; rfl)))) | (apply s_region; apply rfl) | apply tri_seq | apply tri_skip | apply tri_ret | (apply tri_condF; apply rfl) | (apply end_q _ (.inr rfl); (exact List.prefix_append _ _); (focus repeat (first | apply R_nil | (apply R_tmp; apply rfl))); apply rfl) | apply p_then)
    rfl
  · rw [if_neg h0] at h56 ⊢
    intro S T M
    refine callT_go [] [] Tryz.func92 rfl Tryz.ntmps92 Tryz.results92 ?_
    repeat' (first | apply triL_nil | (apply V; apply rfl; (first | (apply E_mv; apply rfl) | (apply E_as; apply rfl) | (apply E_lda; (apply tyT; apply rfl); apply rfl; (apply at_; apply rfl; apply rfl); apply rfl) | (apply E_ex; apply rfl; apply rfl) | (apply E_not; apply rfl) | (apply E_taF; exact nif30; apply tyT; apply rfl; apply rfl))) | (apply Vp; apply rfl; apply rfl; apply fnT; apply rfl; apply h56; rintro _ rfl) | (apply Vw; apply rfl; (first | (apply W_alL; apply rfl; (apply tyT; apply rfl)) | (apply W_bxL; apply rfl; apply rfl; apply rfl))) | (apply Vs; apply rfl; (apply W_stL; apply rfl; (apply tyT; apply rfl); apply rfl; apply rfl; apply rfl; (first | apply okC_new | (apply okC_ge; omega)); apply rfl; apply rfl; (first | decide | (apply Nat.le_of_ble_eq_true; rfl)))) | (apply s_region; apply rfl) | apply tri_seq | apply tri_ret | (apply tri_condT; apply rfl) | (apply end_q _ (.inr rfl); (exact List.prefix_append _ _); (focus repeat (first | apply R_nil | (apply R_tmp; apply rfl))); apply rfl) | apply p_thenR)
    rfl
theorem sp93 (c : Fi) (name : ByteArray) : NC name 93 (fun id => [.agg ((encFi c).map .d), .ptr id 0]) (fun r => r = vB (decide (c.name = name))) := by
  intro S T M id hid
  refine callT_go [] [] Tryz.func93 rfl Tryz.ntmps93 Tryz.results93 ?_
  repeat' (first | apply triL_nil | (apply V; apply rfl; (first | (apply E_as; apply rfl) | (apply E_fa; (apply plT; apply rfl); apply rfl; apply rfl; decide) | (apply E_ld; (apply tyT; apply rfl); apply rfl; (first | (apply at_; apply rfl; apply rfl) | (apply at_old; assumption)); apply rfl))) | (apply Vd; apply rfl; (apply E_seql; apply rfl; apply rfl); all_goals intro h_) | (apply Vw; apply rfl; (apply W_bxL; apply rfl; apply rfl; apply rfl)) | (apply s_region; apply rfl) | apply tri_ret | (apply end_q _ (.inr rfl); (exact List.prefix_append _ _); (focus repeat (first | apply R_nil | (apply R_tmp; apply rfl))); apply rfl))
  all_goals exact vB_of (by simp [h_])
theorem sp91 (l : List Fi) (name : ByteArray) (hl : l.length ≤ 1000000) : NC name 91 (fun id => [.d (encL encFi l), .fn 93 [.ptr id 0]]) (fun r => r = vI (findF l name)) := by
  intro S T M id hid
  refine callT_go [] [] Tryz.func91 rfl Tryz.ntmps91 Tryz.results91 ?_
  repeat' (first | apply triL_nil | (apply V; apply rfl; (first | (apply E_mv; apply rfl) | (apply E_as; apply rfl) | (apply E_len; (apply elT; apply rfl); apply rfl; apply rfl))) | (apply s_region; apply rfl) | apply tri_seq | apply tri_block)
  refine tri_fix (fun k : Nat => l.length - k) (fun k => [(0, .d (encL encFi l)), (1, .fn 93 [.ptr id 0]), (7, vI l.length), (8, vI k)]) (fun k => k ≤ l.length ∧ ∀ (i : Nat) (c : Fi), i < k → l[i]? = some c → c.name ≠ name) 0 ⟨Nat.zero_le _, fun i c h => by omega⟩ ⟨rfl, rfl, rfl, rfl, trivial⟩ ?_
  rintro k ⟨hk, hpre⟩
  repeat' (first | apply triL_nil | (apply V; apply rfl; (first | (apply E_mv; apply rfl) | (apply E_as; apply rfl))) | (apply Vd; apply rfl; (apply E_lss; apply rfl; apply rfl); all_goals intro h_) | (apply s_region; apply rfl) | apply tri_seq | apply tri_block | apply tri_skip | apply tri_exit | apply tri_ret | (apply tri_condT; apply rfl) | (apply tri_condF; apply rfl) | (apply end_q _ (.inr rfl); (exact List.prefix_append _ _); (focus repeat (first | apply R_nil | (apply R_tmp; apply rfl))); apply rfl) | apply p_then | apply p_in | apply p_thenE)
  · obtain ⟨c, hc⟩ : ∃ c, l[k]? = some c := ⟨_, List.getElem?_eq_getElem (by omega)⟩
    have h51 := sp93 c name
    by_cases hcn : c.name = name
    · rw [decide_eq_true hcn] at h51
      repeat' (first | apply triL_nil | (apply V; apply rfl; (first | (apply E_mv; apply rfl) | (apply E_as; apply rfl) | (apply E_lea; (apply tyT; apply rfl); apply rfl; (first | apply rfl | apply encEx_len | apply encSm_len)) | (apply E_ial (c := c); apply elT; apply rfl; apply rfl; apply rfl; apply rfl; exact encFi_len; omega; simpa using hc))) | (apply Vp; apply rfl; apply rfl; apply fnT; apply rfl; apply h51; (first | (apply at_old; assumption) | assumption); rintro _ rfl) | (apply s_region; apply rfl) | apply tri_ret | (apply tri_condT; apply rfl) | (apply end_q _ (.inr rfl); (exact List.prefix_append _ _); (focus repeat (first | apply R_nil | (apply R_tmp; apply rfl))); apply rfl) | apply p_inR | apply p_thenR)
      exact vI_ret (findF_at hc hcn hpre).symm
    · rw [decide_eq_false hcn] at h51
      repeat' (first | apply triL_nil | (apply V; apply rfl; (first | (apply E_mv; apply rfl) | (apply E_lea; (apply tyT; apply rfl); apply rfl; (first | apply rfl | apply encEx_len | apply encSm_len)) | (apply E_add64; apply rfl; apply rfl; apply rfl; omega) | (apply E_ial (c := c); apply elT; apply rfl; apply rfl; apply rfl; apply rfl; exact encFi_len; omega; simpa using hc))) | (apply Vp; apply rfl; apply rfl; apply fnT; apply rfl; apply h51; (first | (apply at_old; assumption) | assumption); rintro _ rfl) | (apply tri_region; apply rfl) | apply tri_skip | (apply tri_condF; apply rfl) | apply p_then | apply p_inN)
      refine ⟨k + 1, by omega, ⟨by omega, fun i c' hi hc' => ?_⟩, ⟨rfl, rfl, rfl, vI_of (by omega), trivial⟩, rfl⟩
      by_cases hik : i = k
      · subst hik
        obtain rfl := Option.some.inj (hc.symm.trans hc')
        assumption
      · exact hpre i c' (by omega) hc'
  · exact vI_ret (findF_none fun i c hc => hpre i c (by have := (List.getElem?_eq_some_iff.1 hc).1; omega) hc).symm
theorem sp58 (p : List Cl) (a name : ByteArray) (hp : Small p) : PC 58 [vP p, vS a, vS name] (fun r => r = vI (ownF p a name)) := by
  have h31 := sp92 p a hp.1
  have h50 := sp91 (classC p a).fields name (class_fields hp a)
  unfold ownF
  intro S T M
  refine callT_go [] [] Tryz.func58 rfl Tryz.ntmps58 Tryz.results58 ?_
  repeat' (first | apply triL_nil | (apply V; apply rfl; (first | (apply E_mv; apply rfl) | (apply E_as; apply rfl) | (apply E_lda; (apply tyT; apply rfl); apply rfl; (apply at_; apply rfl; apply rfl); apply rfl) | (apply E_mf; apply rfl))) | (apply Vp; apply rfl; apply rfl; apply fnT; apply rfl; apply h31; rintro _ rfl) | (apply Vp; apply rfl; apply rfl; apply fnT; apply rfl; apply h50; (first | (apply at_; apply rfl; apply rfl) | (apply at_old; assumption) | assumption); rintro _ rfl) | (apply Vw; apply rfl; (apply W_bxL; apply rfl; apply rfl; apply rfl)) | (apply s_region; apply rfl) | apply tri_ret | (apply end_q _ (.inr rfl); (exact List.prefix_append _ _); (focus repeat (first | apply R_nil | (apply R_tmp; apply rfl))); apply rfl))
  rfl

theorem chk1_none {p : List Cl} : ∀ {l : List Cl} {i : Nat}, chk1 p l i = none → ∀ (j : Nat) (c : Cl), l[j]? = some c → findI p c.name = ((i + j : Nat) : Int)
  | [], i, h, j, c, hc => by simp at hc
  | x :: l, i, h, j, c, hc => by
    rw [chk1] at h
    by_cases hq : inS BS x.name = true ∨ findI p x.name ≠ i
    · rw [if_pos hq] at h; cases h
    · rw [if_neg hq] at h
      cases j with
      | zero =>
        obtain rfl : x = c := by simpa using hc
        have h2 : ¬ findI p x.name ≠ i := fun h3 => hq (.inr h3)
        simpa using h2
      | succ j =>
        have := chk1_none h j c (by simpa using hc)
        rw [this]
        omega
theorem classC_self {p : List Cl} (h : (checkC p).1 = 0) {k : Nat} {c : Cl} (hc : p[k]? = some c) : classC p c.name = c := by
  have h1 : chk1 p p 0 = none := by
    unfold checkC at h
    rcases h1 : chk1 p p 0 with _ | i
    · rfl
    · rw [h1] at h; exact absurd h (show ¬ (6 : Int) = 0 by decide)
  have h2 := chk1_none h1 k c hc
  unfold classC
  rw [h2, if_pos (by omega)]
  unfold clAt
  rw [show (((0 + k : Nat) : Int)).toNat = k by omega, hc]
  rfl
theorem own_le {p : List Cl} (h : (checkC p).1 = 0) {k j : Nat} {c : Cl} {f : Fi} (hc : p[k]? = some c) (hf : c.fields[j]? = some f) : ownF p c.name f.name ≤ j := by
  unfold ownF
  rw [classC_self h hc]
  obtain ⟨hj, rfl⟩ := List.getElem?_eq_some_iff.1 hf
  rcases findF_spec c.fields (c.fields[j]).name with ⟨h1, _⟩ | ⟨i, hi, h1, h2, h3⟩
  · omega
  · rw [h1]
    by_cases hij : i ≤ j
    · omega
    · exact absurd rfl (h3 j (by omega))
theorem sp27 (p : List Cl) (hp : Small p) : PC 27 [vP p] (fun r => r = .tup [vI (checkF p).1, vI (checkF p).2]) := by
  have h19 := sp57 p hp.1
  have hp1 := hp.1
  unfold checkF
  by_cases he : (checkC p).1 = 0
  case neg =>
    rw [if_pos he]
    rw [decide_eq_false he] at h19
    intro S T M
    refine callT_go [] [] Tryz.func27 rfl Tryz.ntmps27 Tryz.results27 ?_
    repeat' (first | apply triL_nil | (apply V; apply rfl; (first | (apply E_as; apply rfl) | (apply E_lda; (apply tyT; apply rfl); apply rfl; (apply at_; apply rfl; apply rfl); apply rfl) | (apply E_not; apply rfl))) | (apply Vp; apply rfl; apply rfl; apply fnT; apply rfl; apply h19; rintro _ rfl) | (apply Vw; apply rfl; (apply W_bxL; apply rfl; apply rfl; apply rfl)) | (apply s_region; apply rfl) | apply tri_seq | apply tri_ret | (apply tri_condT; apply rfl) | (apply end_q _ (.inr rfl); (exact List.prefix_append _ _); (focus repeat (first | apply R_nil | (apply R_tmp; apply rfl))); apply rfl) | apply p_thenR)
    rfl
  rw [if_neg (fun h => h he)]
  rw [decide_eq_true he] at h19
  intro S T M
  refine callT_go [] [] Tryz.func27 rfl Tryz.ntmps27 Tryz.results27 ?_
  repeat' (first | apply triL_nil | (apply V; apply rfl; (first | (apply E_mv; apply rfl) | (apply E_as; apply rfl) | (apply E_fa; (apply plT; apply rfl); apply rfl; apply rfl; decide) | (apply E_lda; (apply tyT; apply rfl); apply rfl; (apply at_; apply rfl; apply rfl); apply rfl) | (apply E_ld; (apply tyT; apply rfl); apply rfl; (apply at_; apply rfl; apply rfl); apply rfl) | (apply E_len; (apply elT; apply rfl); apply rfl; apply rfl) | (apply E_not; apply rfl))) | (apply Vp; apply rfl; apply rfl; apply fnT; apply rfl; apply h19; rintro _ rfl) | (apply Vw; apply rfl; (apply W_bxL; apply rfl; apply rfl; apply rfl)) | (apply s_region; apply rfl) | apply tri_seq | apply tri_block | apply tri_skip | (apply tri_condF; apply rfl) | apply p_then)
  refine tri_grow (fun k : Nat => p.length - k) (fun k => [(1, .ptr (S.length + 0) 0), (14, .d (encL encCl p)), (15, vI p.length), (16, vI k)]) (fun k S1 T1 => k ≤ p.length ∧ S.length ≤ S1.length ∧ T <+: T1 ∧ S1[S.length + 0]? = some ([.d (encL encCl p)], 26) ∧ chkF p p 0 = chkF p (p.drop k) k) 0 ⟨Nat.zero_le _, by simp, by simp, at_ rfl rfl, by rw [List.drop_zero]⟩ ⟨rfl, rfl, rfl, rfl, trivial⟩ ?_
  rintro k S1 T1 ⟨hk, hS, hT, hb, hch⟩
  repeat' (first | apply triL_nil | (apply V; apply rfl; (first | (apply E_mv; apply rfl) | (apply E_as; apply rfl))) | (apply Vd; apply rfl; (apply E_lss; apply rfl; apply rfl); all_goals intro h_) | (apply s_region; apply rfl) | apply tri_seq | apply tri_block | apply tri_skip | apply tri_exit | apply tri_ret | (apply tri_condT; apply rfl) | (apply tri_condF; apply rfl) | (apply end_q _ (.inr rfl); (apply pre_app; assumption); (focus repeat (first | apply R_nil | (apply R_tmp; apply rfl))); apply rfl) | apply p_then | apply p_in | apply p_thenE)
  · obtain ⟨c, hc⟩ : ∃ c, p[k]? = some c := ⟨_, List.getElem?_eq_getElem (by omega)⟩
    rw [drop_at hc, chkF] at hch
    have hfl := hp.2 c (List.mem_of_getElem? hc)
    have hcl := classC_self he hc
    repeat' (first | apply triL_nil | (apply V; apply rfl; (first | (apply E_mv; apply rfl) | (apply E_as; apply rfl) | (apply E_fa; (apply plT; apply rfl); apply rfl; apply rfl; decide) | (apply E_ld; (apply tyT; apply rfl); apply rfl; (apply at_; apply rfl; apply rfl); apply rfl) | (apply E_lea; (apply tyT; apply rfl); apply rfl; (first | apply rfl | apply encEx_len | apply encSm_len)) | (apply E_len; (apply elT; apply rfl); apply rfl; apply rfl) | (apply E_ial (c := c); apply elT; apply rfl; apply rfl; apply rfl; apply rfl; exact encCl_len; omega; simpa using hc))) | (apply Vw; apply rfl; (apply W_alL; apply rfl; (apply tyT; apply rfl))) | (apply Vs; apply rfl; (apply W_stL; apply rfl; (apply tyT; apply rfl); apply rfl; apply rfl; apply rfl; (first | apply okC_new | (apply okC_ge; omega)); apply rfl; apply rfl; (first | decide | (apply Nat.le_of_ble_eq_true; rfl)))) | (apply s_region; apply rfl) | apply tri_seq | apply tri_block)
    refine tri_grow (fun j : Nat => c.fields.length - j) (fun j => [(1, .ptr (S.length + 0) 0), (4, vI k), (5, .ptr (S1.length + 0) 0), (14, .d (encL encCl p)), (15, vI p.length), (16, vI k), (22, .d (encL encFi c.fields)), (23, vI c.fields.length), (24, vI j)]) (fun j S2 T2 => j ≤ c.fields.length ∧ S1.length ≤ S2.length ∧ T <+: T2 ∧ S2[S.length + 0]? = some ([.d (encL encCl p)], 26) ∧ S2[S1.length + 0]? = some ((encCl c).map .d, 37) ∧ chkF1 p c.name c.fields 0 = chkF1 p c.name (c.fields.drop j) j) 0 ⟨Nat.zero_le _, by simp, pre_app hT, at_old hb, at_ rfl rfl, by rw [List.drop_zero]⟩ ⟨rfl, rfl, rfl, rfl, rfl, rfl, rfl, rfl, rfl, trivial⟩ ?_
    rintro j S2 T2 ⟨hj, hS2, hT2, hb2, hcb, hc1⟩
    repeat' (first | apply triL_nil | (apply V; apply rfl; (first | (apply E_mv; apply rfl) | (apply E_fa; (apply plT; apply rfl); apply rfl; apply rfl; decide) | (apply E_ld; (apply tyT; apply rfl); apply rfl; (apply at_old; assumption); apply rfl) | (apply E_len; (apply elT; apply rfl); apply rfl; apply rfl))) | (apply Vd; apply rfl; (apply E_lss; apply rfl; apply rfl); all_goals intro h_) | (apply s_region; apply rfl) | apply tri_seq | apply tri_block | apply tri_skip | apply tri_exit | (apply tri_condT; apply rfl) | (apply tri_condF; apply rfl) | apply p_then | apply p_in | apply p_thenE)
    · obtain ⟨f, hf⟩ : ∃ f, c.fields[j]? = some f := ⟨_, List.getElem?_eq_getElem (by omega)⟩
      rw [drop_at hf, chkF1] at hc1
      have h21 := sp58 p c.name f.name hp
      have hle := own_le he hc hf
      repeat' (first | apply triL_nil | (apply V; apply rfl; (first | (apply E_mv; apply rfl) | (apply E_as; apply rfl) | (apply E_fa; (apply plT; apply rfl); apply rfl; apply rfl; decide) | (apply E_lda; (apply tyT; apply rfl); apply rfl; (first | (apply at_; apply rfl; apply rfl) | (apply at_old; assumption)); apply rfl) | (apply E_ld; (apply tyT; apply rfl); apply rfl; (first | (apply at_; apply rfl; apply rfl) | (apply at_old; assumption)); apply rfl) | (apply E_lea; (apply tyT; apply rfl); apply rfl; (first | apply rfl | apply encEx_len | apply encSm_len)) | (apply E_add64; apply rfl; apply rfl; apply rfl; omega) | (apply E_ial (c := f); apply elT; apply rfl; apply rfl; apply rfl; apply rfl; exact encFi_len; omega; simpa using hf))) | (apply Vp; apply rfl; apply rfl; apply fnT; apply rfl; apply h21; rintro _ rfl) | (apply Vd; apply rfl; (apply E_lss; apply rfl; apply rfl); all_goals intro h_) | (apply Vw; apply rfl; (apply W_alL; apply rfl; (apply tyT; apply rfl))) | (apply Vs; apply rfl; (apply W_stL; apply rfl; (apply tyT; apply rfl); apply rfl; apply rfl; apply rfl; (first | apply okC_new | (apply okC_ge; omega)); apply rfl; apply rfl; (first | decide | (apply Nat.le_of_ble_eq_true; rfl)))) | (apply s_region; apply rfl) | (apply tri_region; apply rfl) | apply tri_skip | apply tri_ret | (apply tri_condT; apply rfl) | (apply tri_condF; apply rfl) | (apply end_q _ (.inr rfl); (apply pre_app; assumption); (focus repeat (first | apply R_nil | (apply R_tmp; apply rfl))); apply rfl) | apply p_then | apply p_inN | apply p_inR | apply p_thenR)
      · rw [if_pos (show ownF p c.name f.name ≠ j by omega)] at hc1
        rw [if_pos hc1] at hch
        rw [hch]
        rfl
      · rw [if_neg (show ¬ ownF p c.name f.name ≠ j by omega)] at hc1
        exact ⟨j + 1, _, _, by omega, ⟨by omega, by simp only [List.length_append]; omega, pre_app hT2, at_old hb2, at_old hcb, hc1⟩, ⟨rfl, rfl, rfl, rfl, rfl, rfl, rfl, rfl, vI_of (by omega), trivial⟩, rfl⟩
    · rw [List.drop_of_length_le (by omega), chkF1] at hc1
      rw [if_neg (by rw [hc1]; decide)] at hch
      clear hc1
      refine tri_grow (fun j : Nat => c.fields.length - j) (fun j => [(1, .ptr (S.length + 0) 0), (4, vI k), (14, .d (encL encCl p)), (15, vI p.length), (16, vI k), (40, .d (encL encFi c.fields)), (41, vI c.fields.length), (42, vI j)]) (fun j S3 T3 => j ≤ c.fields.length ∧ S1.length ≤ S3.length ∧ T <+: T3 ∧ S3[S.length + 0]? = some ([.d (encL encCl p)], 26) ∧ chkF2 p c.fields = chkF2 p (c.fields.drop j)) 0 ⟨Nat.zero_le _, by simpa using hS2, pre_app hT2, at_old hb2, by rw [List.drop_zero]⟩ ⟨rfl, rfl, rfl, rfl, rfl, rfl, rfl, rfl, trivial⟩ ?_
      clear hj hS2 hT2 hb2 hcb
      rintro j S3 T3 ⟨hj, hS3, hT3, hb3, hc2⟩
      repeat' (first | apply triL_nil | (apply V; apply rfl; (first | (apply E_mv; apply rfl) | (apply E_add64; apply rfl; apply rfl; apply rfl; omega))) | (apply Vd; apply rfl; (apply E_lss; apply rfl; apply rfl); all_goals intro h_) | (apply s_region; apply rfl) | apply tri_seq | (apply tri_region; apply rfl) | apply tri_block | apply tri_skip | apply tri_exit | (apply tri_condT; apply rfl) | (apply tri_condF; apply rfl) | apply p_then | apply p_in | apply p_inN | apply p_thenE)
      · obtain ⟨f, hf⟩ : ∃ f, c.fields[j]? = some f := ⟨_, List.getElem?_eq_getElem (by omega)⟩
        rw [drop_at hf, chkF2] at hc2
        have h52 := sp59 p f.typ hp1
        cases ht : typeC p f.typ
        all_goals
          rw [ht] at h52 hc2
          repeat' (first | apply triL_nil | (apply V; apply rfl; (first | (apply E_mv; apply rfl) | (apply E_as; apply rfl) | (apply E_fa; (apply plT; apply rfl); apply rfl; apply rfl; decide) | (apply E_lda; (apply tyT; apply rfl); apply rfl; (first | (apply at_; apply rfl; apply rfl) | (apply at_old; assumption)); apply rfl) | (apply E_ld; (apply tyT; apply rfl); apply rfl; (first | (apply at_; apply rfl; apply rfl) | (apply at_old; assumption)); apply rfl) | (apply E_lea; (apply tyT; apply rfl); apply rfl; (first | apply rfl | apply encEx_len | apply encSm_len)) | (apply E_not; apply rfl) | (apply E_add64; apply rfl; apply rfl; apply rfl; omega) | (apply E_ial (c := f); apply elT; apply rfl; apply rfl; apply rfl; apply rfl; exact encFi_len; omega; simpa using hf))) | (apply Vp; apply rfl; apply rfl; apply fnT; apply rfl; apply h52; rintro _ rfl) | (apply Vw; apply rfl; (apply W_alL; apply rfl; (apply tyT; apply rfl))) | (apply Vs; apply rfl; (apply W_stL; apply rfl; (apply tyT; apply rfl); apply rfl; apply rfl; apply rfl; (first | apply okC_new | (apply okC_ge; omega)); apply rfl; apply rfl; (first | decide | (apply Nat.le_of_ble_eq_true; rfl)))) | (apply s_region; apply rfl) | (apply tri_region; apply rfl) | apply tri_skip | apply tri_ret | (apply tri_condT; apply rfl) | (apply tri_condF; apply rfl) | (apply end_q _ (.inr rfl); (apply pre_app; assumption); (focus repeat (first | apply R_nil | (apply R_tmp; apply rfl))); apply rfl) | apply p_then | apply p_inN | apply p_inR | apply p_thenR)
        · rw [if_neg (by decide)] at hc2
          rw [if_pos hc2] at hch
          rw [hch]
          rfl
        · rw [if_pos rfl] at hc2
          exact ⟨j + 1, _, _, by omega, ⟨by omega, by simp only [List.length_append]; omega, pre_app hT3, at_old hb3, hc2⟩, ⟨rfl, rfl, rfl, rfl, rfl, rfl, rfl, vI_of (by omega), trivial⟩, rfl⟩
      · rw [List.drop_of_length_le (by omega), chkF2] at hc2
        rw [if_neg (by rw [hc2]; decide)] at hch
        exact ⟨k + 1, _, _, by omega, ⟨by omega, by simp only [List.length_append]; omega, pre_app hT3, at_old hb3, hch⟩, ⟨rfl, rfl, rfl, vI_of (by omega), trivial⟩, rfl⟩
  · rw [List.drop_of_length_le (by omega), chkF] at hch
    rw [hch]
    rfl
end Go.Proofs.YtinffhimfoicdaaGreat

/- A calculus over the model's wp rules, part 19: calls that leave new boxes. No conditions. -/
namespace Go.Proofs.YtinffhimfoicdaaGreat.Calc
open Go Go.RowKit
set_option linter.unusedVariables false

/-- What must stand behind a body; boxes that it made may stay. -/
def endN (P : Program) (rs : List ResultVar) (Wr : List Nat) (st0 : St) (Q : BV → St → Prop) : Post := fun ex ρ st =>
  (ex = .normal ∨ ex = .ret) ∧ ∃ l l' S' T', (resB P ρ st rs = some l ∨ (resB P ρ st rs).map wks = some l) ∧ lows S'.length T'.length l = some l' ∧
    (∀ id cs ty, S'[id]? = some (cs, ty) → (id < st0.S.length ∧ id ∉ Wr ∧ st0.S[id]? = some (cs, ty)) ∨ (∃ cs0, st.S[id]? = some (cs0, ty) ∧ lows S'.length T'.length cs0 = some cs)) ∧
    S'.length ≤ st.S.length ∧ st0.S.length ≤ S'.length ∧ T' <+: st.T ∧ st0.T.length ≤ T'.length ∧ Q (retB l') ⟨S', T', st.M⟩
theorem callT_bodyN {P : Program} {f : Nat} {fn : Func} {c : Code} {args : List BV} {st : St} {Q : BV → St → Prop} (Wr Wm : List Nat) (hf : P.funcs[f]? = some fn) (hb : fn.body = some c)
    (h : ∀ (x : Full) (a : Act), x.st = st → Good x → Regs fn.ntmps x (regsOf args) a → ∀ K : Exit → Act → World → Prop, (∀ ex ρ' z a', endN P fn.results.toList Wr st Q ex ρ' z.st → Step Wr Wm x z → Good z → Regs fn.ntmps z ρ' a' → K ex.to a' z.w) → c.wp P K a x.w) : CallT P Wr Wm f args st Q := by
  intro x vs hx hg hargs
  subst hx
  refine calls_of_wp hf hb (h x _ rfl hg ?_ _ (fun ex ρ z a hq hs hgz hr => ?_))
  · refine ⟨rfl, by simp; omega, fun t v ht => ?_⟩
    obtain ⟨u, hu, hru⟩ := hargs.get ht
    have hlt := (List.getElem?_eq_some_iff.1 hu).1
    have : (vs.toArray ++ Array.replicate (fn.ntmps - vs.toArray.size) undef).getD t undef = u := by
      rw [Array.getD_eq_getD_getElem?, Array.getElem?_append_left (by simpa using hlt)]
      simp [hu]
    rw [this]
    exact hru
  · obtain ⟨hex, l, l', S', T', q1, q2, q3, hz1, hSl, q4, q5, q6⟩ := hq
    obtain ⟨us, r1, r2⟩ : ∃ vs, (fn.results.toList.mapM (resSem a.tmps)).run P z.w = .ok vs z.w ∧ RepBs z l vs := by
      rcases q1 with q1 | q1
      · exact res_run hgz hr q1
      · obtain ⟨l0, q0, rfl⟩ := Option.map_eq_some_iff.1 q1
        obtain ⟨us, r1, r2⟩ := res_run hgz hr q0
        exact ⟨us, r1, wks_rep r2⟩
    obtain ⟨Tr, hT⟩ := q4
    have hTl : z.st.T.length = T'.length + Tr.length := by rw [← hT, List.length_append]
    have hTg : ∀ t, t < T'.length → T'[t]? = z.st.T[t]? := fun t ht => by rw [← hT, List.getElem?_append_left ht]
    let z' : Full := ⟨⟨S', T', z.st.M⟩, z.pb, z.pt, z.pm, z.F, z.w⟩
    have hless : Less z z' := ⟨rfl, rfl, rfl, rfl, rfl, rfl, hTg⟩
    have hstep : Step Wr Wm x z' := by
      refine ⟨hs.os, hs.tape, hs.output, hs.size, hs.frame, hs.keep, hSl, hs.ids, fun i h1 h2 => ?_, hs.mlen, hs.mids, hs.mfresh, fun t k ht => ?_, fun t b h1 h2 h3 => hs.tfresh t b h1 ?_ h3, hs.fro⟩
      · exact hs.fresh i h1 (Nat.lt_of_lt_of_le h2 hz1)
      · obtain ⟨k', g1, g2⟩ := hs.tags t k ht
        have := (List.getElem?_eq_some_iff.1 ht).1
        exact ⟨k', (hTg t (by omega)).trans g1, g2⟩
      · have : t < T'.length := h2
        omega
    have hgood : Good z' := by
      constructor
      · intro id cs ty hid
        have hz : id < z.st.S.length := Nat.lt_of_lt_of_le (List.getElem?_eq_some_iff.1 hid).1 hz1
        obtain ⟨us0, _, _, hF⟩ := hgz.box id _ _ (List.getElem?_eq_getElem hz)
        rcases q3 id cs ty hid with ⟨hid', h1, h2⟩ | ⟨cs0, h1, h2⟩
        · obtain ⟨us1, k1, k2, _⟩ := hg.box id cs ty h2
          have hsame := (hs.same hg).box id hid' h1
          refine ⟨us1, ?_, k2.mono hstep, hF⟩
          show z.w.heap[z.pb id]? = _
          rw [hs.ids id hid', hsame]
          exact k1
        · obtain ⟨us1, k1, k2, _⟩ := hgz.box id cs0 ty h1
          refine ⟨us1, k1, lows_rep hless ?_ k2, hF⟩
          exact h2
      · intro i j hi hj e
        exact hgz.inj i j (Nat.lt_of_lt_of_le hi hz1) (Nat.lt_of_lt_of_le hj hz1) e
      · intro t k b ht hpt
        have htl := (List.getElem?_eq_some_iff.1 ht).1
        obtain ⟨k1, k2, k3, k4⟩ := hgz.tag t k b ((hTg t htl).symm.trans ht) hpt
        exact ⟨k1, k2, fun i hi => k3 i (Nat.lt_of_lt_of_le hi hz1), fun u hu he => k4 u (by have : u < T'.length := hu; omega) he⟩
      · intro id es hid
        obtain ⟨us0, c0, k1, k2, k3⟩ := hgz.map id es hid
        refine ⟨us0, c0, k1, k2, fun i e k y he hk => ?_⟩
        obtain ⟨k4, k5⟩ := k3 i e k y he hk
        exact ⟨k4, k5.mono hless.le⟩
      · exact hgz.mapinj
      · exact fun t b i ht hb hi => hgz.tmap t b i (by have : t < T'.length := ht; omega) hb hi
    have hres : RepBs z' l' us := lows_rep hless q2 r2
    have hret : (results fn a.tmps).run P z.w = .ok (if h : us.length = 1 then us[0] else .tuple us.toArray) z.w := by
      rw [results_eq, Array.mapM_eq_mapM_toList]
      simp only [Sem.run_bind, map_eq_pure_bind, Sem.run_pure, r1]
      simp
    have hrep : RepB z' (retB l') (if h : us.length = 1 then us[0] else .tuple us.toArray) := by
      have hlen := hres.length
      unfold retB
      split
      · rename_i b
        cases hres with
        | cons _ v _ vs' h1 h2 =>
          cases h2
          simpa using h1
      · rename_i hne
        split
        · rename_i h1
          exfalso
          rw [h1] at hlen
          match l', hlen, hne with
          | [b], _, hne => exact hne b rfl
        · exact .tup _ _ hres
    have hfin : bodyPost P fn (fun e w' => ∃ r v z, e = .returned v ∧ Q r z.st ∧ RepB z r v ∧ Good z ∧ Step Wr Wm x z ∧ z.w = w') .ret a z.w := ⟨hr.defers, _, hret, _, _, z', rfl, q6, hrep, hgood, hstep, rfl⟩
    rcases hex with rfl | rfl
    · exact hfin
    · exact hfin
theorem callT_goN {P : Program} {f : Nat} {fn : Func} {c : Code} {args : List BV} {S : List (List BV × Nat)} {T : List Nat} {M : List (List (Value × DV))} {Q : BV → St → Prop} (Wr Wm : List Nat) (hf : P.funcs[f]? = some fn) (hb : fn.body = some c) {nt : Nat} (hn : fn.ntmps = nt) {rs : Array ResultVar} (hr : fn.results = rs)
    (h : Tri ⟨P, nt, Wr, Wm, S.length, M.length⟩ c (regsOf args) ⟨S ++ [], T ++ [], M⟩ (endN P rs.toList Wr ⟨S, T, M⟩ Q)) : CallT P Wr Wm f args ⟨S, T, M⟩ Q := by
  subst hn hr
  rw [List.append_nil, List.append_nil] at h
  exact callT_bodyN Wr Wm hf hb fun x a hx hg hr K hK => h x x a (by rw [hx]) (by rw [hx]) (Step.refl _ _ _) hx hg hr K hK
end Go.Proofs.YtinffhimfoicdaaGreat.Calc

/- A calculus over the model's wp rules, part 20: maps are made, written. No conditions. -/
namespace Go.Proofs.YtinffhimfoicdaaGreat.Calc
open Go Go.RowKit
set_option linter.unusedVariables false

section
variable {P : Program} {ok okm : Nat → Bool} {o : Oper} {ρ : Rg} {st : St} {Q : Rg → St → Prop} {t : Nat} {k e : TypeId} {x i v : Operand}
theorem opR_mk (ho : o.op = .makeMap t none) (hq : Q (updO ρ o.dst (.d (.map st.M.length))) ⟨st.S, st.T, st.M ++ [[]]⟩) : OpR P ok okm o ρ st Q := by
  intro nt y a Kx h1 h2 h3 h4
  subst h1
  have hgr := alloc_grown y.w (.map #[] 0)
  have hrun : (execOp a.eval o).run P y.w = .ok (.value (.map (some y.w.heap.size))) (y.w.alloc (.map #[] 0)) := by
    obtain ⟨dst, op, type, pos, after, guard⟩ := o
    subst ho
    have hm : (Instr.makeMap t none).run P y.w = .ok (.map (some y.w.heap.size)) (y.w.alloc (.map #[] 0)) := rfl
    simp [execOp, hm]
  unfold Oper.wp
  rw [hrun]
  refine ⟨_, mapped y _, [], [], rfl, hq, mapped_good h2 hgr, mapped_step h2 hgr, by simp, by simp, (h3.step (mapped_step h2 hgr)).put h4 (.d _ _ ?_)⟩
  have := RepD.map (x := mapped y (y.w.alloc (.map #[] 0))) y.st.M.length (by simp [mapped])
  simpa [mapped] using this
theorem opR_set {id : Nat} {es : List (Value × DV)} {kv : Value} {d : DV} (ho : o.op = .mapUpdate t x i v) (hm : P.underlying t = some (.map k e)) (K : WideMaps.KeyLaw P k) (hx : evB ρ x = some (.d (.map id)))
    (hi : (evB ρ i).bind keyB = some kv) (hv : (evB ρ v).bind toD = some d) (hkv : KeyV P k kv) (hM : st.M[id]? = some es) (hks : ∀ p ∈ es, KeyV P k p.1) (hok : okm id = true)
    (hN : (∀ p ∈ es, p.1 ≠ kv) → Q (updO ρ o.dst (.tup [])) ⟨st.S, st.T, st.M.set id (es ++ [(kv, d)])⟩) (hS : ∀ (j : Nat) (d0 : DV), es[j]? = some (kv, d0) → Q (updO ρ o.dst (.tup [])) ⟨st.S, st.T, st.M.set id (es.set j (kv, d))⟩) : OpR P ok okm o ρ st Q := by
  intro nt y a Kx h1 h2 h3 h4
  subst h1
  obtain ⟨bi, hb1, hb2⟩ := Option.bind_eq_some_iff.1 hi
  have hik := keyB_rep (h3.ev hb1) hb2
  obtain ⟨bv, hv1, hv2⟩ := Option.bind_eq_some_iff.1 hv
  have hvd := toD_rep hv2 (h3.ev hv1)
  have hrx := h3.ev hx
  generalize hw : a.eval x = vx at hrx
  have hkv0 := hkv
  obtain ⟨l, hl⟩ := hkv0
  cases hrx with
  | d _ _ hd => cases hd with
    | map _ hlt =>
      obtain ⟨vs, c, q1, q2, q3, q4⟩ := find_map K h2 hM hks hkv
      unfold Oper.wp
      rcases q4 with ⟨q4, q5⟩ | ⟨j, en, d0, q4, q5, q6, q7, q8⟩
      · have hrun : (execOp a.eval o).run P y.w = .ok .skip { y.w with heap := y.w.heap.setIfInBounds (y.pm id) (.map (vs.push ⟨kv, a.eval v, c⟩) (c + 1)) } := by
          obtain ⟨dst, op, type, pos, after, guard⟩ := o
          subst ho
          simp only [execOp, hw, hik]
          simp [Instr.mapUpdate, run_underlying hm, MapKept.run_getObj_map q1, K.check y.w _ hl, q4, MapKept.run_setObj_map _ q1, Result.andThen]
        have htn := set_turnedM (vs' := vs.push ⟨kv, a.eval v, c⟩) (c' := c + 1) q1
        have hstep := writeM_step (es := es ++ [(kv, d)]) h2 hlt htn
        rw [hrun]
        refine ⟨_, wroteM y _ id _, [], [id], rfl, hN q5, writeM_good h2 hlt htn (by simpa using q2) (fun i' e' k' y' he hk => ?_), hstep, by simp, by simpa using fun _ => hok, (h3.step hstep).putW h4⟩
        rw [Array.toList_push, List.getElem?_append] at he
        rw [List.getElem?_append] at hk
        split at he
        · rename_i hlt'
          rw [if_pos (by omega)] at hk
          exact q3 i' e' k' y' he hk
        · rename_i hlt'
          rw [if_neg (by omega)] at hk
          have h0 : i' - vs.toList.length = 0 := by
            have := (List.getElem?_eq_some_iff.1 he).1
            simp at this
            omega
          rw [h0] at he
          rw [← q2, h0] at hk
          simp only [List.getElem?_cons_zero, Option.some.injEq, Prod.mk.injEq] at he hk
          obtain ⟨rfl, rfl⟩ := hk
          subst he
          exact ⟨rfl, hvd⟩
      · have hj : vs[j]? = some en := by simpa using q5
        have hrun : (execOp a.eval o).run P y.w = .ok .skip { y.w with heap := y.w.heap.setIfInBounds (y.pm id) (.map (vs.modify j fun e => { e with key := kv, val := a.eval v }) c) } := by
          obtain ⟨dst, op, type, pos, after, guard⟩ := o
          subst ho
          simp only [execOp, hw, hik]
          simp [Instr.mapUpdate, run_underlying hm, MapKept.run_getObj_map q1, K.check y.w _ hl, q4, hj, q6, K.stays y.w hl, MapKept.run_setObj_map _ q1, Result.andThen]
        have htn := set_turnedM (vs' := vs.modify j fun e => { e with key := kv, val := a.eval v }) (c' := c) q1
        have hstep := writeM_step (es := es.set j (kv, d)) h2 hlt htn
        rw [hrun]
        refine ⟨_, wroteM y _ id _, [], [id], rfl, hS j d0 q7, writeM_good h2 hlt htn (by simpa using q2) (fun i' e' k' y' he hk => ?_), hstep, by simp, by simpa using fun _ => hok, (h3.step hstep).putW h4⟩
        rw [Array.toList_modify, List.getElem?_modify] at he
        rw [List.getElem?_set] at hk
        by_cases hij : j = i'
        · subst hij
          rw [q5] at he
          have hjl : j < es.length := (List.getElem?_eq_some_iff.1 q7).1
          simp [hjl] at he hk
          obtain ⟨rfl, rfl⟩ := hk
          subst he
          exact ⟨rfl, hvd⟩
        · rw [if_neg hij] at hk
          obtain ⟨e0, he0, rfl⟩ := Option.map_eq_some_iff.1 he
          rw [if_neg hij]
          exact q3 i' e0 k' y' he0 hk
end
end Go.Proofs.YtinffhimfoicdaaGreat.Calc

/- The heap's maps: their keys, what stands in them. No conditions. -/
namespace Go.Proofs.YtinffhimfoicdaaGreat
open Go Go.RowKit Go.Proofs.YtinffhimfoicdaaGreat.Calc
set_option linter.unusedVariables false
set_option linter.unusedSimpArgs false
set_option maxRecDepth 100000

theorem und70 : Tryz.prog.underlying 70 = some (.map 44 39) := by kernel_rfl
theorem K44 : WideMaps.KeyLaw Tryz.prog 44 := deep_law (m := 2) (by decide) (by kernel_rfl) (by kernel_rfl) (by kernel_rfl)
/-- A field's place. -/
structure Tg where
  own : ByteArray
  nth : Int
def keyT (k : Tg) : Value := .agg #[.string k.own, .int .i64 k.nth]
def okT (k : Tg) : Prop := k.own.size ≤ maxLen ∧ (Lit.int .i64 k.nth).wf = true
theorem keyV44 {k : Tg} (h : okT k) : KeyV Tryz.prog 44 (keyT k) := by
  have hp : ∃ f0 f1 : Field, Tryz.prog.underlying 44 = some (.struct #[f0, f1]) ∧ f0.type = 9 ∧ f1.type = 3 ∧ f0.offset = 0 ∧ f1.offset = 1 ∧ (f0.name != "_") = true ∧ (f1.name != "_") = true := by
    refine ⟨_, _, (show Tryz.prog.underlying 44 = some (.struct #[{ name := "Own", type := 9, offset := 0, embedded := false, tag := "", pkgPath := "", byteOffset := 0 }, { name := "Nth", type := 3, offset := 1, embedded := false, tag := "", pkgPath := "", byteOffset := 16 }]) by kernel_rfl), rfl, rfl, rfl, rfl, by decide, by decide⟩
  obtain ⟨f0, f1, hu, a1, a2, a3, a4, a5, a6⟩ := hp
  have hkt : Tryz.prog.keyType 44 = true := by kernel_rfl
  have hc44 : Tryz.prog.cellsOf 44 = 2 := by kernel_rfl
  have hc9 : Tryz.prog.cellsOf 9 = 1 := by kernel_rfl
  have hc3 : Tryz.prog.cellsOf 3 = 1 := by kernel_rfl
  have hu9 : Tryz.prog.underlying 9 = some .string := by kernel_rfl
  have hu3 : Tryz.prog.underlying 3 = some (.int .i64) := by kernel_rfl
  obtain ⟨m, hm⟩ : ∃ m, Tryz.prog.types.size = m + 1 := ⟨_, (by kernel_rfl : Tryz.prog.types.size = 228 + 1)⟩
  have hf : Value.formed Tryz.prog 44 (keyT k) = true := by simp [keyT, Value.formed, hu, hc44]
  refine ⟨.string (keyBytes [.string k.own.data.toList, .int .i64 k.nth]), ?_⟩
  unfold keyOf
  simp only [hu]
  rw [if_pos (by rw [hkt, hf]; rfl), hm]
  unfold Program.keyLits
  simp only [hu, keyT, Value.cells]
  rw [if_pos (by rw [hc44]; simp [a5, a6])]
  simp [Program.keyLits, a1, a2, a3, a4, hu9, hu3, hc9, hc3, h.1, h.2]
end Go.Proofs.YtinffhimfoicdaaGreat

/- The heap's maps as tables. No conditions. -/
namespace Go.Proofs.YtinffhimfoicdaaGreat
open Go Go.RowKit Go.Proofs.YtinffhimfoicdaaGreat.Calc
set_option linter.unusedVariables false
set_option linter.unusedSimpArgs false
set_option maxRecDepth 100000

deriving instance DecidableEq for Tg
/-- A value of the language. -/
structure Vl where
  kind : Int
  n : Int
  s : ByteArray
  deriving DecidableEq
def encV (v : Vl) : DV := .agg [.flat (.int .i64 v.kind), .flat (.int .i32 v.n), .flat (.string v.s)]
def vVl (v : Vl) : BV := .agg [.d (.flat (.int .i64 v.kind)), .d (.flat (.int .i32 v.n)), .d (.flat (.string v.s))]
def vl0 : Vl := ⟨0, 0, ⟨#[]⟩⟩
abbrev Tbl := List (Tg × Vl)
def encM (tbl : Tbl) : List (Value × DV) := tbl.map fun p => (keyT p.1, encV p.2)
def OKM (tbl : Tbl) : Prop := (tbl.map Prod.fst).Nodup ∧ ∀ p ∈ tbl, okT p.1
def getT (tbl : Tbl) (k : Tg) : Option Vl := match tbl with
  | [] => none
  | (k', v) :: l => if k' = k then some v else getT l k
def putT (tbl : Tbl) (k : Tg) (v : Vl) : Tbl := match tbl with
  | [] => [(k, v)]
  | (k', v') :: l => if k' = k then (k, v) :: l else (k', v') :: putT l k v
theorem keyT_inj {a b : Tg} (h : keyT a = keyT b) : a = b := by
  obtain ⟨o, n⟩ := a
  obtain ⟨o', n'⟩ := b
  simp only [keyT, Value.agg.injEq, Array.mk.injEq, List.cons.injEq, Value.string.injEq, Value.int.injEq, true_and, and_true] at h
  rw [h.1, h.2]
theorem getT_none {k : Tg} : ∀ {tbl : Tbl}, (∀ p ∈ encM tbl, p.1 ≠ keyT k) → getT tbl k = none
  | [], _ => rfl
  | (k', v) :: l, h => by
    rw [getT, if_neg (fun e => h (keyT k', encV v) (by simp [encM]) (by rw [e]))]
    exact getT_none fun p hp => h p (by simp only [encM, List.map_cons, List.mem_cons]; exact .inr hp)
theorem getT_at {k : Tg} : ∀ {tbl : Tbl} {j : Nat} {d : DV}, (tbl.map Prod.fst).Nodup → (encM tbl)[j]? = some (keyT k, d) → ∃ v, getT tbl k = some v ∧ d = encV v
  | [], j, d, _, h => by simp [encM] at h
  | (k', v) :: l, 0, d, hn, h => by
    simp only [encM, List.map_cons, List.getElem?_cons_zero, Option.some.injEq, Prod.mk.injEq] at h
    exact ⟨v, by rw [getT, if_pos (keyT_inj h.1)], h.2.symm⟩
  | (k', v) :: l, j + 1, d, hn, h => by
    have h' : (encM l)[j]? = some (keyT k, d) := by simpa [encM] using h
    rw [List.map_cons, List.nodup_cons] at hn
    obtain ⟨v', h1, h2⟩ := getT_at hn.2 h'
    refine ⟨v', ?_, h2⟩
    rw [getT, if_neg (fun e => ?_), h1]
    apply hn.1
    have hm := List.mem_of_getElem? h'
    obtain ⟨p, hp, he⟩ := List.mem_map.1 hm
    have : p.1 = k := keyT_inj (by simpa using congrArg Prod.fst he)
    exact List.mem_map.2 ⟨p, hp, by rw [this]; exact e.symm⟩
theorem putT_none {k : Tg} {v : Vl} : ∀ {tbl : Tbl}, (∀ p ∈ encM tbl, p.1 ≠ keyT k) → encM tbl ++ [(keyT k, encV v)] = encM (putT tbl k v)
  | [], _ => rfl
  | (k', v') :: l, h => by
    rw [putT, if_neg (fun e => h (keyT k', encV v') (by simp [encM]) (by rw [e]))]
    have ih := putT_none (k := k) (v := v) (tbl := l) fun p hp => h p (by simp only [encM, List.map_cons, List.mem_cons]; exact .inr hp)
    show (keyT k', encV v') :: (encM l ++ _) = (keyT k', encV v') :: encM (putT l k v)
    rw [ih]
theorem putT_at {k : Tg} {v : Vl} : ∀ {tbl : Tbl} {j : Nat} {d : DV}, (tbl.map Prod.fst).Nodup → (encM tbl)[j]? = some (keyT k, d) → (encM tbl).set j (keyT k, encV v) = encM (putT tbl k v)
  | [], j, d, _, h => by simp [encM] at h
  | (k', v') :: l, 0, d, hn, h => by
    simp only [encM, List.map_cons, List.getElem?_cons_zero, Option.some.injEq, Prod.mk.injEq] at h
    rw [putT, if_pos (keyT_inj h.1)]
    rfl
  | (k', v') :: l, j + 1, d, hn, h => by
    have h' : (encM l)[j]? = some (keyT k, d) := by simpa [encM] using h
    rw [List.map_cons, List.nodup_cons] at hn
    have ih := putT_at (v := v) hn.2 h'
    rw [putT, if_neg (fun e => ?_)]
    · show (keyT k', encV v') :: (encM l).set j _ = (keyT k', encV v') :: encM (putT l k v)
      rw [ih]
    · apply hn.1
      have hm := List.mem_of_getElem? h'
      obtain ⟨p, hp, he⟩ := List.mem_map.1 hm
      have : p.1 = k := keyT_inj (by simpa using congrArg Prod.fst he)
      exact List.mem_map.2 ⟨p, hp, by rw [this]; exact e.symm⟩
theorem OKM.keys {tbl : Tbl} (h : OKM tbl) : ∀ p ∈ encM tbl, KeyV Tryz.prog 44 p.1 := fun p hp => by
  obtain ⟨q, hq, rfl⟩ := List.mem_map.1 hp
  exact keyV44 (h.2 q hq)
theorem mem_putT {k : Tg} {v : Vl} : ∀ {tbl : Tbl} {p : Tg × Vl}, p ∈ putT tbl k v → p = (k, v) ∨ p ∈ tbl
  | [], p, h => by
    rw [putT, List.mem_singleton] at h
    exact .inl h
  | (k', v') :: l, p, h => by
    rw [putT] at h
    split at h
    · rcases List.mem_cons.1 h with h | h
      · exact .inl h
      · exact .inr (List.mem_cons_of_mem _ h)
    · rcases List.mem_cons.1 h with h | h
      · exact .inr (h ▸ List.mem_cons_self)
      · rcases mem_putT h with h | h
        · exact .inl h
        · exact .inr (List.mem_cons_of_mem _ h)
theorem OKM.put {tbl : Tbl} (h : OKM tbl) {k : Tg} (hk : okT k) (v : Vl) : OKM (putT tbl k v) := by
  refine ⟨?_, fun p hp => ?_⟩
  · obtain ⟨h1, h2⟩ := h
    clear h2
    induction tbl with
    | nil => simp [putT]
    | cons p l ih =>
      obtain ⟨k', v'⟩ := p
      rw [List.map_cons, List.nodup_cons] at h1
      rw [putT]
      split
      · rename_i e
        subst e
        rw [List.map_cons, List.nodup_cons]
        exact h1
      · rename_i e
        rw [List.map_cons, List.nodup_cons]
        refine ⟨fun hm => ?_, ih h1.2⟩
        obtain ⟨q, hq, he⟩ := List.mem_map.1 hm
        rcases mem_putT hq with h | h
        · rw [h] at he
          exact e he.symm
        · exact h1.1 (List.mem_map.2 ⟨q, h, he⟩)
  · rcases mem_putT hp with h' | h'
    · rw [h']
      exact hk
    · exact h.2 p h'
theorem OKM.nil : OKM [] := ⟨List.nodup_nil, fun p hp => by cases hp⟩
theorem getT_put {k k' : Tg} {v : Vl} : ∀ {tbl : Tbl}, getT (putT tbl k v) k' = if k = k' then some v else getT tbl k'
  | [] => rfl
  | (a, b) :: l => by
    rw [putT]
    split
    · rename_i e
      subst e
      rw [getT, getT]
      split <;> rfl
    · rename_i e
      rw [getT, getT, getT_put]
      split
      · rename_i e1
        subst e1
        rw [if_neg (fun h => e h.symm)]
      · rfl
section
variable {okm ok : Nat → Bool} {o : Oper} {ρ : Rg} {st : St} {Q : Rg → St → Prop} {x i v : Operand} {b : Bool}
theorem opR_lookT {id : Nat} {tbl : Tbl} {k : Tg} (ho : o.op = .lookup 70 x i b) (hx : evB ρ x = some (.d (.map id))) (hi : (evB ρ i).bind keyB = some (keyT k)) (hk : okT k) (hM : st.M[id]? = some (encM tbl)) (hO : OKM tbl)
    (hq : Q (updO ρ o.dst (lkB b (vVl ((getT tbl k).getD vl0)) (getT tbl k).isSome)) st) : OpR Tryz.prog ok okm o ρ st Q := by
  refine opR_look ho und70 K44 (z := [.d (.flat (.int .i64 0)), .d (.flat (.int .i32 0)), .d (.flat (.string ⟨#[]⟩))]) (sz := 3) (tyT rfl) hx hi (keyV44 hk) hM hO.keys (fun hn => ?_) (fun j d hj => ?_)
  · rw [getT_none hn] at hq
    exact hq
  · obtain ⟨v, h1, rfl⟩ := getT_at hO.1 hj
    rw [h1] at hq
    exact hq
theorem opR_setT {id : Nat} {tbl : Tbl} {k : Tg} {w : Vl} (ho : o.op = .mapUpdate 70 x i v) (hx : evB ρ x = some (.d (.map id))) (hi : (evB ρ i).bind keyB = some (keyT k)) (hv : (evB ρ v).bind toD = some (encV w)) (hk : okT k) (hM : st.M[id]? = some (encM tbl)) (hO : OKM tbl) (hok : okm id = true)
    (hq : Q (updO ρ o.dst (.tup [])) ⟨st.S, st.T, st.M.set id (encM (putT tbl k w))⟩) : OpR Tryz.prog ok okm o ρ st Q := by
  refine opR_set ho und70 K44 hx hi hv (keyV44 hk) hM hO.keys hok (fun hn => ?_) (fun j d hj => ?_)
  · rw [putT_none hn]
    exact hq
  · rw [putT_at hO.1 hj]
    exact hq
end
end Go.Proofs.YtinffhimfoicdaaGreat

/- The heap's functions. No conditions. -/
namespace Go.Proofs.YtinffhimfoicdaaGreat
open Go Go.RowKit Go.Proofs.YtinffhimfoicdaaGreat.Calc
set_option linter.unusedVariables false
set_option linter.unusedSimpArgs false
set_option maxRecDepth 100000
set_option maxHeartbeats 8000000
section
variable {P : Program} {st : St} {ρ : Rg} {x : Operand} {t e ty : Nat}
theorem E_pe {id off : Nat} (hu : P.underlying t = some (.pointer e)) (hx : evB ρ x = some (.ptr id off)) : stepV P st ρ (.binOp .eql t x (.const (.pointer none)) ty) = some (vB false) := by
  have hf : fl ρ x = none := by simp only [fl, hx]; rfl
  simp only [stepV, hf, nilB, hu, hx]
  rfl
theorem E_pn {id off : Nat} (hu : P.underlying t = some (.pointer e)) (hx : evB ρ x = some (.ptr id off)) : stepV P st ρ (.binOp .neq t x (.const (.pointer none)) ty) = some (vB true) := by
  have hf : fl ρ x = none := by simp only [fl, hx]; rfl
  simp only [stepV, hf, nilB, hu, hx]
  rfl
theorem E_cv32 {s d : Nat} {u : TypeDesc} {n : Int} (hx : fl ρ x = some (.int .i32 n)) (hs : P.underlying s = some u) (hd : P.underlying d = some (.int .i64)) (h : -2147483648 ≤ n ∧ n ≤ 2147483647) : stepV P st ρ (.convert s d x) = some (vI n) := by
  rw [E_cvt hx hs hd, IntWalk.i64_in _ (by omega)]
theorem E_cv64 {s d : Nat} {u : TypeDesc} {n : Int} (hx : fl ρ x = some (.int .i64 n)) (hs : P.underlying s = some u) (hd : P.underlying d = some (.int .i32)) (h : -2147483648 ≤ n ∧ n ≤ 2147483647) : stepV P st ρ (.convert s d x) = some (.d (.flat (.int .i32 n))) := by
  rw [E_cvt hx hs hd, IntWalk.i32_in _ (by omega)]
theorem E_sub32 {y : Operand} {a b c : Int} (hx : fl ρ x = some (.int .i32 a)) (hy : fl ρ y = some (.int .i32 b)) (hc : a - b = c) (h : -2147483648 ≤ c ∧ c ≤ 2147483647) : stepV P st ρ (.binOp .sub t x y ty) = some (.d (.flat (.int .i32 c))) := by
  subst hc
  rw [E_sub hx hy, IntWalk.i32_in _ h]
end
attribute [local irreducible] Tri TriL TriP CallT stepV stepW thenQ inQ endQ

def INT : ByteArray := ⟨#[105, 110, 116]⟩
def BOO : ByteArray := ⟨#[98, 111, 111, 108, 101, 97, 110]⟩
def STR : ByteArray := ⟨#[83, 116, 114, 105, 110, 103]⟩
/-- What stands in a field of a type at first. -/
def zeroT (t : ByteArray) : Vl := if t = INT then ⟨1, 0, ⟨#[]⟩⟩ else if t = BOO then ⟨2, 0, ⟨#[]⟩⟩ else if t = STR then ⟨3, 0, ⟨#[]⟩⟩ else ⟨4, 0, ⟨#[]⟩⟩
theorem und28 : Tryz.prog.underlying 28 = some (.pointer 73) := by kernel_rfl
theorem ty70 : tyOf Tryz.prog 70 = some ((false, 1, [.d (.flat (.map none))])) := by kernel_rfl
theorem vVl_of {a b : Vl} (h : a = b) : vVl a = vVl b := by rw [h]
theorem sp20 (t : ByteArray) : PC 20 [vS t] (fun r => r = vVl (zeroT t)) := by
  intro S T M
  refine callT_go [] [] Tryz.func20 rfl Tryz.ntmps20 Tryz.results20 ?_
  unfold zeroT
  by_cases h1 : t = INT
  · subst h1
    repeat' (first | apply triL_nil | (apply V; apply rfl; (first | (apply E_mv; apply rfl) | (apply E_as; apply rfl) | (apply E_bd; (apply plT; apply rfl); apply rfl))) | (apply Vd; apply rfl; (apply E_seql; apply rfl; apply rfl); all_goals intro h_) | (apply Vw; apply rfl; (apply W_alL; apply rfl; (apply tyT; apply rfl))) | (apply Vs; apply rfl; (apply W_stL; apply rfl; (apply tyT; apply rfl); apply rfl; apply rfl; apply rfl; (first | apply okC_new | (apply okC_ge; omega)); apply rfl; apply rfl; (first | decide | (apply Nat.le_of_ble_eq_true; rfl)))) | (apply s_region; apply rfl) | apply tri_seq | apply tri_block | apply tri_skip | apply tri_ret | (apply tri_condT; apply rfl) | (apply tri_condF; apply rfl) | (apply end_q _ (.inr rfl); (exact List.prefix_append _ _); (focus repeat (first | apply R_nil | (apply R_cell; apply rfl; apply rfl; apply tyT; apply rfl; apply rfl; apply rfl))); apply rfl) | apply p_then | apply p_inN | apply p_inR | apply p_thenR)
    all_goals first | rfl | contradiction
  by_cases h2 : t = BOO
  · subst h2
    repeat' (first | apply triL_nil | (apply V; apply rfl; (first | (apply E_mv; apply rfl) | (apply E_as; apply rfl) | (apply E_bd; (apply plT; apply rfl); apply rfl))) | (apply Vd; apply rfl; (apply E_seql; apply rfl; apply rfl); all_goals intro h_) | (apply Vw; apply rfl; (apply W_alL; apply rfl; (apply tyT; apply rfl))) | (apply Vs; apply rfl; (apply W_stL; apply rfl; (apply tyT; apply rfl); apply rfl; apply rfl; apply rfl; (first | apply okC_new | (apply okC_ge; omega)); apply rfl; apply rfl; (first | decide | (apply Nat.le_of_ble_eq_true; rfl)))) | (apply s_region; apply rfl) | apply tri_seq | apply tri_block | apply tri_skip | apply tri_ret | (apply tri_condT; apply rfl) | (apply tri_condF; apply rfl) | (apply end_q _ (.inr rfl); (exact List.prefix_append _ _); (focus repeat (first | apply R_nil | (apply R_cell; apply rfl; apply rfl; apply tyT; apply rfl; apply rfl; apply rfl))); apply rfl) | apply p_then | apply p_inN | apply p_inR | apply p_thenR)
    all_goals first | rfl | contradiction
  by_cases h3 : t = STR
  · subst h3
    repeat' (first | apply triL_nil | (apply V; apply rfl; (first | (apply E_mv; apply rfl) | (apply E_as; apply rfl) | (apply E_bd; (apply plT; apply rfl); apply rfl))) | (apply Vd; apply rfl; (apply E_seql; apply rfl; apply rfl); all_goals intro h_) | (apply Vw; apply rfl; (apply W_alL; apply rfl; (apply tyT; apply rfl))) | (apply Vs; apply rfl; (apply W_stL; apply rfl; (apply tyT; apply rfl); apply rfl; apply rfl; apply rfl; (first | apply okC_new | (apply okC_ge; omega)); apply rfl; apply rfl; (first | decide | (apply Nat.le_of_ble_eq_true; rfl)))) | (apply s_region; apply rfl) | apply tri_seq | apply tri_block | apply tri_skip | apply tri_ret | (apply tri_condT; apply rfl) | (apply tri_condF; apply rfl) | (apply end_q _ (.inr rfl); (exact List.prefix_append _ _); (focus repeat (first | apply R_nil | (apply R_cell; apply rfl; apply rfl; apply tyT; apply rfl; apply rfl; apply rfl))); apply rfl) | apply p_then | apply p_inN | apply p_inR | apply p_thenR)
    all_goals first | rfl | contradiction
  rw [if_neg h1, if_neg h2, if_neg h3]
  repeat' (first | apply triL_nil | (apply V; apply rfl; (first | (apply E_mv; apply rfl) | (apply E_as; apply rfl) | (apply E_bd; (apply plT; apply rfl); apply rfl))) | (apply Vd; apply rfl; (apply E_seql; apply rfl; apply rfl); all_goals intro h_) | (apply Vw; apply rfl; (apply W_alL; apply rfl; (apply tyT; apply rfl))) | (apply Vs; apply rfl; (apply W_stL; apply rfl; (apply tyT; apply rfl); apply rfl; apply rfl; apply rfl; (first | apply okC_new | (apply okC_ge; omega)); apply rfl; apply rfl; (first | decide | (apply Nat.le_of_ble_eq_true; rfl)))) | (apply s_region; apply rfl) | apply tri_seq | apply tri_block | apply tri_skip | apply tri_ret | (apply tri_condT; apply rfl) | (apply tri_condF; apply rfl) | (apply end_q _ (.inr rfl); (exact List.prefix_append _ _); (focus repeat (first | apply R_nil | (apply R_cell; apply rfl; apply rfl; apply tyT; apply rfl; apply rfl; apply rfl))); apply rfl) | apply p_then | apply p_inN | apply p_inR | apply p_thenR)
  all_goals first | rfl | contradiction

/-- An object: its class, its map. -/
def encOb (o : ByteArray × Nat) : List DV := [.flat (.string o.1), .map o.2]
theorem encOb_len (o : ByteArray × Nat) : (encOb o).length = 2 := rfl
/-- A call that only reads, where a heap stands. -/
abbrev HC (p : List Cl) (ob : BV) (sid f : Nat) (args : Nat → List BV) (R : BV → Prop) : Prop := ∀ S T M id, S[id]? = some ([.d (encL encCl p), ob, .d (.map sid)], 73) → CallT Tryz.prog [] [] f (args id) ⟨S, T, M⟩ (fun r s => s = ⟨S, T, M⟩ ∧ R r)
theorem sp19 (p : List Cl) (tg sid : Nat) (l : List (ByteArray × Nat)) : HC p (.own 79 2 tg (l.flatMap encOb) l.length) sid 19 (fun id => [.ptr id 0]) (fun r => r = vI l.length) := by
  intro S T M id hid
  refine callT_go [] [] Tryz.func19 rfl Tryz.ntmps19 Tryz.results19 ?_
  repeat' (first | apply triL_nil | (apply V; apply rfl; (first | (apply E_mv; apply rfl) | (apply E_as; apply rfl) | (apply E_fa; (apply plT; apply rfl); apply rfl; apply rfl; decide) | (apply E_ld; (apply tyT; apply rfl); apply rfl; (apply at_old; assumption); apply rfl) | (apply E_len; (apply elT; apply rfl); apply rfl; apply rfl) | (apply E_ncp; apply rfl) | (apply E_pe; exact und28; apply rfl))) | (apply s_region; apply rfl) | apply tri_seq | apply tri_skip | apply tri_ret | (apply tri_condF; apply rfl) | (apply end_q _ (.inr rfl); (exact List.prefix_append _ _); (focus repeat (first | apply R_nil | (apply R_tmp; apply rfl))); apply rfl) | apply p_then)
  rfl
theorem nif79 : nifOf Tryz.prog 79 = true := by kernel_rfl
def vNil : BV := .d (.flat .nilIface)
def vOb (o : ByteArray × Nat) : BV := .d (.iface 79 (.agg (encOb o)))
/-- Which object a value means. -/
def obOf (l : List (ByteArray × Nat)) (v : Vl) : Option (ByteArray × Nat) := if v.kind = 4 then (if v.n < 1 then none else l[(v.n - 1).toNat]?) else none
def vOf (l : List (ByteArray × Nat)) (v : Vl) : BV := match obOf l v with
  | some o => vOb o
  | none => vNil
def okV (v : Vl) : Prop := -2147483648 ≤ v.n ∧ v.n ≤ 2147483647
theorem sp37 (p : List Cl) (tg sid : Nat) (l : List (ByteArray × Nat)) (v : Vl) (hv : okV v) (hl : l.length ≤ 1000) : HC p (.own 79 2 tg (l.flatMap encOb) l.length) sid 37 (fun id => [.ptr id 0, vVl v]) (fun r => r = vOf l v) := by
  obtain ⟨k, n, s⟩ := v
  unfold okV at hv
  dsimp only at hv
  intro S T M id hid
  dsimp only [vVl]
  refine callT_go [] [] Tryz.func37 rfl Tryz.ntmps37 Tryz.results37 ?_
  unfold vOf obOf
  dsimp only
  by_cases h1 : k = 4
  case neg =>
    rw [if_neg h1]
    repeat' (first | apply triL_nil | (apply V; apply rfl; (first | (apply E_cv32; apply rfl; apply udT; apply rfl; apply udT; apply rfl; omega) | (apply E_mv; apply rfl) | (apply E_as; apply rfl) | (apply E_fa; (apply plT; apply rfl); apply rfl; apply rfl; decide) | (apply E_ld; (apply tyT; apply rfl); apply rfl; (first | (apply at_; apply rfl; apply rfl) | (apply at_old; assumption)); apply rfl) | (apply E_len; (apply elT; apply rfl); apply rfl; apply rfl) | (apply E_ncp; apply rfl) | (apply E_pkT; apply rfl; apply rfl) | (apply E_pkF; apply rfl; apply rfl) | (apply E_sub; apply rfl; apply rfl) | (apply E_pe; exact und28; apply rfl))) | (apply s_drawn (nt := 38) (.take 0 (.take 1 (.take 2 (.take 3 (.take 4 (.take 5 (.take 6 (.take 7 (.take 8 (.take 9 (.take 10 (.take 11 (.take 12 (.take 13 (.take 14 (.take 15 (.take 16 (.take 17 (.take 18 (.take 19 (.take 20 (.take 21 (.take 22 .nil))))))))))))))))))))))) [] []; exact mixed; rfl; decide +kernel) | (apply s_drawn (nt := 38) (.take 0 (.take 1 (.take 2 (.take 3 (.take 4 (.take 5 (.take 6 (.take 7 (.take 8 (.take 9 (.take 10 .nil))))))))))) [] []; exact mixed; rfl; decide +kernel) | (apply Vw; apply rfl; (apply W_bxL; apply rfl; apply rfl; apply rfl)) | (apply s_region; apply rfl) | apply tri_seq | apply tri_skip | apply tri_ret | (apply tri_condT; apply rfl) | (apply tri_condF; apply rfl) | (apply end_q _ (.inr rfl); (exact List.prefix_append _ _); (focus repeat (first | apply R_nil | (apply R_tmp; apply rfl))); apply rfl) | apply p_then | apply p_thenR | apply d_nil | (apply tV; apply rfl; apply rfl; (first | (apply E_cv32; apply rfl; apply udT; apply rfl; apply udT; apply rfl; omega) | (apply E_mv; apply rfl) | (apply E_as; apply rfl) | (apply E_fa; (apply plT; apply rfl); apply rfl; apply rfl; decide) | (apply E_ld; (apply tyT; apply rfl); apply rfl; (first | (apply at_; apply rfl; apply rfl) | (apply at_old; assumption)); apply rfl) | (apply E_len; (apply elT; apply rfl); apply rfl; apply rfl) | (apply E_ncp; apply rfl) | (apply E_pkT; apply rfl; apply rfl) | (apply E_pkF; apply rfl; apply rfl) | (apply E_sub; apply rfl; apply rfl) | (apply E_pe; exact und28; apply rfl)); apply rfl) | (apply tVd; apply rfl; apply rfl; (first | (apply E_lss; apply rfl; apply rfl) | (apply E_gtr; apply rfl; apply rfl) | (apply E_neq; apply rfl; apply rfl)); apply rfl; all_goals intro h_) | (apply tVo; apply rfl; apply rfl) | (show TriP _ _ _ _ _ _ _ _; exfalso; omega))
    all_goals first | rfl | (exfalso; omega)
  rw [if_pos h1]
  by_cases h2 : n < 1
  · rw [if_pos h2]
    repeat' (first | apply triL_nil | (apply V; apply rfl; (first | (apply E_cv32; apply rfl; apply udT; apply rfl; apply udT; apply rfl; omega) | (apply E_mv; apply rfl) | (apply E_as; apply rfl) | (apply E_fa; (apply plT; apply rfl); apply rfl; apply rfl; decide) | (apply E_ld; (apply tyT; apply rfl); apply rfl; (first | (apply at_; apply rfl; apply rfl) | (apply at_old; assumption)); apply rfl) | (apply E_len; (apply elT; apply rfl); apply rfl; apply rfl) | (apply E_ncp; apply rfl) | (apply E_pkT; apply rfl; apply rfl) | (apply E_pkF; apply rfl; apply rfl) | (apply E_sub; apply rfl; apply rfl) | (apply E_pe; exact und28; apply rfl))) | (apply s_drawn (nt := 38) (.take 0 (.take 1 (.take 2 (.take 3 (.take 4 (.take 5 (.take 6 (.take 7 (.take 8 (.take 9 (.take 10 (.take 11 (.take 12 (.take 13 (.take 14 (.take 15 (.take 16 (.take 17 (.take 18 (.take 19 (.take 20 (.take 21 (.take 22 .nil))))))))))))))))))))))) [] []; exact mixed; rfl; decide +kernel) | (apply s_drawn (nt := 38) (.take 0 (.take 1 (.take 2 (.take 3 (.take 4 (.take 5 (.take 6 (.take 7 (.take 8 (.take 9 (.take 10 .nil))))))))))) [] []; exact mixed; rfl; decide +kernel) | (apply Vw; apply rfl; (apply W_bxL; apply rfl; apply rfl; apply rfl)) | (apply s_region; apply rfl) | apply tri_seq | apply tri_skip | apply tri_ret | (apply tri_condT; apply rfl) | (apply tri_condF; apply rfl) | (apply end_q _ (.inr rfl); (exact List.prefix_append _ _); (focus repeat (first | apply R_nil | (apply R_tmp; apply rfl))); apply rfl) | apply p_then | apply p_thenR | apply d_nil | (apply tV; apply rfl; apply rfl; (first | (apply E_cv32; apply rfl; apply udT; apply rfl; apply udT; apply rfl; omega) | (apply E_mv; apply rfl) | (apply E_as; apply rfl) | (apply E_fa; (apply plT; apply rfl); apply rfl; apply rfl; decide) | (apply E_ld; (apply tyT; apply rfl); apply rfl; (first | (apply at_; apply rfl; apply rfl) | (apply at_old; assumption)); apply rfl) | (apply E_len; (apply elT; apply rfl); apply rfl; apply rfl) | (apply E_ncp; apply rfl) | (apply E_pkT; apply rfl; apply rfl) | (apply E_pkF; apply rfl; apply rfl) | (apply E_sub; apply rfl; apply rfl) | (apply E_pe; exact und28; apply rfl)); apply rfl) | (apply tVd; apply rfl; apply rfl; (first | (apply E_lss; apply rfl; apply rfl) | (apply E_gtr; apply rfl; apply rfl) | (apply E_neq; apply rfl; apply rfl)); apply rfl; all_goals intro h_) | (apply tVo; apply rfl; apply rfl) | (show TriP _ _ _ _ _ _ _ _; exfalso; omega))
    all_goals first | rfl | (exfalso; omega)
  rw [if_neg h2]
  by_cases h3 : n ≤ l.length
  · obtain ⟨o, ho⟩ : ∃ o, l[(n - 1).toNat]? = some o := ⟨_, List.getElem?_eq_getElem (by omega)⟩
    rw [ho]
    repeat' (first | apply triL_nil | (apply V; apply rfl; (first | (apply E_cv32; apply rfl; apply udT; apply rfl; apply udT; apply rfl; omega) | (apply E_sub32; apply rfl; apply rfl; apply rfl; omega) | (apply E_mv; apply rfl) | (apply E_as; apply rfl) | (apply E_fa; (apply plT; apply rfl); apply rfl; apply rfl; decide) | (apply E_ld; (apply tyT; apply rfl); apply rfl; (first | (apply at_; apply rfl; apply rfl) | (apply at_old; assumption)); apply rfl) | (apply E_lea; (apply tyT; apply rfl); apply rfl; (first | apply rfl | apply encEx_len | apply encSm_len)) | (apply E_len; (apply elT; apply rfl); apply rfl; apply rfl) | (apply E_ncp; apply rfl) | (apply E_pkT; apply rfl; apply rfl) | (apply E_pkF; apply rfl; apply rfl) | (apply E_pe; exact und28; apply rfl) | (apply E_ial (c := o); apply elT; apply rfl; apply rfl; apply rfl; apply rfl; exact encOb_len; omega; exact ho) | (apply E_mi; exact nif79; apply rfl))) | (apply s_drawn (nt := 38) (.take 0 (.take 1 (.take 2 (.take 3 (.take 4 (.take 5 (.take 6 (.take 7 (.take 8 (.take 9 (.take 10 (.take 11 (.take 12 (.take 13 (.take 14 (.take 15 (.take 16 (.take 17 (.take 18 (.take 19 (.take 20 (.take 21 (.take 22 .nil))))))))))))))))))))))) [] []; exact mixed; rfl; decide +kernel) | (apply s_drawn (nt := 38) (.take 0 (.take 1 (.take 2 (.take 3 (.take 4 (.take 5 (.take 6 (.take 7 (.take 8 (.take 9 (.take 10 .nil))))))))))) [] []; exact mixed; rfl; decide +kernel) | (apply Vw; apply rfl; (apply W_bxL; apply rfl; apply rfl; apply rfl)) | (apply s_region; apply rfl) | apply tri_seq | apply tri_skip | apply tri_ret | (apply tri_condT; apply rfl) | (apply tri_condF; apply rfl) | (apply end_q _ (.inr rfl); (exact List.prefix_append _ _); (focus repeat (first | apply R_nil | (apply R_tmp; apply rfl))); apply rfl) | apply p_then | apply p_thenR | apply d_nil | (apply tV; apply rfl; apply rfl; (first | (apply E_cv32; apply rfl; apply udT; apply rfl; apply udT; apply rfl; omega) | (apply E_sub32; apply rfl; apply rfl; apply rfl; omega) | (apply E_mv; apply rfl) | (apply E_as; apply rfl) | (apply E_fa; (apply plT; apply rfl); apply rfl; apply rfl; decide) | (apply E_ld; (apply tyT; apply rfl); apply rfl; (first | (apply at_; apply rfl; apply rfl) | (apply at_old; assumption)); apply rfl) | (apply E_lea; (apply tyT; apply rfl); apply rfl; (first | apply rfl | apply encEx_len | apply encSm_len)) | (apply E_len; (apply elT; apply rfl); apply rfl; apply rfl) | (apply E_ncp; apply rfl) | (apply E_pkT; apply rfl; apply rfl) | (apply E_pkF; apply rfl; apply rfl) | (apply E_pe; exact und28; apply rfl) | (apply E_ial (c := o); apply elT; apply rfl; apply rfl; apply rfl; apply rfl; exact encOb_len; omega; exact ho) | (apply E_mi; exact nif79; apply rfl)); apply rfl) | (apply tVd; apply rfl; apply rfl; (first | (apply E_lss; apply rfl; apply rfl) | (apply E_gtr; apply rfl; apply rfl) | (apply E_neq; apply rfl; apply rfl)); apply rfl; all_goals intro h_) | (apply tVo; apply rfl; apply rfl))
    all_goals first | rfl | (exfalso; omega)
  · rw [List.getElem?_eq_none (by omega)]
    repeat' (first | apply triL_nil | (apply V; apply rfl; (first | (apply E_cv32; apply rfl; apply udT; apply rfl; apply udT; apply rfl; omega) | (apply E_mv; apply rfl) | (apply E_as; apply rfl) | (apply E_fa; (apply plT; apply rfl); apply rfl; apply rfl; decide) | (apply E_ld; (apply tyT; apply rfl); apply rfl; (first | (apply at_; apply rfl; apply rfl) | (apply at_old; assumption)); apply rfl) | (apply E_len; (apply elT; apply rfl); apply rfl; apply rfl) | (apply E_ncp; apply rfl) | (apply E_pkT; apply rfl; apply rfl) | (apply E_pkF; apply rfl; apply rfl) | (apply E_sub; apply rfl; apply rfl) | (apply E_pe; exact und28; apply rfl))) | (apply s_drawn (nt := 38) (.take 0 (.take 1 (.take 2 (.take 3 (.take 4 (.take 5 (.take 6 (.take 7 (.take 8 (.take 9 (.take 10 (.take 11 (.take 12 (.take 13 (.take 14 (.take 15 (.take 16 (.take 17 (.take 18 (.take 19 (.take 20 (.take 21 (.take 22 .nil))))))))))))))))))))))) [] []; exact mixed; rfl; decide +kernel) | (apply s_drawn (nt := 38) (.take 0 (.take 1 (.take 2 (.take 3 (.take 4 (.take 5 (.take 6 (.take 7 (.take 8 (.take 9 (.take 10 .nil))))))))))) [] []; exact mixed; rfl; decide +kernel) | (apply Vw; apply rfl; (apply W_bxL; apply rfl; apply rfl; apply rfl)) | (apply s_region; apply rfl) | apply tri_seq | apply tri_skip | apply tri_ret | (apply tri_condT; apply rfl) | (apply tri_condF; apply rfl) | (apply end_q _ (.inr rfl); (exact List.prefix_append _ _); (focus repeat (first | apply R_nil | (apply R_tmp; apply rfl))); apply rfl) | apply p_then | apply p_thenR | apply d_nil | (apply tV; apply rfl; apply rfl; (first | (apply E_cv32; apply rfl; apply udT; apply rfl; apply udT; apply rfl; omega) | (apply E_mv; apply rfl) | (apply E_as; apply rfl) | (apply E_fa; (apply plT; apply rfl); apply rfl; apply rfl; decide) | (apply E_ld; (apply tyT; apply rfl); apply rfl; (first | (apply at_; apply rfl; apply rfl) | (apply at_old; assumption)); apply rfl) | (apply E_len; (apply elT; apply rfl); apply rfl; apply rfl) | (apply E_ncp; apply rfl) | (apply E_pkT; apply rfl; apply rfl) | (apply E_pkF; apply rfl; apply rfl) | (apply E_sub; apply rfl; apply rfl) | (apply E_pe; exact und28; apply rfl)); apply rfl) | (apply tVd; apply rfl; apply rfl; (first | (apply E_lss; apply rfl; apply rfl) | (apply E_gtr; apply rfl; apply rfl) | (apply E_neq; apply rfl; apply rfl)); apply rfl; all_goals intro h_) | (apply tVo; apply rfl; apply rfl) | (show TriP _ _ _ _ _ _ _ _; exfalso; omega))
    all_goals first | rfl | (exfalso; omega)
def clOf (l : List (ByteArray × Nat)) (v : Vl) : ByteArray := match obOf l v with
  | some o => o.1
  | none => ⟨#[]⟩
theorem sp17 (p : List Cl) (tg sid : Nat) (l : List (ByteArray × Nat)) (v : Vl) (hv : okV v) (hl : l.length ≤ 1000) : HC p (.own 79 2 tg (l.flatMap encOb) l.length) sid 17 (fun id => [.ptr id 0, vVl v]) (fun r => r = vS (clOf l v)) := by
  have h37 := sp37 p tg sid l v hv hl
  unfold vOf at h37
  unfold clOf
  intro S T M id hid
  refine callT_go [] [] Tryz.func17 rfl Tryz.ntmps17 Tryz.results17 ?_
  rcases ho : obOf l v with _ | o
  · rw [ho] at h37
    repeat' (first | apply triL_nil | (apply V; apply rfl; (first | (apply E_mv; apply rfl) | (apply E_as; apply rfl) | (apply E_lda; (apply tyT; apply rfl); apply rfl; (apply at_; apply rfl; apply rfl); apply rfl) | (apply E_ex; apply rfl; apply rfl) | (apply E_not; apply rfl) | (apply E_taF; exact nif79; apply tyT; apply rfl; apply rfl))) | (apply Vp; apply rfl; apply rfl; apply fnT; apply rfl; apply h37; (first | (apply at_old; assumption) | assumption); rintro _ rfl) | (apply Vw; apply rfl; (first | (apply W_alL; apply rfl; (apply tyT; apply rfl)) | (apply W_bxL; apply rfl; apply rfl; apply rfl))) | (apply Vs; apply rfl; (apply W_stL; apply rfl; (apply tyT; apply rfl); apply rfl; apply rfl; apply rfl; (first | apply okC_new | (apply okC_ge; omega)); apply rfl; apply rfl; (first | decide | (apply Nat.le_of_ble_eq_true; rfl)))) | (apply s_region; apply rfl) | apply tri_seq | apply tri_ret | (apply tri_condT; apply rfl) | (apply end_q _ (.inr rfl); (exact List.prefix_append _ _); (focus repeat (first | apply R_nil | (apply R_tmp; apply rfl))); apply rfl) | apply p_thenR)
    all_goals first | rfl | contradiction
  · rw [ho] at h37
    repeat' (first | apply triL_nil | (apply V; apply rfl; (first | (apply E_mv; apply rfl) | (apply E_as; apply rfl) | (apply E_fa; (apply plT; apply rfl); apply rfl; apply rfl; decide) | (apply E_lda; (apply tyT; apply rfl); apply rfl; (apply at_; apply rfl; apply rfl); apply rfl) | (apply E_ld; (apply tyT; apply rfl); apply rfl; (apply at_; apply rfl; apply rfl); apply rfl) | (apply E_ex; apply rfl; apply rfl) | (apply E_not; apply rfl) | (apply E_taT; exact nif79; apply tyT; apply rfl; apply rfl))) | (apply Vp; apply rfl; apply rfl; apply fnT; apply rfl; apply h37; (first | (apply at_old; assumption) | assumption); rintro _ rfl) | (apply Vw; apply rfl; (first | (apply W_alL; apply rfl; (apply tyT; apply rfl)) | (apply W_bxL; apply rfl; apply rfl; apply rfl))) | (apply Vs; apply rfl; (apply W_stL; apply rfl; (apply tyT; apply rfl); apply rfl; apply rfl; apply rfl; (first | apply okC_new | (apply okC_ge; omega)); apply rfl; apply rfl; (first | decide | (apply Nat.le_of_ble_eq_true; rfl)))) | (apply s_region; apply rfl) | apply tri_seq | apply tri_skip | apply tri_ret | (apply tri_condF; apply rfl) | (apply end_q _ (.inr rfl); (exact List.prefix_append _ _); (focus repeat (first | apply R_nil | (apply R_tmp; apply rfl))); apply rfl) | apply p_then)
    all_goals first | rfl | contradiction
/-- The map of an object, or the one that classes have. -/
def mpOf (sid : Nat) (l : List (ByteArray × Nat)) (v : Vl) : Option Nat := if v.kind = 0 then some sid else (obOf l v).map Prod.snd
def vMp : Option Nat → BV
  | some m => .d (.map m)
  | none => .d (.flat (.map none))
theorem sp34 (p : List Cl) (tg sid : Nat) (l : List (ByteArray × Nat)) (v : Vl) (hv : okV v) (hl : l.length ≤ 1000) : HC p (.own 79 2 tg (l.flatMap encOb) l.length) sid 34 (fun id => [.ptr id 0, vVl v]) (fun r => r = vMp (mpOf sid l v)) := by
  have h37 := sp37 p tg sid l v hv hl
  unfold vOf at h37
  unfold mpOf
  obtain ⟨k, n, s⟩ := v
  dsimp only [vVl] at *
  intro S T M id hid
  refine callT_go [] [] Tryz.func34 rfl Tryz.ntmps34 Tryz.results34 ?_
  by_cases h0 : k = 0
  · rw [if_pos h0]
    repeat' (first | apply triL_nil | (apply V; apply rfl; (first | (apply E_mv; apply rfl) | (apply E_as; apply rfl) | (apply E_fa; (apply plT; apply rfl); apply rfl; apply rfl; decide) | (apply E_lda; (apply tyT; apply rfl); apply rfl; (apply at_; apply rfl; apply rfl); apply rfl) | (apply E_ld; (apply tyT; apply rfl); apply rfl; (apply at_; apply rfl; apply rfl); apply rfl) | (apply E_ncp; apply rfl) | (apply E_pkT; apply rfl; apply rfl) | (apply E_ld; exact ty70; apply rfl; (first | (apply at_; apply rfl; apply rfl) | (apply at_old; assumption) | (apply at_set; assumption)); apply rfl) | (apply E_pn; exact und28; apply rfl))) | (apply Vd; apply rfl; (apply E_eql; apply rfl; apply rfl); all_goals intro h_) | (apply Vw; apply rfl; (apply W_bxL; apply rfl; apply rfl; apply rfl)) | (apply s_region; apply rfl) | apply tri_seq | apply tri_skip | apply tri_ret | (apply tri_condT; apply rfl) | (apply tri_condF; apply rfl) | (apply end_q _ (.inr rfl); (exact List.prefix_append _ _); (focus repeat (first | apply R_nil | (apply R_tmp; apply rfl))); apply rfl) | apply p_then | apply p_thenR)
    all_goals first | rfl | contradiction
  rw [if_neg h0]
  rcases ho : obOf l ⟨k, n, s⟩ with _ | o
  · rw [ho] at h37
    repeat' (first | apply triL_nil | (apply V; apply rfl; (first | (apply E_mv; apply rfl) | (apply E_as; apply rfl) | (apply E_fa; (apply plT; apply rfl); apply rfl; apply rfl; decide) | (apply E_lda; (apply tyT; apply rfl); apply rfl; (apply at_; apply rfl; apply rfl); apply rfl) | (apply E_ld; (apply tyT; apply rfl); apply rfl; (apply at_; apply rfl; apply rfl); apply rfl) | (apply E_ncp; apply rfl) | (apply E_pkT; apply rfl; apply rfl) | (apply E_ex; apply rfl; apply rfl) | (apply E_ld; exact ty70; apply rfl; (first | (apply at_; apply rfl; apply rfl) | (apply at_old; assumption) | (apply at_set; assumption)); apply rfl) | (apply E_pn; exact und28; apply rfl) | (apply E_taF; exact nif79; apply tyT; apply rfl; apply rfl))) | (apply Vp; apply rfl; apply rfl; apply fnT; apply rfl; apply h37; (first | (apply at_old; assumption) | assumption); rintro _ rfl) | (apply Vd; apply rfl; (apply E_eql; apply rfl; apply rfl); all_goals intro h_) | (apply Vw; apply rfl; (first | (apply W_alL; apply rfl; (apply tyT; apply rfl)) | (apply W_bxL; apply rfl; apply rfl; apply rfl))) | (apply Vs; apply rfl; (apply W_stL; apply rfl; (apply tyT; apply rfl); apply rfl; apply rfl; apply rfl; (first | apply okC_new | (apply okC_ge; omega)); apply rfl; apply rfl; (first | decide | (apply Nat.le_of_ble_eq_true; rfl)))) | (apply s_region; apply rfl) | apply tri_seq | apply tri_skip | apply tri_ret | (apply tri_condT; apply rfl) | (apply tri_condF; apply rfl) | (apply end_q _ (.inr rfl); (exact List.prefix_append _ _); (focus repeat (first | apply R_nil | (apply R_tmp; apply rfl))); apply rfl) | apply p_then | apply p_thenR)
    all_goals first | rfl | contradiction
  · rw [ho] at h37
    repeat' (first | apply triL_nil | (apply V; apply rfl; (first | (apply E_mv; apply rfl) | (apply E_as; apply rfl) | (apply E_fa; (apply plT; apply rfl); apply rfl; apply rfl; decide) | (apply E_lda; (apply tyT; apply rfl); apply rfl; (apply at_; apply rfl; apply rfl); apply rfl) | (apply E_ld; (apply tyT; apply rfl); apply rfl; (apply at_; apply rfl; apply rfl); apply rfl) | (apply E_ncp; apply rfl) | (apply E_pkT; apply rfl; apply rfl) | (apply E_ex; apply rfl; apply rfl) | (apply E_ld; exact ty70; apply rfl; (first | (apply at_; apply rfl; apply rfl) | (apply at_old; assumption) | (apply at_set; assumption)); apply rfl) | (apply E_pn; exact und28; apply rfl) | (apply E_taT; exact nif79; apply tyT; apply rfl; apply rfl))) | (apply Vp; apply rfl; apply rfl; apply fnT; apply rfl; apply h37; (first | (apply at_old; assumption) | assumption); rintro _ rfl) | (apply Vd; apply rfl; (apply E_eql; apply rfl; apply rfl); all_goals intro h_) | (apply Vw; apply rfl; (first | (apply W_alL; apply rfl; (apply tyT; apply rfl)) | (apply W_bxL; apply rfl; apply rfl; apply rfl))) | (apply Vs; apply rfl; (apply W_stL; apply rfl; (apply tyT; apply rfl); apply rfl; apply rfl; apply rfl; (first | apply okC_new | (apply okC_ge; omega)); apply rfl; apply rfl; (first | decide | (apply Nat.le_of_ble_eq_true; rfl)))) | (apply s_region; apply rfl) | apply tri_seq | apply tri_skip | apply tri_ret | (apply tri_condT; apply rfl) | (apply tri_condF; apply rfl) | (apply end_q _ (.inr rfl); (exact List.prefix_append _ _); (focus repeat (first | apply R_nil | (apply R_tmp; apply rfl))); apply rfl) | apply p_then | apply p_thenR)
    all_goals first | rfl | contradiction
end Go.Proofs.YtinffhimfoicdaaGreat

/- The heap's Get and Set. No conditions. -/
namespace Go.Proofs.YtinffhimfoicdaaGreat
open Go Go.RowKit Go.Proofs.YtinffhimfoicdaaGreat.Calc
set_option linter.unusedVariables false
set_option linter.unusedSimpArgs false
set_option maxRecDepth 100000
set_option maxHeartbeats 8000000
section
variable {C : Cx} {ops : Array Oper} {l : List Oper} {ρ : Rg} {st : St} {Q : Rg → St → Prop} {dst : Option Nat} {op : Op} {ty : Nat} {pos : String} {aft : Array Edge} {g : Option (Nat × Bool)} {Wr ds : List Nat} {p : Plan} {i : Nat}
theorem VR (hg : gB ops ρ g = some true) (h : OpR C.P (okC C) (okM C) ⟨dst, op, ty, pos, aft, g⟩ ρ st (fun ρ st => TriL C ops l ρ st Q)) : TriL C ops (⟨dst, op, ty, pos, aft, g⟩ :: l) ρ st Q := triL_op (.inl ⟨hg, h⟩)
theorem oR (ho : ops[i]? = some ⟨dst, op, ty, pos, aft, g⟩) (hg : gB ops ρ g = some true) (h : OpR C.P (okD C Wr ds i) (okM C) ⟨dst, op, ty, pos, aft, g⟩ ρ st (fun ρ st => TriP C ops Wr ds p ρ st Q)) : TriP C ops Wr ds (.one i p) ρ st Q := ⟨_, ho, .inl ⟨hg, h⟩⟩
end
theorem end_m {P : Program} {rs : List ResultVar} {S S1 : List (List BV × Nat)} {T T1 : List Nat} {M M1 : List (List (Value × DV))} {Q : BV → St → Prop} {ρ : Rg} {l l' : List BV} (ex : AX) (hex : ex = .normal ∨ ex = .ret) (hT : T <+: T1) (h1 : resB P ρ ⟨S1, T1, M1⟩ rs = some l) (h2 : lows S.length T.length (wks l) = some l') (h : Q (retB l') ⟨S, T, M1⟩) :
    endQ P rs [] ⟨S, T, M⟩ Q ex ρ ⟨S1, T1, M1⟩ := ⟨hex, wks l, l', S, T, .inr (by rw [h1]; rfl), h2, rfl, hT, Nat.le_refl _, h⟩
theorem okM_in {P : Program} {nt nb nm m : Nat} {Wr : List Nat} : okM ⟨P, nt, Wr, [m], nb, nm⟩ m = true := by simp [okM]
attribute [local irreducible] Tri TriL TriP CallT stepV stepW thenQ inQ endQ

def vTg (k : Tg) : BV := .agg [vS k.own, vI k.nth]
theorem sp15 (p : List Cl) (tg sid : Nat) (l : List (ByteArray × Nat)) (v : Vl) (hv : okV v) (hl : l.length ≤ 1000) (k : Tg) (hk : okT k) (m : Nat) (hm : mpOf sid l v = some m) (tbl : Tbl) (hO : OKM tbl) (S : List (List BV × Nat)) (T : List Nat) (M : List (List (Value × DV))) (id : Nat)
    (hid : S[id]? = some ([.d (encL encCl p), .own 79 2 tg (l.flatMap encOb) l.length, .d (.map sid)], 73)) (hM : M[m]? = some (encM tbl)) :
    CallT Tryz.prog [] [] 15 [.ptr id 0, vVl v, vTg k] ⟨S, T, M⟩ (fun r s => s = ⟨S, T, M⟩ ∧ r = vVl ((getT tbl k).getD vl0)) := by
  have h34 := sp34 p tg sid l v hv hl
  rw [hm] at h34
  unfold vTg
  refine callT_go [] [] Tryz.func15 rfl Tryz.ntmps15 Tryz.results15 ?_
  repeat' (first | apply triL_nil | (apply s_drawn (nt := 12) (.take 0 (.take 1 (.take 3 (.one 2 (.one 4 (.one 5 .nil)))))) [] [5]; exact mixed; rfl; decide +kernel) | (apply oP; apply rfl; apply rfl; apply rfl; apply fnT; apply rfl; apply h34; (first | (apply at_old; assumption) | assumption); rintro _ rfl) | (apply oR; apply rfl; apply rfl; apply opR_lookT (k := k) (tbl := tbl); apply rfl; apply rfl; apply rfl; exact hk; exact hM; exact hO) | (apply Vw; apply rfl; (first | (apply W_alL; apply rfl; (apply tyT; apply rfl)) | (apply W_bxL; apply rfl; apply rfl; apply rfl))) | (apply s_region; apply rfl) | apply tri_ret | (apply end_q _ (.inr rfl); (exact List.prefix_append _ _); (focus repeat (first | apply R_nil | (apply R_cell; apply rfl; apply rfl; apply tyT; apply rfl; apply rfl; apply rfl))); apply rfl) | apply d_nil | (apply tV; apply rfl; apply rfl; (first | (apply E_mv; apply rfl) | (apply E_lda; (apply tyT; apply rfl); apply rfl; (apply at_; apply rfl; apply rfl); apply rfl)); apply rfl) | (apply oS; apply rfl; apply rfl; (apply W_stL; apply rfl; (apply tyT; apply rfl); apply rfl; apply rfl; apply rfl; (first | (apply okD_new; apply rfl) | (apply okD_ge; omega; apply rfl)); apply rfl; apply rfl; (first | decide | (apply Nat.le_of_ble_eq_true; rfl)))))
  all_goals first | rfl | contradiction
theorem sp13 (p : List Cl) (tg sid : Nat) (l : List (ByteArray × Nat)) (v : Vl) (hv : okV v) (hl : l.length ≤ 1000) (k : Tg) (hk : okT k) (w : Vl) (m : Nat) (hm : mpOf sid l v = some m) (tbl : Tbl) (hO : OKM tbl) (S : List (List BV × Nat)) (T : List Nat) (M : List (List (Value × DV))) (id : Nat)
    (hid : S[id]? = some ([.d (encL encCl p), .own 79 2 tg (l.flatMap encOb) l.length, .d (.map sid)], 73)) (hM : M[m]? = some (encM tbl)) :
    CallT Tryz.prog [] [m] 13 [.ptr id 0, vVl v, vTg k, vVl w] ⟨S, T, M⟩ (fun r s => r = vB (getT tbl k).isSome ∧ s = ⟨S, T, if (getT tbl k).isSome = true then M.set m (encM (putT tbl k w)) else M⟩) := by
  have h34 := sp34 p tg sid l v hv hl
  rw [hm] at h34
  unfold vTg
  cases hg : (getT tbl k).isSome
  · refine callT_go [] [m] Tryz.func13 rfl Tryz.ntmps13 Tryz.results13 ?_
    repeat' (first | apply triL_nil | (apply V; apply rfl; (first | (apply E_mv; apply rfl) | (apply E_as; apply rfl) | (apply E_lda; (apply tyT; apply rfl); apply rfl; (apply at_; apply rfl; apply rfl); apply rfl) | (apply E_ex; apply rfl; apply rfl) | (apply E_not; apply rfl))) | (apply Vp; apply rfl; apply rfl; apply fnT; apply rfl; apply h34; (first | (apply at_old; assumption) | assumption); rintro _ rfl) | (apply VR; apply rfl; apply opR_lookT (k := k) (tbl := tbl); apply rfl; apply rfl; apply rfl; exact hk; exact hM; exact hO; rw [hg]) | (apply Vw; apply rfl; (first | (apply W_alL; apply rfl; (apply tyT; apply rfl)) | (apply W_bxL; apply rfl; apply rfl; apply rfl))) | (apply Vs; apply rfl; (apply W_stL; apply rfl; (apply tyT; apply rfl); apply rfl; apply rfl; apply rfl; (first | apply okC_new | (apply okC_ge; omega)); apply rfl; apply rfl; (first | decide | (apply Nat.le_of_ble_eq_true; rfl)))) | (apply s_region; apply rfl) | apply tri_seq | apply tri_ret | (apply tri_condT; apply rfl) | apply p_thenR)
    all_goals first | contradiction | exact end_m _ (.inr rfl) (List.prefix_append _ _) (R_tmp rfl R_nil) rfl ⟨rfl, rfl⟩ | exact end_m _ (.inl rfl) (List.prefix_append _ _) (R_tmp rfl R_nil) rfl ⟨rfl, rfl⟩
  · refine callT_go [] [m] Tryz.func13 rfl Tryz.ntmps13 Tryz.results13 ?_
    repeat' (first | apply triL_nil | (apply V; apply rfl; (first | (apply E_mv; apply rfl) | (apply E_as; apply rfl) | (apply E_lda; (apply tyT; apply rfl); apply rfl; (apply at_; apply rfl; apply rfl); apply rfl) | (apply E_ex; apply rfl; apply rfl) | (apply E_not; apply rfl))) | (apply Vp; apply rfl; apply rfl; apply fnT; apply rfl; apply h34; (first | (apply at_old; assumption) | assumption); rintro _ rfl) | (apply VR; apply rfl; apply opR_lookT (k := k) (tbl := tbl); apply rfl; apply rfl; apply rfl; exact hk; exact hM; exact hO; rw [hg]) | (apply VR; apply rfl; apply opR_setT (k := k) (tbl := tbl) (w := w); apply rfl; apply rfl; apply rfl; apply rfl; exact hk; exact hM; exact hO; exact okM_in) | (apply Vw; apply rfl; (first | (apply W_alL; apply rfl; (apply tyT; apply rfl)) | (apply W_bxL; apply rfl; apply rfl; apply rfl))) | (apply Vs; apply rfl; (apply W_stL; apply rfl; (apply tyT; apply rfl); apply rfl; apply rfl; apply rfl; (first | apply okC_new | (apply okC_ge; omega)); apply rfl; apply rfl; (first | decide | (apply Nat.le_of_ble_eq_true; rfl)))) | (apply s_region; apply rfl) | apply tri_seq | apply tri_skip | apply tri_ret | (apply tri_condF; apply rfl) | apply p_then)
    all_goals first | contradiction | exact end_m _ (.inr rfl) (List.prefix_append _ _) (R_tmp rfl R_nil) rfl ⟨rfl, rfl⟩ | exact end_m _ (.inl rfl) (List.prefix_append _ _) (R_tmp rfl R_nil) rfl ⟨rfl, rfl⟩
end Go.Proofs.YtinffhimfoicdaaGreat

/- The heap's New. No conditions. -/
namespace Go.Proofs.YtinffhimfoicdaaGreat
open Go Go.RowKit Go.Proofs.YtinffhimfoicdaaGreat.Calc
set_option linter.unusedVariables false
set_option linter.unusedSimpArgs false
set_option maxRecDepth 100000
set_option maxHeartbeats 8000000
/-- A loop whose rounds leave boxes, tags and maps behind. -/
theorem tri_growM {C : Cx} {c : Code} {ρ : Rg} {S : List (List BV × Nat)} {T : List Nat} {M : List (List (Value × DV))} {Q : Post} {κ : Type} (μ : κ → Nat) (R : κ → List (Nat × BV)) (I : κ → List (List BV × Nat) → List Nat → List (List (Value × DV)) → Prop) (k : κ) (hI : I k S T M) (h0 : hasR ρ (R k))
    (hr : ∀ k S1 T1 M1, I k S1 T1 M1 → Tri C c (rg (R k)) ⟨S1 ++ [], T1 ++ [], M1⟩ (thenQ (fun ρ' st' => ∃ k' S2 T2 M2, μ k' < μ k ∧ I k' S2 T2 M2 ∧ hasR ρ' (R k') ∧ st' = ⟨S2, T2, M2⟩) Q)) : Tri C (.loop c) ρ ⟨S, T, M⟩ Q := by
  refine tri_rounds (κ := κ × List (List BV × Nat) × List Nat × List (List (Value × DV))) (fun k => μ k.1) (fun k => R k.1) (fun k => ⟨k.2.1, k.2.2.1, k.2.2.2⟩) (fun k => I k.1 k.2.1 k.2.2.1 k.2.2.2) (k, S, T, M) hI h0 rfl ?_
  rintro ⟨k, S1, T1, M1⟩ hk
  have := hr k S1 T1 M1 hk
  rw [List.append_nil, List.append_nil] at this
  refine tri_mono this fun ex ρ' st' h => ?_
  cases ex with
  | normal =>
    obtain ⟨k', S2, T2, M2, h1, h2, h3, h4⟩ := h
    exact ⟨(k', S2, T2, M2), h1, h2, h3, h4⟩
  | exit id => exact h
  | ret => exact h
/-- The end of a call that leaves two new boxes. -/
theorem end_n2 {P : Program} {rs : List ResultVar} {S S1 : List (List BV × Nat)} {T T1 : List Nat} {M M1 : List (List (Value × DV))} {Q : BV → St → Prop} {ρ : Rg} {l l' : List BV} {a b : List BV} {ta tb : Nat} (ex : AX) (hex : ex = .normal ∨ ex = .ret) (hT : T <+: T1) (h1 : resB P ρ ⟨S1, T1, M1⟩ rs = some l) (h2 : lows (S.length + 2) T.length l = some l')
    (ha : S1[S.length]? = some (a, ta)) (hb : S1[S.length + 1]? = some (b, tb)) (la : lows (S.length + 2) T.length a = some a) (lb : lows (S.length + 2) T.length b = some b) (h : Q (retB l') ⟨S ++ [(a, ta), (b, tb)], T, M1⟩) :
    endN P rs [] ⟨S, T, M⟩ Q ex ρ ⟨S1, T1, M1⟩ := by
  have hlen : (S ++ [(a, ta), (b, tb)]).length = S.length + 2 := by simp
  refine ⟨hex, l, l', S ++ [(a, ta), (b, tb)], T, .inl h1, by rw [hlen]; exact h2, fun id cs ty hid => ?_, ?_, by rw [hlen]; exact Nat.le_add_right _ _, hT, Nat.le_refl _, h⟩
  · by_cases hlt : id < S.length
    · rw [List.getElem?_append_left hlt] at hid
      exact .inl ⟨hlt, by simp, hid⟩
    · right
      rw [List.getElem?_append_right (by omega)] at hid
      obtain ⟨j, rfl⟩ : ∃ j, id = S.length + j := ⟨id - S.length, by omega⟩
      rw [show S.length + j - S.length = j by omega] at hid
      match j, hid with
      | 0, hid =>
        simp only [List.getElem?_cons_zero, Option.some.injEq, Prod.mk.injEq] at hid
        obtain ⟨rfl, rfl⟩ := hid
        exact ⟨_, ha, by rw [hlen]; exact la⟩
      | 1, hid =>
        simp only [List.getElem?_cons_succ, List.getElem?_cons_zero, Option.some.injEq, Prod.mk.injEq] at hid
        obtain ⟨rfl, rfl⟩ := hid
        exact ⟨_, hb, by rw [hlen]; exact lb⟩
      | j + 2, hid => simp at hid
  · rw [hlen]
    have := (List.getElem?_eq_some_iff.1 hb).1
    show S.length + 2 ≤ S1.length
    omega
attribute [local irreducible] Tri TriL TriP CallT stepV stepW thenQ inQ endQ endN
/-- What stands in static fields (or in those that are not) at first. -/
def putF (b : Bool) (c : ByteArray) : List Fi → Nat → Tbl → Tbl
  | [], _, t => t
  | f :: l, k, t => putF b c l (k + 1) (if f.static = b then putT t ⟨c, k⟩ (zeroT f.typ) else t)
def statT : List Cl → Tbl → Tbl
  | [], t => t
  | c :: l, t => statT l (putF true c.name c.fields 0 t)
def Named (p : List Cl) : Prop := ∀ c ∈ p, c.name.size ≤ 1000000
theorem okT_of {c : ByteArray} {k : Nat} (h : c.size ≤ 1000000) (hk : k ≤ 1000000) : okT ⟨c, (k : Int)⟩ := by
  refine ⟨Nat.le_trans h (by decide), ?_⟩
  simp only [Lit.wf, Bool.and_eq_true, decide_eq_true_eq]
  have h1 : IntKind.i64.min = -9223372036854775808 := by decide
  have h2 : IntKind.i64.max = 9223372036854775807 := by decide
  rw [h1, h2]
  omega
theorem set_end {M : List (List (Value × DV))} {x y : List (Value × DV)} : (M ++ [x]).set M.length y = M ++ [y] := by
  rw [List.set_append_right _ _ (Nat.le_refl _), Nat.sub_self]
  rfl
end Go.Proofs.YtinffhimfoicdaaGreat

/- The heap's New. No conditions. -/
namespace Go.Proofs.YtinffhimfoicdaaGreat
open Go Go.RowKit Go.Proofs.YtinffhimfoicdaaGreat.Calc
set_option linter.unusedVariables false
set_option linter.unusedSimpArgs false
set_option maxRecDepth 100000
set_option maxHeartbeats 8000000
attribute [local irreducible] Tri TriL TriP CallT stepV stepW thenQ inQ endQ endN
theorem sp8_bad (p : List Cl) (hp : Small p) (he : (checkF p).1 ≠ 0) : PC 8 [vP p] (fun r => r = .d (.flat (.pointer none))) := by
  have h27 := sp27 p hp
  generalize checkF p = c at *
  obtain ⟨e, i⟩ := c
  dsimp only at *
  intro S T M
  refine callT_go [] [] Tryz.func8 rfl Tryz.ntmps8 Tryz.results8 ?_
  repeat' (first | apply triL_nil | (apply V; apply rfl; (first | (apply E_mv; apply rfl) | (apply E_as; apply rfl) | (apply E_lda; (apply tyT; apply rfl); apply rfl; (apply at_; apply rfl; apply rfl); apply rfl) | (apply E_ex; apply rfl; apply rfl))) | (apply Vp; apply rfl; apply rfl; apply fnT; apply rfl; apply h27; rintro _ rfl) | (apply Vd; apply rfl; (apply E_neq; apply rfl; apply rfl); all_goals intro h_) | (apply Vw; apply rfl; (apply W_bxL; apply rfl; apply rfl; apply rfl)) | (apply s_region; apply rfl) | apply tri_seq | apply tri_skip | apply tri_ret | (apply tri_condT; apply rfl) | (apply tri_condF; apply rfl) | (apply end_q _ (.inr rfl); (exact List.prefix_append _ _); (focus repeat (first | apply R_nil | (apply R_tmp; apply rfl))); apply rfl) | apply p_then | apply p_thenR | (exfalso; contradiction))
  all_goals first | rfl | contradiction
theorem sp8_good (p : List Cl) (hp : Small p) (hn : Named p) (he : (checkF p).1 = 0) (S : List (List BV × Nat)) (T : List Nat) (M : List (List (Value × DV))) : CallT Tryz.prog [] [] 8 [vP p] ⟨S, T, M⟩ (fun r s => r = .ptr (S.length + 1) 0 ∧ s = ⟨S ++ [([.d (encL encCl p)], 26), ([.d (encL encCl p), .tight [] 0, .d (.map M.length)], 73)], T, M ++ [encM (statT p [])]⟩) := by
  have h27 := sp27 p hp
  generalize checkF p = c at *
  obtain ⟨e, i⟩ := c
  dsimp only at he
  subst he
  refine callT_goN [] [] Tryz.func8 rfl Tryz.ntmps8 Tryz.results8 ?_
  repeat' (first | apply triL_nil | (apply V; apply rfl; (first | (apply E_mv; apply rfl) | (apply E_as; apply rfl) | (apply E_fa; (apply plT; apply rfl); apply rfl; apply rfl; decide) | (apply E_lda; (apply tyT; apply rfl); apply rfl; (apply at_; apply rfl; apply rfl); apply rfl) | (apply E_ld; (apply tyT; apply rfl); apply rfl; (apply at_; apply rfl; apply rfl); apply rfl) | (apply E_len; (apply elT; apply rfl); apply rfl; apply rfl) | (apply E_ex; apply rfl; apply rfl) | (apply E_bd; (apply plT; apply rfl); apply rfl))) | (apply Vp; apply rfl; apply rfl; apply fnT; apply rfl; apply h27; rintro _ rfl) | (apply VR; apply rfl; apply opR_mk; apply rfl) | (apply Vd; apply rfl; (apply E_neq; apply rfl; apply rfl); all_goals intro h_) | (apply Vw; apply rfl; (apply W_bxL; apply rfl; apply rfl; apply rfl)) | (apply s_region; apply rfl) | apply tri_seq | apply tri_block | apply tri_skip | apply tri_ret | (apply tri_condT; apply rfl) | (apply tri_condF; apply rfl) | apply p_then | apply p_thenR)
  · exact absurd rfl h_
  have hp1 := hp.1
  have okm : okM ⟨Tryz.prog, 52, [], [], S.length, M.length⟩ M.length = true := by simp [okM]
  refine tri_growM (fun k : Nat => p.length - k) (fun k => [(5, .ptr (S.length + 1) 0), (22, .d (encL encCl p)), (23, vI p.length), (24, vI k)]) (fun k S1 T1 M1 => k ≤ p.length ∧ S.length + 2 ≤ S1.length ∧ T <+: T1 ∧ S1[S.length + 0]? = some ([.d (encL encCl p)], 26) ∧ S1[S.length + 1]? = some ([.d (encL encCl p), .tight [] 0, .d (.map M.length)], 73) ∧ ∃ t, OKM t ∧ M1 = M ++ [encM t] ∧ statT p [] = statT (p.drop k) t) 0 ⟨Nat.zero_le _, by simp, by simp, at_ rfl rfl, at_ rfl rfl, [], OKM.nil, rfl, by rw [List.drop_zero]⟩ ⟨rfl, rfl, rfl, rfl, trivial⟩ ?_
  rintro k S1 T1 M1 ⟨hk, hS, hT, hb0, hb1, t, hO, rfl, hst⟩
  repeat' (first | apply triL_nil | (apply V; apply rfl; (first | (apply E_mv; apply rfl) | (apply E_as; apply rfl))) | (apply Vd; apply rfl; (apply E_lss; apply rfl; apply rfl); all_goals intro h_) | (apply s_region; apply rfl) | apply tri_seq | apply tri_block | apply tri_skip | apply tri_exit | apply tri_ret | (apply tri_condT; apply rfl) | (apply tri_condF; apply rfl) | apply p_then | apply p_in | apply p_thenE)
  · obtain ⟨c, hc⟩ : ∃ c, p[k]? = some c := ⟨_, List.getElem?_eq_getElem (by omega)⟩
    rw [drop_at hc, statT] at hst
    have hfl := hp.2 c (List.mem_of_getElem? hc)
    have hnm := hn c (List.mem_of_getElem? hc)
    repeat' (first | apply triL_nil | (apply V; apply rfl; (first | (apply E_mv; apply rfl) | (apply E_fa; (apply plT; apply rfl); apply rfl; apply rfl; decide) | (apply E_ld; (apply tyT; apply rfl); apply rfl; (apply at_; apply rfl; apply rfl); apply rfl) | (apply E_lea; (apply tyT; apply rfl); apply rfl; (first | apply rfl | apply encEx_len | apply encSm_len)) | (apply E_len; (apply elT; apply rfl); apply rfl; apply rfl) | (apply E_ial (c := c); apply elT; apply rfl; apply rfl; apply rfl; apply rfl; exact encCl_len; omega; simpa using hc))) | (apply Vw; apply rfl; (apply W_alL; apply rfl; (apply tyT; apply rfl))) | (apply Vs; apply rfl; (apply W_stL; apply rfl; (apply tyT; apply rfl); apply rfl; apply rfl; apply rfl; (first | apply okC_new | (apply okC_ge; omega)); apply rfl; apply rfl; (first | decide | (apply Nat.le_of_ble_eq_true; rfl)))) | (apply s_region; apply rfl) | apply tri_block)
    refine tri_growM (fun j : Nat => c.fields.length - j) (fun j => [(5, .ptr (S.length + 1) 0), (7, .ptr (S1.length + 0) 0), (22, .d (encL encCl p)), (23, vI p.length), (24, vI k), (29, .d (encL encFi c.fields)), (30, vI c.fields.length), (31, vI j)]) (fun j S2 T2 M2 => j ≤ c.fields.length ∧ S1.length ≤ S2.length ∧ T <+: T2 ∧ S2[S.length + 0]? = some ([.d (encL encCl p)], 26) ∧ S2[S.length + 1]? = some ([.d (encL encCl p), .tight [] 0, .d (.map M.length)], 73) ∧ S2[S1.length + 0]? = some ((encCl c).map .d, 37) ∧ ∃ t', OKM t' ∧ M2 = M ++ [encM t'] ∧ putF true c.name c.fields 0 t = putF true c.name (c.fields.drop j) j t') 0 ⟨Nat.zero_le _, by simp, pre_app hT, at_old hb0, at_old hb1, at_ rfl rfl, t, hO, rfl, by rw [List.drop_zero]⟩ ⟨rfl, rfl, rfl, rfl, rfl, rfl, rfl, rfl, trivial⟩ ?_
    rintro j S2 T2 M2 ⟨hj, hS2, hT2, hb02, hb12, hcb, t', hO', rfl, hpf⟩
    repeat' (first | apply triL_nil | (apply V; apply rfl; (first | (apply E_mv; apply rfl) | (apply E_add64; apply rfl; apply rfl; apply rfl; omega))) | (apply Vd; apply rfl; (apply E_lss; apply rfl; apply rfl); all_goals intro h_) | (apply s_region; apply rfl) | apply tri_seq | (apply tri_region; apply rfl) | apply tri_block | apply tri_skip | apply tri_exit | (apply tri_condT; apply rfl) | (apply tri_condF; apply rfl) | apply p_then | apply p_in | apply p_inN | apply p_thenE)
    · obtain ⟨f, hf⟩ : ∃ f, c.fields[j]? = some f := ⟨_, List.getElem?_eq_getElem (by omega)⟩
      rw [drop_at hf, putF] at hpf
      have h20 := sp20 f.typ
      have hkT : okT ⟨c.name, (j : Int)⟩ := okT_of hnm (by omega)
      have hMg : (M ++ [encM t'])[M.length]? = some (encM t') := by simp
      obtain ⟨fs, fty, fnm, fin⟩ := f
      dsimp only at hpf h20
      cases fs
      · rw [if_neg (by decide)] at hpf
        repeat' (first | apply triL_nil | (apply V; apply rfl; (first | (apply E_mv; apply rfl) | (apply E_as; apply rfl) | (apply E_fa; (apply plT; apply rfl); apply rfl; apply rfl; decide) | (apply E_ld; (apply tyT; apply rfl); apply rfl; (apply at_; apply rfl; apply rfl); apply rfl) | (apply E_lea; (apply tyT; apply rfl); apply rfl; (first | apply rfl | apply encEx_len | apply encSm_len)) | (apply E_add64; apply rfl; apply rfl; apply rfl; omega) | (apply E_ial (c := (⟨_, fty, fnm, fin⟩ : Fi)); apply elT; apply rfl; apply rfl; apply rfl; apply rfl; exact encFi_len; omega; simpa using hf))) | (apply Vw; apply rfl; (apply W_alL; apply rfl; (apply tyT; apply rfl))) | (apply Vs; apply rfl; (apply W_stL; apply rfl; (apply tyT; apply rfl); apply rfl; apply rfl; apply rfl; (first | apply okC_new | (apply okC_ge; omega)); apply rfl; apply rfl; (first | decide | (apply Nat.le_of_ble_eq_true; rfl)))) | (apply s_region; apply rfl) | (apply tri_region; apply rfl) | apply tri_skip | (apply tri_condF; apply rfl) | apply p_then | apply p_inN)
        exact ⟨j + 1, _, _, _, by omega, ⟨by omega, by simp only [List.length_append]; omega, pre_app hT2, at_old hb02, at_old hb12, at_old hcb, t', hO', rfl, hpf⟩, ⟨rfl, rfl, rfl, rfl, rfl, rfl, rfl, vI_of (by omega), trivial⟩, rfl⟩
      · rw [if_pos rfl] at hpf
        repeat' (first | apply triL_nil | (apply V; apply rfl; (first | (apply E_mv; apply rfl) | (apply E_as; apply rfl) | (apply E_fa; (apply plT; apply rfl); apply rfl; apply rfl; decide) | (apply E_ld; (apply tyT; apply rfl); apply rfl; (first | (apply at_; apply rfl; apply rfl) | (apply at_old; assumption)); apply rfl) | (apply E_lea; (apply tyT; apply rfl); apply rfl; (first | apply rfl | apply encEx_len | apply encSm_len)) | (apply E_ncp; apply rfl) | (apply E_bd; (apply plT; apply rfl); apply rfl) | (apply E_add64; apply rfl; apply rfl; apply rfl; omega) | (apply E_ial (c := (⟨_, fty, fnm, fin⟩ : Fi)); apply elT; apply rfl; apply rfl; apply rfl; apply rfl; exact encFi_len; omega; simpa using hf) | (apply E_ld; exact ty70; apply rfl; (first | (apply at_; apply rfl; apply rfl) | (apply at_old; assumption) | assumption); apply rfl))) | (apply t_drawn (nt := 52) (.take 0 (.take 1 (.take 2 (.take 3 (.take 4 (.take 5 (.take 6 (.take 7 (.take 8 (.take 9 (.one 10 (.one 11 .nil)))))))))))) [] [11]; exact mixed; rfl; decide +kernel) | (apply oP; apply rfl; apply rfl; apply rfl; apply fnT; apply rfl; apply h20; rintro _ rfl) | (apply oR; apply rfl; apply rfl; apply opR_setT (k := ⟨c.name, (j : Int)⟩) (tbl := t') (w := zeroT fty); apply rfl; apply rfl; apply rfl; apply rfl; exact hkT; exact hMg; exact hO'; exact okm) | (apply Vw; apply rfl; (apply W_alL; apply rfl; (apply tyT; apply rfl))) | (apply Vs; apply rfl; (apply W_stL; apply rfl; (apply tyT; apply rfl); apply rfl; apply rfl; apply rfl; (first | apply okC_new | (apply okC_ge; omega)); apply rfl; apply rfl; (first | decide | (apply Nat.le_of_ble_eq_true; rfl)))) | (apply s_region; apply rfl) | (apply tri_region; apply rfl) | (apply tri_condT; apply rfl) | apply p_then | apply p_inN | apply d_nil | (apply tV; apply rfl; apply rfl; (first | (apply E_mv; apply rfl) | (apply E_as; apply rfl) | (apply E_fa; (apply plT; apply rfl); apply rfl; apply rfl; decide) | (apply E_ld; (apply tyT; apply rfl); apply rfl; (first | (apply at_; apply rfl; apply rfl) | (apply at_old; assumption)); apply rfl) | (apply E_lea; (apply tyT; apply rfl); apply rfl; (first | apply rfl | apply encEx_len | apply encSm_len)) | (apply E_ncp; apply rfl) | (apply E_bd; (apply plT; apply rfl); apply rfl) | (apply E_add64; apply rfl; apply rfl; apply rfl; omega) | (apply E_ial (c := (⟨_, fty, fnm, fin⟩ : Fi)); apply elT; apply rfl; apply rfl; apply rfl; apply rfl; exact encFi_len; omega; simpa using hf) | (apply E_ld; exact ty70; apply rfl; (first | (apply at_; apply rfl; apply rfl) | (apply at_old; assumption) | assumption); apply rfl)); apply rfl))
        exact ⟨j + 1, _, _, _, by omega, ⟨by omega, by simp only [List.length_append]; omega, pre_app hT2, at_old hb02, at_old hb12, at_old hcb, _, hO'.put hkT _, set_end, hpf⟩, ⟨rfl, rfl, rfl, rfl, rfl, rfl, rfl, vI_of (by omega), trivial⟩, rfl⟩
    · rw [List.drop_of_length_le (by omega), putF] at hpf
      rw [hpf] at hst
      exact ⟨k + 1, _, _, _, by omega, ⟨by omega, by simp only [List.length_append]; omega, pre_app hT2, at_old hb02, at_old hb12, t', hO', rfl, hst⟩, ⟨rfl, rfl, rfl, vI_of (by omega), trivial⟩, rfl⟩
  · rw [List.drop_of_length_le (by omega), statT] at hst
    rw [hst]
    exact end_n2 (l' := [.ptr (S.length + 1) 0]) _ (.inr rfl) (pre_app hT) (R_tmp rfl R_nil) (by simp [lows, low]) (at_old hb0) (at_old hb1) rfl rfl ⟨rfl, rfl⟩
end Go.Proofs.YtinffhimfoicdaaGreat

/- The heap's Make. No conditions. -/
namespace Go.Proofs.YtinffhimfoicdaaGreat
open Go Go.RowKit Go.Proofs.YtinffhimfoicdaaGreat.Calc
set_option linter.unusedVariables false
set_option linter.unusedSimpArgs false
set_option maxRecDepth 100000
set_option maxHeartbeats 8000000
theorem end_k {P : Program} {rs : List ResultVar} {S S1 : List (List BV × Nat)} {T T' T1 : List Nat} {M M1 : List (List (Value × DV))} {Q : BV → St → Prop} {ρ : Rg} {l l' cs cs' : List BV} {id ty : Nat} (ex : AX) (hex : ex = .normal ∨ ex = .ret) (hT : T' <+: T1) (hTl : T.length ≤ T'.length) (h1 : resB P ρ ⟨S1, T1, M1⟩ rs = some l) (h2 : lows S.length T'.length (wks l) = some l')
    (hS : S1[id]? = some (cs, ty)) (h3 : lows S.length T'.length cs = some cs') (h : Q (retB l') ⟨S.set id (cs', ty), T', M1⟩) : endQ P rs [id] ⟨S, T, M⟩ Q ex ρ ⟨S1, T1, M1⟩ :=
  ⟨hex, wks l, l', S.set id (cs', ty), T', .inr (by rw [h1]; rfl), h2, by simp only [popS, hS, h3], hT, hTl, h⟩
theorem pre_both {T T1 : List Nat} (h : T <+: T1) {tg n : Nat} (ht : tg < T.length) : T.set tg n <+: T1.set tg n := by
  obtain ⟨X, rfl⟩ := h
  rw [List.set_append_left _ _ ht]
  exact List.prefix_append _ _
attribute [local irreducible] Tri TriL TriP CallT stepV stepW thenQ inQ endQ endN
theorem sp11_bad (p : List Cl) (hp : p.length ≤ 1000000) (tg sid : Nat) (l : List (ByteArray × Nat)) (cls : ByteArray) (hl : l.length ≤ 1000) (hb : l.length = 200 ∨ isC p cls = false) : HC p (.own 79 2 tg (l.flatMap encOb) l.length) sid 11 (fun id => [.ptr id 0, vS cls]) (fun r => r = .tup [vVl vl0, vB false]) := by
  have h28 := sp28 p cls hp
  intro S T M id hid
  refine callT_go [] [] Tryz.func11 rfl Tryz.ntmps11 Tryz.results11 ?_
  cases hc : isC p cls
  · rw [hc] at h28
    repeat' (first | apply triL_nil | (apply V; apply rfl; (first | (apply E_mv; apply rfl) | (apply E_as; apply rfl) | (apply E_fa; (apply plT; apply rfl); apply rfl; apply rfl; decide) | (apply E_ld; (apply tyT; apply rfl); apply rfl; (apply at_old; assumption); apply rfl) | (apply E_len; (apply elT; apply rfl); apply rfl; apply rfl) | (apply E_ncp; apply rfl) | (apply E_pkT; apply rfl; apply rfl) | (apply E_pkF; apply rfl; apply rfl) | (apply E_not; apply rfl) | (apply E_bd; (apply plT; apply rfl); apply rfl) | (apply E_pe; exact und28; apply rfl))) | (apply Vp; apply rfl; apply rfl; apply fnT; apply rfl; apply h28; rintro _ rfl) | (apply Vd; apply rfl; (apply E_eql; apply rfl; apply rfl); all_goals intro h_) | (apply Vo; apply rfl) | (apply Vw; apply rfl; (apply W_alL; apply rfl; (apply tyT; apply rfl))) | (apply Vs; apply rfl; (apply W_stL; apply rfl; (apply tyT; apply rfl); apply rfl; apply rfl; apply rfl; (first | apply okC_new | (apply okC_ge; omega)); apply rfl; apply rfl; (first | decide | (apply Nat.le_of_ble_eq_true; rfl)))) | (apply s_region; apply rfl) | apply tri_seq | apply tri_ret | (apply tri_condT; apply rfl) | (apply end_q _ (.inr rfl); (exact List.prefix_append _ _); (focus repeat (first | apply R_nil | (apply R_tmp; apply rfl) | (apply R_cell; apply rfl; apply rfl; apply tyT; apply rfl; apply rfl; apply rfl))); apply rfl) | apply p_thenR)
    all_goals first | rfl | contradiction
  · rw [hc] at h28 hb
    have h200 : l.length = 200 := by simpa using hb
    repeat' (first | apply triL_nil | (apply V; apply rfl; (first | (apply E_mv; apply rfl) | (apply E_as; apply rfl) | (apply E_fa; (apply plT; apply rfl); apply rfl; apply rfl; decide) | (apply E_ld; (apply tyT; apply rfl); apply rfl; (apply at_old; assumption); apply rfl) | (apply E_len; (apply elT; apply rfl); apply rfl; apply rfl) | (apply E_ncp; apply rfl) | (apply E_pkT; apply rfl; apply rfl) | (apply E_pkF; apply rfl; apply rfl) | (apply E_not; apply rfl) | (apply E_bd; (apply plT; apply rfl); apply rfl) | (apply E_pe; exact und28; apply rfl))) | (apply Vp; apply rfl; apply rfl; apply fnT; apply rfl; apply h28; rintro _ rfl) | (apply Vd; apply rfl; (apply E_eql; apply rfl; apply rfl); all_goals intro h_) | (apply Vo; apply rfl) | (apply Vw; apply rfl; (apply W_alL; apply rfl; (apply tyT; apply rfl))) | (apply Vs; apply rfl; (apply W_stL; apply rfl; (apply tyT; apply rfl); apply rfl; apply rfl; apply rfl; (first | apply okC_new | (apply okC_ge; omega)); apply rfl; apply rfl; (first | decide | (apply Nat.le_of_ble_eq_true; rfl)))) | (apply s_region; apply rfl) | apply tri_seq | apply tri_skip | apply tri_ret | (apply tri_condT; apply rfl) | (apply tri_condF; apply rfl) | (apply end_q _ (.inr rfl); (exact List.prefix_append _ _); (focus repeat (first | apply R_nil | (apply R_tmp; apply rfl) | (apply R_cell; apply rfl; apply rfl; apply tyT; apply rfl; apply rfl; apply rfl))); apply rfl) | apply p_then | apply p_thenR | (exfalso; omega))
    all_goals first | rfl | contradiction | (exfalso; omega)
/-- What stands in an object's fields at first. -/
def instT (p : List Cl) : List ByteArray → Tbl → Tbl
  | [], t => t
  | c :: L, t => instT p L (if 0 ≤ findI p c then putF false c (clAt p (findI p c)).fields 0 t else t)
theorem sp11_good (p : List Cl) (hp : Small p) (tg sid : Nat) (l : List (ByteArray × Nat)) (cls : ByteArray) (hl : l.length < 200) (hc : isC p cls = true) (hN : ∀ c ∈ chC p cls, c.size ≤ 1000000) (S : List (List BV × Nat)) (T : List Nat) (M : List (List (Value × DV))) (id : Nat)
    (hid : S[id]? = some ([.d (encL encCl p), .own 79 2 tg (l.flatMap encOb) l.length, .d (.map sid)], 73)) (hT : T[tg]? = some (l.flatMap encOb).length) :
    CallT Tryz.prog [id] [] 11 [.ptr id 0, vS cls] ⟨S, T, M⟩ (fun r s => r = .tup [vVl ⟨4, l.length + 1, ⟨#[]⟩⟩, vB true] ∧
      s = ⟨S.set id ([.d (encL encCl p), .own 79 2 tg ((l ++ [(cls, M.length)]).flatMap encOb) (l ++ [(cls, M.length)]).length, .d (.map sid)], 73), T.set tg ((l ++ [(cls, M.length)]).flatMap encOb).length, M ++ [encM (instT p (chC p cls) [])]⟩) := by
  have hp1 := hp.1
  have h28 := sp28 p cls hp1
  have h29 := sp29 p cls hp1
  have hcl := ch_len p cls
  rw [hc] at h28
  refine callT_go [id] [] Tryz.func11 rfl Tryz.ntmps11 Tryz.results11 ?_
  have okm : okM ⟨Tryz.prog, 99, [id], [], S.length, M.length⟩ M.length = true := by simp [okM]
  generalize hL : chC p cls = L at *
  repeat' (first | apply triL_nil | (apply V; apply rfl; (first | (apply E_mv; apply rfl) | (apply E_as; apply rfl) | (apply E_fa; (apply plT; apply rfl); apply rfl; apply rfl; decide) | (apply E_ld; (apply tyT; apply rfl); apply rfl; (apply at_old; assumption); apply rfl) | (apply E_len; (apply elT; apply rfl); apply rfl; apply rfl) | (apply E_ncp; apply rfl) | (apply E_pkT; apply rfl; apply rfl) | (apply E_pkF; apply rfl; apply rfl) | (apply E_not; apply rfl) | (apply E_bd; (apply plT; apply rfl); apply rfl) | (apply E_pe; exact und28; apply rfl))) | (apply Vp; apply rfl; apply rfl; apply fnT; apply rfl; apply h28; rintro _ rfl) | (apply Vp; apply rfl; apply rfl; apply fnT; apply rfl; apply h29; rintro _ rfl) | (apply VR; apply rfl; apply opR_mk; apply rfl) | (apply Vd; apply rfl; (apply E_eql; apply rfl; apply rfl); all_goals intro h_) | (apply Vo; apply rfl) | (apply Vw; apply rfl; (apply W_alL; apply rfl; (apply tyT; apply rfl))) | (apply Vs; apply rfl; (apply W_stL; apply rfl; (apply tyT; apply rfl); apply rfl; apply rfl; apply rfl; (first | apply okC_new | (apply okC_ge; omega)); apply rfl; apply rfl; (first | decide | (apply Nat.le_of_ble_eq_true; rfl)))) | (apply s_region; apply rfl) | apply tri_seq | apply tri_block | apply tri_skip | apply tri_ret | (apply tri_condT; apply rfl) | (apply tri_condF; apply rfl) | apply p_then | apply p_thenR | (exfalso; omega))
  refine tri_growM (fun k : Nat => L.length - k) (fun k => [(0, .ptr id 0), (4, .ptr (S.length + 0) 0), (6, .ptr (S.length + 1) 0), (40, .d (encL encStr L)), (41, vI L.length), (42, vI k)]) (fun k S1 T1 M1 => k ≤ L.length ∧ S.length + 2 ≤ S1.length ∧ T <+: T1 ∧ S1[id]? = some ([.d (encL encCl p), .own 79 2 tg (l.flatMap encOb) l.length, .d (.map sid)], 73) ∧ S1[S.length + 0]? = some ([.d (.flat (.int .i64 0)), .d (.flat (.int .i32 0)), .d (.flat (.string ⟨#[]⟩))], 39) ∧ S1[S.length + 1]? = some ([.d (.flat (.string cls)), .d (.map M.length)], 79) ∧ ∃ t, OKM t ∧ M1 = M ++ [encM t] ∧ instT p L [] = instT p (L.drop k) t) 0 ⟨Nat.zero_le _, by simp, by simp, at_old hid, at_ rfl rfl, at_ rfl rfl, [], OKM.nil, rfl, by rw [List.drop_zero]⟩ ⟨rfl, rfl, rfl, rfl, rfl, rfl, trivial⟩ ?_
  rintro k S1 T1 M1 ⟨hk, hS, hT1, hb, hb0, hb1, t, hO, rfl, hst⟩
  repeat' (first | apply triL_nil | (apply Vd; apply rfl; (apply E_lss; apply rfl; apply rfl); all_goals intro h_) | (apply s_region; apply rfl) | apply tri_seq | apply tri_block | apply tri_skip | apply tri_exit | (apply tri_condT; apply rfl) | (apply tri_condF; apply rfl) | apply p_then | apply p_in | apply p_thenE)
  · obtain ⟨c, hcc⟩ : ∃ c, L[k]? = some c := ⟨_, List.getElem?_eq_getElem (by omega)⟩
    rw [drop_at hcc, instT] at hst
    have hcs := hN c (List.mem_of_getElem? hcc)
    have h30 := sp30 p c hp1
    rcases findI_spec p c with ⟨hf, _⟩ | ⟨jc, hj, hf, _, _⟩
    · rw [hf] at h30 hst
      rw [if_neg (by decide)] at hst
      repeat' (first | apply triL_nil | (apply V; apply rfl; (first | (apply E_mv; apply rfl) | (apply E_as; apply rfl) | (apply E_fa; (apply plT; apply rfl); apply rfl; apply rfl; decide) | (apply E_ld; (apply tyT; apply rfl); apply rfl; (apply at_old; assumption); apply rfl) | (apply E_le; (apply tyT; apply rfl); apply rfl; apply rfl) | (apply E_ncp; apply rfl) | (apply E_add64; apply rfl; apply rfl; apply rfl; omega) | (apply E_ial (c := c); apply elT; apply rfl; apply rfl; apply rfl; apply rfl; exact encStr_len; omega; simpa using hcc))) | (apply Vp; apply rfl; apply rfl; apply fnT; apply rfl; apply h30; rintro _ rfl) | (apply Vd; apply rfl; (apply E_geq; apply rfl; apply rfl); all_goals intro h_) | (apply s_region; apply rfl) | (apply tri_region; apply rfl) | apply tri_skip | (apply tri_condT; apply rfl) | (apply tri_condF; apply rfl) | apply p_then | apply p_inN)
      all_goals first | contradiction | exact ⟨k + 1, _, _, _, by omega, ⟨by omega, by simp only [List.length_append]; omega, pre_app hT1, at_old hb, at_old hb0, at_old hb1, t, hO, rfl, hst⟩, ⟨rfl, rfl, rfl, rfl, rfl, vI_of (by omega), trivial⟩, rfl⟩
    · obtain ⟨c0, hc0⟩ : ∃ c0, p[jc]? = some c0 := ⟨_, List.getElem?_eq_getElem hj⟩
      have hcl0 : clAt p (jc : Int) = c0 := by
        unfold clAt
        rw [show ((jc : Int)).toNat = jc from rfl, hc0]
        rfl
      have hfl := hp.2 c0 (List.mem_of_getElem? hc0)
      rw [hf] at h30 hst
      rw [if_pos (by omega), hcl0] at hst
      repeat' (first | apply triL_nil | (apply V; apply rfl; (first | (apply E_mv; apply rfl) | (apply E_as; apply rfl) | (apply E_fa; (apply plT; apply rfl); apply rfl; apply rfl; decide) | (apply E_fe; (apply plT; apply rfl); apply rfl; apply rfl; decide) | (apply E_ld; (apply tyT; apply rfl); apply rfl; (apply at_old; assumption); apply rfl) | (apply E_le; (apply tyT; apply rfl); apply rfl; apply rfl) | (apply E_len; (apply elT; apply rfl); apply rfl; apply rfl) | (apply E_ncp; apply rfl) | (apply E_add64; apply rfl; apply rfl; apply rfl; omega) | (apply E_ial (c := c); apply elT; apply rfl; apply rfl; apply rfl; apply rfl; exact encStr_len; omega; simpa using hcc) | (apply E_ial (c := c0); apply elT; apply rfl; apply rfl; apply rfl; apply rfl; exact encCl_len; omega; simpa using hc0))) | (apply Vp; apply rfl; apply rfl; apply fnT; apply rfl; apply h30; rintro _ rfl) | (apply Vd; apply rfl; (apply E_geq; apply rfl; apply rfl); all_goals intro h_) | (apply s_region; apply rfl) | (apply tri_region; apply rfl) | apply tri_block | apply tri_skip | (apply tri_condT; apply rfl) | (apply tri_condF; apply rfl) | apply p_then | apply p_inN | (exfalso; omega))
      refine tri_growM (fun j : Nat => c0.fields.length - j) (fun j => [(0, .ptr id 0), (4, .ptr (S.length + 0) 0), (6, .ptr (S.length + 1) 0), (8, vS c), (40, .d (encL encStr L)), (41, vI L.length), (42, vI k), (62, .d (encL encFi c0.fields)), (63, vI c0.fields.length), (64, vI j)]) (fun j S2 T2 M2 => j ≤ c0.fields.length ∧ S.length + 2 ≤ S2.length ∧ T <+: T2 ∧ S2[id]? = some ([.d (encL encCl p), .own 79 2 tg (l.flatMap encOb) l.length, .d (.map sid)], 73) ∧ S2[S.length + 0]? = some ([.d (.flat (.int .i64 0)), .d (.flat (.int .i32 0)), .d (.flat (.string ⟨#[]⟩))], 39) ∧ S2[S.length + 1]? = some ([.d (.flat (.string cls)), .d (.map M.length)], 79) ∧ ∃ t', OKM t' ∧ M2 = M ++ [encM t'] ∧ putF false c c0.fields 0 t = putF false c (c0.fields.drop j) j t') 0 ⟨Nat.zero_le _, by simp only [List.length_append]; omega, pre_app hT1, at_old hb, at_old hb0, at_old hb1, t, hO, rfl, by rw [List.drop_zero]⟩ ⟨rfl, rfl, rfl, rfl, rfl, rfl, rfl, rfl, rfl, rfl, trivial⟩ ?_
      rintro j S2 T2 M2 ⟨hj', hS2, hT2, hb', hb0', hb1', t', hO', rfl, hpf⟩
      repeat' (first | apply triL_nil | (apply V; apply rfl; (first | (apply E_mv; apply rfl) | (apply E_add64; apply rfl; apply rfl; apply rfl; omega))) | (apply Vd; apply rfl; (apply E_lss; apply rfl; apply rfl); all_goals intro h_) | (apply s_region; apply rfl) | apply tri_seq | (apply tri_region; apply rfl) | apply tri_block | apply tri_skip | apply tri_exit | (apply tri_condT; apply rfl) | (apply tri_condF; apply rfl) | apply p_then | apply p_in | apply p_inN | apply p_thenE)
      · obtain ⟨f, hff⟩ : ∃ f, c0.fields[j]? = some f := ⟨_, List.getElem?_eq_getElem (by omega)⟩
        rw [drop_at hff, putF] at hpf
        have h20 := sp20 f.typ
        have hkT : okT ⟨c, (j : Int)⟩ := okT_of hcs (by omega)
        have hMg : (M ++ [encM t'])[M.length]? = some (encM t') := by simp
        obtain ⟨fs, fty, fnm, fin⟩ := f
        dsimp only at hpf h20
        cases fs
        · rw [if_pos rfl] at hpf
          repeat' (first | apply triL_nil | (apply V; apply rfl; (first | (apply E_mv; apply rfl) | (apply E_as; apply rfl) | (apply E_fa; (apply plT; apply rfl); apply rfl; apply rfl; decide) | (apply E_ld; (apply tyT; apply rfl); apply rfl; (apply at_; apply rfl; apply rfl); apply rfl) | (apply E_lea; (apply tyT; apply rfl); apply rfl; (first | apply rfl | apply encEx_len | apply encSm_len)) | (apply E_not; apply rfl) | (apply E_bd; (apply plT; apply rfl); apply rfl) | (apply E_add64; apply rfl; apply rfl; apply rfl; omega) | (apply E_ial (c := (⟨_, fty, fnm, fin⟩ : Fi)); apply elT; apply rfl; apply rfl; apply rfl; apply rfl; exact encFi_len; omega; simpa using hff) | (apply E_ld; exact ty70; apply rfl; (first | (apply at_; apply rfl; apply rfl) | (apply at_old; assumption) | assumption); apply rfl))) | (apply t_drawn (nt := 99) (.take 0 (.take 1 (.take 2 (.take 3 (.take 4 (.take 5 (.take 6 (.one 7 (.one 8 .nil))))))))) [] [8]; exact mixed; rfl; decide +kernel) | (apply oP; apply rfl; apply rfl; apply rfl; apply fnT; apply rfl; apply h20; rintro _ rfl) | (apply oR; apply rfl; apply rfl; apply opR_setT (k := ⟨c, (j : Int)⟩) (tbl := t') (w := zeroT fty); apply rfl; apply rfl; apply rfl; apply rfl; exact hkT; exact hMg; exact hO'; exact okm) | (apply Vw; apply rfl; (apply W_alL; apply rfl; (apply tyT; apply rfl))) | (apply Vs; apply rfl; (apply W_stL; apply rfl; (apply tyT; apply rfl); apply rfl; apply rfl; apply rfl; (first | apply okC_new | (apply okC_ge; omega)); apply rfl; apply rfl; (first | decide | (apply Nat.le_of_ble_eq_true; rfl)))) | (apply s_region; apply rfl) | (apply tri_region; apply rfl) | (apply tri_condT; apply rfl) | apply p_then | apply p_inN | apply d_nil | (apply tV; apply rfl; apply rfl; (first | (apply E_mv; apply rfl) | (apply E_as; apply rfl) | (apply E_fa; (apply plT; apply rfl); apply rfl; apply rfl; decide) | (apply E_ld; (apply tyT; apply rfl); apply rfl; (apply at_; apply rfl; apply rfl); apply rfl) | (apply E_lea; (apply tyT; apply rfl); apply rfl; (first | apply rfl | apply encEx_len | apply encSm_len)) | (apply E_not; apply rfl) | (apply E_bd; (apply plT; apply rfl); apply rfl) | (apply E_add64; apply rfl; apply rfl; apply rfl; omega) | (apply E_ial (c := (⟨_, fty, fnm, fin⟩ : Fi)); apply elT; apply rfl; apply rfl; apply rfl; apply rfl; exact encFi_len; omega; simpa using hff) | (apply E_ld; exact ty70; apply rfl; (first | (apply at_; apply rfl; apply rfl) | (apply at_old; assumption) | assumption); apply rfl)); apply rfl))
          exact ⟨j + 1, _, _, _, by omega, ⟨by omega, by simp only [List.length_append]; omega, pre_app hT2, at_old hb', at_old hb0', at_old hb1', _, hO'.put hkT _, set_end, hpf⟩, ⟨rfl, rfl, rfl, rfl, rfl, rfl, rfl, rfl, rfl, vI_of (by omega), trivial⟩, rfl⟩
        · rw [if_neg (by decide)] at hpf
          repeat' (first | apply triL_nil | (apply V; apply rfl; (first | (apply E_mv; apply rfl) | (apply E_as; apply rfl) | (apply E_fa; (apply plT; apply rfl); apply rfl; apply rfl; decide) | (apply E_ld; (apply tyT; apply rfl); apply rfl; (apply at_; apply rfl; apply rfl); apply rfl) | (apply E_lea; (apply tyT; apply rfl); apply rfl; (first | apply rfl | apply encEx_len | apply encSm_len)) | (apply E_not; apply rfl) | (apply E_add64; apply rfl; apply rfl; apply rfl; omega) | (apply E_ial (c := (⟨_, fty, fnm, fin⟩ : Fi)); apply elT; apply rfl; apply rfl; apply rfl; apply rfl; exact encFi_len; omega; simpa using hff))) | (apply Vw; apply rfl; (apply W_alL; apply rfl; (apply tyT; apply rfl))) | (apply Vs; apply rfl; (apply W_stL; apply rfl; (apply tyT; apply rfl); apply rfl; apply rfl; apply rfl; (first | apply okC_new | (apply okC_ge; omega)); apply rfl; apply rfl; (first | decide | (apply Nat.le_of_ble_eq_true; rfl)))) | (apply s_region; apply rfl) | (apply tri_region; apply rfl) | apply tri_skip | (apply tri_condF; apply rfl) | apply p_then | apply p_inN)
          exact ⟨j + 1, _, _, _, by omega, ⟨by omega, by simp only [List.length_append]; omega, pre_app hT2, at_old hb', at_old hb0', at_old hb1', t', hO', rfl, hpf⟩, ⟨rfl, rfl, rfl, rfl, rfl, rfl, rfl, rfl, rfl, vI_of (by omega), trivial⟩, rfl⟩
      · rw [List.drop_of_length_le (by omega), putF] at hpf
        rw [hpf] at hst
        exact ⟨k + 1, _, _, _, by omega, ⟨by omega, by simp only [List.length_append]; omega, pre_app hT2, at_old hb', at_old hb0', at_old hb1', t', hO', rfl, hst⟩, ⟨rfl, rfl, rfl, rfl, rfl, vI_of (by omega), trivial⟩, rfl⟩
  · rw [List.drop_of_length_le (by omega), instT] at hst
    rw [hst]
    have htl := (List.getElem?_eq_some_iff.1 hT).1
    have hidl := (List.getElem?_eq_some_iff.1 hid).1
    have hTg : T1[tg]? = some (l.flatMap encOb).length := by
      obtain ⟨X, rfl⟩ := hT1
      rw [List.getElem?_append_left htl]
      exact hT
    have hid1 : id < S1.length := (List.getElem?_eq_some_iff.1 hb).1
    have hb03 : (S1.set id (putL (0 + 1) (cellsOfB (BV.own 79 2 tg ((l ++ [(cls, M.length)]).flatMap encOb) (l ++ [(cls, M.length)]).length)) [.d (encL encCl p), .own 79 2 tg (l.flatMap encOb) l.length, .d (.map sid)], 73))[S.length + 0]? = some ([.d (.flat (.int .i64 0)), .d (.flat (.int .i32 0)), .d (.flat (.string ⟨#[]⟩))], 39) := by
      rw [List.getElem?_set_ne (by omega)]
      exact hb0
    have hll : (l ++ [(cls, M.length)]).length = l.length + 1 := by simp
    repeat' (first | apply triL_nil | (apply V; apply rfl; (first | (apply E_cv64; apply rfl; apply udT; apply rfl; apply udT; apply rfl; omega) | (apply E_mv; apply rfl) | (apply E_as; apply rfl) | (apply E_fa; (apply plT; apply rfl); apply rfl; apply rfl; decide) | (apply E_lda; (apply tyT; apply rfl); apply rfl; (first | (apply at_old; assumption) | (apply at_set; assumption)); apply rfl) | (apply E_ld; (apply tyT; apply rfl); apply rfl; (first | (apply at_old; assumption) | (apply at_set; assumption)); apply rfl) | (apply E_len; (apply elT; apply rfl); apply rfl; apply rfl) | (apply E_ncp; apply rfl) | (apply E_bd; (apply plT; apply rfl); apply rfl))) | (apply t_drawn (nt := 99) (.take 0 (.take 1 (.take 2 (.take 3 (.take 4 (.take 5 (.one 6 (.one 7 (.take 8 (.take 9 (.one 10 .nil))))))))))) [] [10]; exact mixed; rfl; decide +kernel) | (apply Vs; apply rfl; (apply W_stO; (apply tyT; apply rfl); apply rfl; apply rfl; assumption; (apply okC_ge; omega); apply rfl; apply rfl; (first | decide | (apply Nat.le_of_ble_eq_true; rfl)))) | (apply s_region; apply rfl) | apply tri_ret | apply p_then | apply d_nil | (apply tV; apply rfl; apply rfl; (first | (apply E_cv64; apply rfl; apply udT; apply rfl; apply udT; apply rfl; omega) | (apply E_mv; apply rfl) | (apply E_as; apply rfl) | (apply E_fa; (apply plT; apply rfl); apply rfl; apply rfl; decide) | (apply E_lda; (apply tyT; apply rfl); apply rfl; (first | (apply at_old; assumption) | (apply at_set; assumption)); apply rfl) | (apply E_ld; (apply tyT; apply rfl); apply rfl; (first | (apply at_old; assumption) | (apply at_set; assumption)); apply rfl) | (apply E_len; (apply elT; apply rfl); apply rfl; apply rfl) | (apply E_ncp; apply rfl) | (apply E_bd; (apply plT; apply rfl); apply rfl)); apply rfl) | (apply oW; apply rfl; apply rfl; (first | (apply W_bsL; apply rfl; (apply elT; apply rfl); (apply tyT; apply rfl); apply rfl; decide; apply rfl; apply rfl) | (apply W_ap; (apply elT; apply rfl); (apply tyT; apply rfl); (apply byT; apply rfl); apply rfl; apply rfl; apply rfl; decide; apply rfl; (apply A_ownLO (c := (cls, M.length)); omega; omega; assumption)))) | (apply oS; apply rfl; apply rfl; (apply W_stO; (apply tyT; apply rfl); apply rfl; apply rfl; assumption; (apply okD_in <;> simp); apply rfl; apply rfl; (first | decide | (apply Nat.le_of_ble_eq_true; rfl)))))
    have hx : ∀ X, (((S1.set id X).set (S.length + 0) (putL 0 (cellsOfB (.agg [.d (.flat (.int .i64 4)), .d (.flat (.int .i32 ((l ++ [(cls, M.length)]).length : Nat))), .d (.flat (.string ⟨#[]⟩))])) [.d (.flat (.int .i64 0)), .d (.flat (.int .i32 0)), .d (.flat (.string ⟨#[]⟩))], 39)) ++ ([] : List (List BV × Nat)))[id]? = some X := fun X => by
      rw [List.append_nil, List.getElem?_set_ne (by omega)]
      exact List.getElem?_set_self hid1
    refine end_k (T' := T.set tg ((l ++ [(cls, M.length)]).flatMap encOb).length) (l' := [.agg [.d (.flat (.int .i64 4)), .d (.flat (.int .i32 ((l ++ [(cls, M.length)]).length : Nat))), .d (.flat (.string ⟨#[]⟩))], vB true]) _ (.inr rfl) (pre_app (pre_both hT1 htl)) (by simp) (R_cellO rfl (tyT rfl) (List.getElem?_set_self (by rw [List.length_set]; omega)) rfl (R_tmp rfl R_nil)) (by simp [wks, wk, lows, low]; rfl) (at_old (by rw [List.getElem?_set_ne (by omega)]; exact List.getElem?_set_self hid1)) (cs' := [.d (encL encCl p), .own 79 2 tg ((l ++ [(cls, M.length)]).flatMap encOb) (l ++ [(cls, M.length)]).length, .d (.map sid)]) ?_ ⟨?_, rfl⟩
    · show lows S.length (T.set tg _).length [.d (encL encCl p), .own 79 2 tg ((l ++ [(cls, M.length)]).flatMap encOb) (l ++ [(cls, M.length)]).length, .d (.map sid)] = _
      simp [lows, low, htl]
    · rw [hll]
      rfl
end Go.Proofs.YtinffhimfoicdaaGreat

/- A calculus over the model's wp rules, part 21: a look into no map. No conditions. -/
namespace Go.Proofs.YtinffhimfoicdaaGreat.Calc
open Go Go.RowKit
set_option linter.unusedVariables false

section
variable {P : Program} {ok okm : Nat → Bool} {o : Oper} {ρ : Rg} {st : St} {Q : Rg → St → Prop} {t : Nat} {k e : TypeId} {x i v : Operand} {b : Bool}
theorem opR_lookZ {sz : Nat} {z : List BV} {kv : Value} (ho : o.op = .lookup t x i b) (hm : P.underlying t = some (.map k e)) (K : WideMaps.KeyLaw P k) (ht : tyOf P e = some (true, sz, z)) (hx : evB ρ x = some (.d (.flat (.map none))))
    (hi : (evB ρ i).bind keyB = some kv) (hkv : KeyV P k kv) (hq : Q (updO ρ o.dst (lkB b (.agg z) false)) st) : OpR P ok okm o ρ st Q := by
  intro nt y a Kx h1 h2 h3 h4
  subst h1
  obtain ⟨bi, hb1, hb2⟩ := Option.bind_eq_some_iff.1 hi
  have hik := keyB_rep (h3.ev hb1) hb2
  have hrx := h3.ev hx
  generalize hw : a.eval x = vx at hrx
  obtain ⟨l, hl⟩ := hkv
  obtain ⟨dd, ii, zz, g1, g2, g3, _, _, g6, g7⟩ := tyOf_some ht
  obtain ⟨cz, rfl⟩ : ∃ c : Array Value, zz = .agg c := by
    cases zz <;> simp [aggV] at g7
    exact ⟨_, rfl⟩
  have hz : RepB y (.agg z) (.agg cz) := by
    have := RepB.agg _ _ (cellsB_rep (x := y) g6)
    simpa [Value.cells] using this
  have hvx : vx = .map none := keyB_rep hrx rfl
  subst hvx
  have hfind : (Instr.findKey k kv []).run P y.w = .ok none y.w := by
    rcases K.find y.w hl [] (fun e he => by cases he) with ⟨q, _⟩ | ⟨j, e, _, q, _⟩
    · exact q
    · simp at q
  have hrun : (execOp a.eval o).run P y.w = .ok (.value (if b = true then .tuple #[.agg cz, .bool false] else .agg cz)) y.w := by
    obtain ⟨dst, op, type, pos, after, guard⟩ := o
    subst ho
    simp only [execOp, hw, hik]
    simp [Instr.lookup, run_underlying hm, K.check y.w _ hl, hfind, run_zero g2 g3, Result.andThen]
  unfold Oper.wp
  rw [hrun]
  exact ⟨_, y, [], [], rfl, hq, h2, Step.refl _ _ _, by simp, by simp, h3.put h4 (lkB_rep hz b false)⟩
end
end Go.Proofs.YtinffhimfoicdaaGreat.Calc

/- A calculus over the model's wp rules, part 22: an empty list in a box gets the right to append. No conditions. -/
namespace Go.Proofs.YtinffhimfoicdaaGreat.Calc
open Go Go.RowKit
set_option linter.unusedVariables false
theorem RepBs.setAt {x : Full} : ∀ {l : List BV} {vs : List Value}, RepBs x l vs → ∀ {j : Nat} {b : BV}, (∀ v, vs[j]? = some v → RepB x b v) → RepBs x (l.set j b) vs
  | _, _, .nil, j, b, h => .nil
  | _, _, .cons y v l vs h hs, 0, b, hb => .cons _ _ _ _ (hb v rfl) hs
  | _, _, .cons y v l vs h hs, j + 1, b, hb => .cons _ _ _ _ h (RepBs.setAt hs fun v hv => hb v (by simpa using hv))
def boxSet (y : Full) (id : Nat) (c : List BV × Nat) : Full := { y with st := ⟨y.st.S.set id c, y.st.T, y.st.M⟩ }
theorem boxSet_le (y : Full) (id : Nat) (c : List BV × Nat) : Step [] [] y (boxSet y id c) where
  os := rfl
  tape := rfl
  output := rfl
  size := Nat.le_refl _
  frame := fun _ _ _ _ _ => rfl
  keep := Keep.refl _ _
  slen := by simp [boxSet]
  ids := fun _ _ => rfl
  fresh := fun i h1 h2 => by simp only [boxSet, List.length_set] at h2; omega
  mlen := Nat.le_refl _
  mids := fun _ _ => rfl
  mfresh := fun i h1 h2 => by simp only [boxSet] at h2; omega
  tags := fun t k h => ⟨k, h, Nat.le_refl _, fun _ => ⟨rfl, fun _ _ => rfl⟩, .inl rfl⟩
  tfresh := fun t b h1 h2 => by simp only [boxSet] at h2; omega
  fro := fun _ _ _ => rfl
theorem boxSet_good {y : Full} (hg : Good y) {id ty : Nat} {cs cs' : List BV} (hid : y.st.S[id]? = some (cs, ty)) (h : ∀ vs, RepBs y cs vs → RepBs y cs' vs) : Good (boxSet y id (cs', ty)) := by
  have hs := boxSet_le y id (cs', ty)
  constructor
  · intro i c t hi
    simp only [boxSet, List.getElem?_set] at hi
    split at hi
    · rename_i e
      subst e
      obtain ⟨us, h1, h2, h3⟩ := hg.box id cs ty hid
      split at hi
      · simp only [Option.some.injEq, Prod.mk.injEq] at hi
        obtain ⟨rfl, rfl⟩ := hi
        exact ⟨us, h1, (h us h2).mono hs, h3⟩
      · cases hi
    · obtain ⟨us, h1, h2, h3⟩ := hg.box i c t hi
      exact ⟨us, h1, h2.mono hs, h3⟩
  · intro i j hi hj e
    simp only [boxSet, List.length_set] at hi hj e
    exact hg.inj i j hi hj e
  · intro u k b hu hb
    obtain ⟨h1, h2, h3, h4⟩ := hg.tag u k b hu hb
    refine ⟨h1, h2, fun i hi => ?_, h4⟩
    simp only [boxSet, List.length_set] at hi
    exact h3 i hi
  · intro i es hi
    obtain ⟨us, c, h1, h2, h3⟩ := hg.map i es hi
    refine ⟨us, c, h1, h2, fun j e k y he hk => ?_⟩
    obtain ⟨h4, h5⟩ := h3 j e k y he hk
    exact ⟨h4, h5.mono hs.le⟩
  · exact hg.mapinj
  · exact hg.tmap
theorem tri_ownBox {C : Cx} {c : Code} {ρ : Rg} {S : List (List BV × Nat)} {T : List Nat} {M : List (List (Value × DV))} {Q : Post} {id ty j : Nat} {cs : List BV} (e sz : Nat) (hid : S[id]? = some (cs, ty)) (hj : cs[j]? = some (.tight [] 0))
    (h : Tri C c ρ ⟨S.set id (cs.set j (.own e sz T.length [] 0), ty), T ++ [0], M⟩ Q) : Tri C c ρ ⟨S, T, M⟩ Q := by
  intro x y a h1 h1m h2 h3 h4 h5 K hK
  have hS : y.st.S = S := by rw [h3]
  have hT : y.st.T = T := by rw [h3]
  have hM : y.st.M = M := by rw [h3]
  have g1 := tagged_good h4
  have hid1 : (tagged y).st.S[id]? = some (cs, ty) := by
    show y.st.S[id]? = _
    rw [hS]
    exact hid
  have g2 : Good (boxSet (tagged y) id (cs.set j (.own e sz T.length [] 0), ty)) := boxSet_good g1 hid1 fun vs hvs => by
    refine hvs.setAt fun v hv => ?_
    obtain ⟨w, hw1, hw2⟩ := hvs.get hj
    obtain rfl := Option.some.inj (hv.symm.trans hw1)
    rw [← hT]
    cases hw2 with
    | tight _ _ base hb => exact .own e sz _ [] 0 0 _ hb (by simp [tagged]) (Nat.le_refl _) (fun _ => .inr ⟨by simp [tagged], rfl, rfl, base, rfl⟩)
  have hst := (tagged_step y).trans (boxSet_le (tagged y) id (cs.set j (.own e sz T.length [] 0), ty))
  refine h x _ a h1 h1m (h2.trans' hst (fun i hi _ => by cases hi) (fun i hi _ => by cases hi)) ?_ g2 ⟨h5.defers, h5.size, fun t v ht => (h5.reg t v ht).mono hst⟩ K hK
  show (⟨y.st.S.set id _, y.st.T ++ [0], y.st.M⟩ : St) = _
  rw [hS, hT, hM]
end Go.Proofs.YtinffhimfoicdaaGreat.Calc

/- The heap's Get of nobody. No conditions. -/
namespace Go.Proofs.YtinffhimfoicdaaGreat
open Go Go.RowKit Go.Proofs.YtinffhimfoicdaaGreat.Calc
set_option linter.unusedVariables false
set_option linter.unusedSimpArgs false
set_option maxRecDepth 100000
set_option maxHeartbeats 8000000
theorem opR_lookN {okm ok : Nat → Bool} {o : Oper} {ρ : Rg} {st : St} {Q : Rg → St → Prop} {x i : Operand} {b : Bool} {k : Tg} (ho : o.op = .lookup 70 x i b) (hx : evB ρ x = some (.d (.flat (.map none)))) (hi : (evB ρ i).bind keyB = some (keyT k)) (hk : okT k)
    (hq : Q (updO ρ o.dst (lkB b (vVl vl0) false)) st) : OpR Tryz.prog ok okm o ρ st Q :=
  opR_lookZ ho und70 K44 (z := [.d (.flat (.int .i64 0)), .d (.flat (.int .i32 0)), .d (.flat (.string ⟨#[]⟩))]) (sz := 3) (tyT rfl) hx hi (keyV44 hk) hq
attribute [local irreducible] Tri TriL TriP CallT stepV stepW thenQ inQ endQ
theorem sp15z (p : List Cl) (tg sid : Nat) (l : List (ByteArray × Nat)) (v : Vl) (hv : okV v) (hl : l.length ≤ 1000) (k : Tg) (hk : okT k) (hm : mpOf sid l v = none) : HC p (.own 79 2 tg (l.flatMap encOb) l.length) sid 15 (fun id => [.ptr id 0, vVl v, vTg k]) (fun r => r = vVl vl0) := by
  have h34 := sp34 p tg sid l v hv hl
  rw [hm] at h34
  unfold vTg
  intro S T M id hid
  refine callT_go [] [] Tryz.func15 rfl Tryz.ntmps15 Tryz.results15 ?_
  repeat' (first | apply triL_nil | (apply s_drawn (nt := 12) (.take 0 (.take 1 (.take 3 (.one 2 (.one 4 (.one 5 .nil)))))) [] [5]; exact mixed; rfl; decide +kernel) | (apply oP; apply rfl; apply rfl; apply rfl; apply fnT; apply rfl; apply h34; (first | (apply at_old; assumption) | assumption); rintro _ rfl) | (apply oR; apply rfl; apply rfl; apply opR_lookN (k := k); apply rfl; apply rfl; apply rfl; exact hk) | (apply Vw; apply rfl; (first | (apply W_alL; apply rfl; (apply tyT; apply rfl)) | (apply W_bxL; apply rfl; apply rfl; apply rfl))) | (apply s_region; apply rfl) | apply tri_ret | (apply end_q _ (.inr rfl); (exact List.prefix_append _ _); (focus repeat (first | apply R_nil | (apply R_cell; apply rfl; apply rfl; apply tyT; apply rfl; apply rfl; apply rfl))); apply rfl) | apply d_nil | (apply tV; apply rfl; apply rfl; (first | (apply E_mv; apply rfl) | (apply E_lda; (apply tyT; apply rfl); apply rfl; (apply at_; apply rfl; apply rfl); apply rfl)); apply rfl) | (apply oS; apply rfl; apply rfl; (apply W_stL; apply rfl; (apply tyT; apply rfl); apply rfl; apply rfl; apply rfl; (first | (apply okD_new; apply rfl) | (apply okD_ge; omega; apply rfl)); apply rfl; apply rfl; (first | decide | (apply Nat.le_of_ble_eq_true; rfl)))))
  all_goals first | rfl | contradiction
theorem sp13z (p : List Cl) (tg sid : Nat) (l : List (ByteArray × Nat)) (v : Vl) (hv : okV v) (hl : l.length ≤ 1000) (k : Tg) (hk : okT k) (w : Vl) (hm : mpOf sid l v = none) : HC p (.own 79 2 tg (l.flatMap encOb) l.length) sid 13 (fun id => [.ptr id 0, vVl v, vTg k, vVl w]) (fun r => r = vB false) := by
  have h34 := sp34 p tg sid l v hv hl
  rw [hm] at h34
  unfold vTg
  intro S T M id hid
  refine callT_go [] [] Tryz.func13 rfl Tryz.ntmps13 Tryz.results13 ?_
  repeat' (first | apply triL_nil | (apply V; apply rfl; (first | (apply E_mv; apply rfl) | (apply E_as; apply rfl) | (apply E_lda; (apply tyT; apply rfl); apply rfl; (apply at_; apply rfl; apply rfl); apply rfl) | (apply E_ex; apply rfl; apply rfl) | (apply E_not; apply rfl))) | (apply Vp; apply rfl; apply rfl; apply fnT; apply rfl; apply h34; (first | (apply at_old; assumption) | assumption); rintro _ rfl) | (apply VR; apply rfl; apply opR_lookN (k := k); apply rfl; apply rfl; apply rfl; exact hk) | (apply Vw; apply rfl; (first | (apply W_alL; apply rfl; (apply tyT; apply rfl)) | (apply W_bxL; apply rfl; apply rfl; apply rfl))) | (apply Vs; apply rfl; (apply W_stL; apply rfl; (apply tyT; apply rfl); apply rfl; apply rfl; apply rfl; (first | apply okC_new | (apply okC_ge; omega)); apply rfl; apply rfl; (first | decide | (apply Nat.le_of_ble_eq_true; rfl)))) | (apply s_region; apply rfl) | apply tri_seq | apply tri_ret | (apply tri_condT; apply rfl) | (apply end_q _ (.inr rfl); (exact List.prefix_append _ _); (focus repeat (first | apply R_nil | (apply R_tmp; apply rfl))); apply rfl) | apply p_thenR)
  all_goals first | rfl | contradiction
end Go.Proofs.YtinffhimfoicdaaGreat

/- The closed run, last part: Make's program, what it is. No conditions. -/
namespace Go.Proofs.YtinffhimfoicdaaGreat
open Go Go.RowKit Go.Proofs.YtinffhimfoicdaaGreat.Calc
set_option linter.unusedVariables false
set_option linter.unusedSimpArgs false
set_option maxRecDepth 1000000
set_option maxHeartbeats 8000000
def P0 : List Cl :=
  [⟨b1, b49, [⟨false, b3, b4, [.mk 1 1 b49 b49 b49 [] b49 0]⟩, ⟨true, b3, b9, [.mk 1 2 b49 b49 b49 [] b49 0]⟩, ⟨false, b1, b11, []⟩, ⟨false, b12, b13, [.mk 3 0 b13 b49 b49 [] b49 0]⟩], [⟨false, true, b49, b49, [], [.mk 2 0 b49 b49 [.mk 6 0 b49 b4 b49 [] b49 0, .mk 1 5 b49 b49 b49 [] b49 0] [] [] [] 0]⟩, ⟨false, false, b3, b18, [⟨b3, b19⟩], [.mk 1 0 b1 b20 [.mk 6 0 b49 b11 b49 [] b49 0] [] [] [] 0, .mk 6 0 b49 b49 [.mk 6 0 b49 b4 b49 [] b49 0] [] [] [] 0]⟩, ⟨false, false, b3, b18, [⟨b1, b20⟩], [.mk 6 0 b49 b49 [.mk 1 1 b49 b49 b49 [] b49 0] [] [] [] 0]⟩, ⟨false, false, b3, b18, [⟨b3, b19⟩, ⟨b3, b23⟩], [.mk 6 0 b49 b49 [.mk 17 0 b49 b24 b49 [.mk 6 0 b49 b19 b49 [] b49 0, .mk 6 0 b49 b23 b49 [] b49 0] b49 0] [] [] [] 0]⟩, ⟨false, false, b25, b26, [], [.mk 7 0 b49 b49 [.mk 3 0 b1 b49 b49 [] b49 0] [] [] [] 0]⟩, ⟨true, false, b3, b28, [⟨b3, b19⟩], [.mk 6 0 b49 b49 [.mk 17 0 b49 b29 b49 [.mk 6 0 b49 b19 b49 [] b49 0, .mk 9 0 b49 b9 b1 [] b49 0] b49 0] [] [] [] 0]⟩]⟩,
   ⟨b31, b1, [⟨false, b3, b4, [.mk 1 7 b49 b49 b49 [] b49 0]⟩, ⟨false, b3, b34, []⟩, ⟨false, b31, b35, []⟩], [⟨false, true, b49, b49, [⟨b3, b19⟩], [.mk 11 0 b49 b49 [] [] [] [] 0, .mk 2 0 b49 b49 [.mk 6 0 b49 b34 b49 [] b49 0, .mk 6 0 b49 b19 b49 [] b49 0] [] [] [] 0]⟩, ⟨false, true, b49, b49, [], []⟩, ⟨false, false, b3, b18, [⟨b3, b19⟩], [.mk 1 0 b1 b20 [.mk 5 0 b49 b49 b49 [] b49 0] [] [] [] 0, .mk 6 0 b49 b49 [.mk 17 0 b49 b38 b49 [.mk 6 0 b49 b34 b49 [] b49 0, .mk 6 0 b49 b19 b49 [] b49 0] b49 0] [] [] [] 0]⟩, ⟨false, false, b25, b26, [], [.mk 7 0 b49 b49 [.mk 3 0 b31 b49 b49 [] b49 0] [] [] [] 0, .mk 3 0 b49 b49 [.mk 12 0 b49 b26 b49 [] b49 0] [] [] [] 0, .mk 7 0 b49 b49 [.mk 6 0 b49 b34 b49 [] b49 0] [] [] [] 0]⟩]⟩,
   ⟨b40, b49, [⟨true, b1, b41, [.mk 14 0 b49 b49 b31 [.mk 1 2 b49 b49 b49 [] b49 0] b49 0]⟩], [⟨true, false, b25, b43, [], [.mk 1 0 b1 b20 [.mk 9 0 b49 b41 b40 [] b49 0] [] [] [] 0, .mk 7 0 b49 b49 [.mk 10 0 b49 b18 b49 [.mk 6 0 b49 b20 b49 [] b49 0, .mk 1 3 b49 b49 b49 [] b49 0] b49 0] [] [] [] 0, .mk 3 0 b49 b49 [.mk 10 0 b49 b26 b49 [.mk 6 0 b49 b20 b49 [] b49 0] b49 0] [] [] [] 0, .mk 8 1 b49 b49 [.mk 17 0 b49 b46 b49 [.mk 7 0 b49 b4 b49 [.mk 6 0 b49 b20 b49 [] b49 0] b49 0, .mk 1 9 b49 b49 b49 [] b49 0] b49 0] [] [] [] 0]⟩, ⟨true, false, b25, b48, [], [.mk 1 0 b1 b20 [.mk 14 0 b49 b49 b31 [.mk 1 2 b49 b49 b49 [] b49 0] b49 0] [] [] [] 0]⟩]⟩]
theorem progV_eq : progV = vP P0 := by kernel_rfl
def cA : ByteArray := ⟨#[65]⟩
def cB : ByteArray := ⟨#[66]⟩
def cT : ByteArray := ⟨#[84]⟩
def cQ : ByteArray := ⟨#[81]⟩
def vlI (n : Int) : Vl := ⟨1, n, ⟨#[]⟩⟩
theorem P0_small : Small P0 := by unfold Small; decide +kernel
theorem P0_named : Named P0 := by unfold Named; decide +kernel
theorem P0_check : (checkF P0).1 = 0 := by decide +kernel
theorem P0_A : isC P0 cA = true := by decide +kernel
theorem P0_B : isC P0 cB = true := by decide +kernel
theorem P0_Q : isC P0 cQ = false := by decide +kernel
theorem P0_ch : chC P0 cB = [cB, cA] := by decide +kernel
def tS : Tbl := [(⟨cA, 1⟩, vlI 0), (⟨cT, 0⟩, ⟨4, 0, ⟨#[]⟩⟩)]
def tB : Tbl := [(⟨cB, 0⟩, vlI 0), (⟨cB, 1⟩, vlI 0), (⟨cB, 2⟩, ⟨4, 0, ⟨#[]⟩⟩), (⟨cA, 0⟩, vlI 0), (⟨cA, 2⟩, ⟨4, 0, ⟨#[]⟩⟩), (⟨cA, 3⟩, ⟨3, 0, ⟨#[]⟩⟩)]
theorem P0_stat : statT P0 [] = tS := by decide +kernel
theorem P0_inst : instT P0 [cB, cA] [] = tB := by decide +kernel
attribute [local irreducible] Tri TriL TriP CallT stepV stepW thenQ inQ endQ
theorem cl7 : PC 7 [nilL] (fun r => r = vP P0) := by
  have h25 := cl25
  have h24 := cl24
  have h26 := cl26
  rw [progV_eq] at h24 h26
  unfold vP at *
  have hl : P0.length = 3 := rfl
  generalize P0 = p at *
  generalize srcB = sr at *
  intro S T M
  refine callT_go [] [] Tryz.func7 rfl Tryz.ntmps7 Tryz.results7 ?_
  repeat' (first | apply triL_nil | (apply V; apply rfl; (first | (apply E_mv; apply rfl) | (apply E_as; apply rfl) | (apply E_fa; (apply plT; apply rfl); apply rfl; apply rfl; decide) | (apply E_fe; (apply plT; apply rfl); apply rfl; apply rfl; decide) | (apply E_lda; (apply tyT; apply rfl); apply rfl; (first | (apply at_; apply rfl; apply rfl) | (apply at_old; assumption) | (apply at_set; assumption)); apply rfl) | (apply E_ld; (apply tyT; apply rfl); apply rfl; (first | (apply at_; apply rfl; apply rfl) | (apply at_old; assumption) | (apply at_set; assumption)); apply rfl) | (apply E_lea; (apply tyT; apply rfl); apply rfl; (first | apply rfl | apply encEx_len | apply encSm_len)) | (apply E_le; (apply tyT; apply rfl); apply rfl; apply rfl) | (apply E_len; (apply elT; apply rfl); apply rfl; apply rfl) | (apply E_lens; (apply udT; apply rfl); apply rfl) | (apply E_ncp; apply rfl) | (apply E_nce; apply rfl) | (apply E_ncf; apply rfl) | (apply E_pkT; apply rfl; apply rfl) | (apply E_pkF; apply rfl; apply rfl) | (apply E_ex; apply rfl; apply rfl) | (apply E_not; apply rfl) | (apply E_bd; (apply plT; apply rfl); apply rfl) | (apply E_mf; apply rfl) | (apply E_cvt; apply rfl; (apply udT; apply rfl); (apply udT; apply rfl)) | (apply E_idx; (apply udT; apply rfl); apply rfl; apply rfl; omega) | (apply E_add64; apply rfl; apply rfl; apply rfl; omega) | (apply E_sub64; apply rfl; apply rfl; apply rfl; omega) | (apply E_add; apply rfl; apply rfl) | (apply E_sub; apply rfl; apply rfl) | (apply E_mul; apply rfl; apply rfl) | (apply E_max; apply rfl; apply rfl) | (apply E_min; apply rfl; apply rfl) | (apply E_and; apply rfl; apply rfl) | (apply E_or; apply rfl; apply rfl) | (apply E_shl; apply rfl; apply rfl; (first | decide | apply u64_nn | omega)) | (apply E_sls; (apply udT; apply rfl); apply rfl; apply rfl; apply rfl; (first | exact .inr ⟨_, _, rfl, by omega, rfl⟩ | exact .inl ⟨rfl, rfl⟩); (first | exact .inr ⟨_, _, rfl, by omega, rfl⟩ | exact .inl ⟨rfl, rfl⟩); (first | omega | (simp only [ByteArray.size_append, ByteArray.size_extract, size_mk, List.size_toArray, List.length_cons, List.length_nil, List.length_append] at *; omega)); (first | omega | (simp only [ByteArray.size_append, ByteArray.size_extract, size_mk, List.size_toArray, List.length_cons, List.length_nil, List.length_append] at *; omega))) | (apply E_cat; apply rfl; apply rfl; (first | omega | (simp only [ByteArray.size_append, ByteArray.size_extract, size_mk, List.size_toArray, List.length_cons, List.length_nil, List.length_append] at *; omega))))) | (apply Vp; apply rfl; apply rfl; apply fnT; apply rfl; apply h25; rintro _ rfl) | (apply Vp; apply rfl; apply rfl; apply fnT; apply rfl; apply call_wk; apply rfl; apply h25; rintro _ rfl) | (apply oP; apply rfl; apply rfl; apply rfl; apply fnT; apply rfl; apply h25; rintro _ rfl) | (apply oP; apply rfl; apply rfl; apply rfl; apply fnT; apply rfl; apply call_wk; apply rfl; apply h25; rintro _ rfl) | (apply Vp; apply rfl; apply rfl; apply fnT; apply rfl; apply h24; rintro _ rfl) | (apply Vp; apply rfl; apply rfl; apply fnT; apply rfl; apply call_wk; apply rfl; apply h24; rintro _ rfl) | (apply oP; apply rfl; apply rfl; apply rfl; apply fnT; apply rfl; apply h24; rintro _ rfl) | (apply oP; apply rfl; apply rfl; apply rfl; apply fnT; apply rfl; apply call_wk; apply rfl; apply h24; rintro _ rfl) | (apply Vp; apply rfl; apply rfl; apply fnT; apply rfl; apply h26; rintro _ rfl) | (apply Vp; apply rfl; apply rfl; apply fnT; apply rfl; apply call_wk; apply rfl; apply h26; rintro _ rfl) | (apply oP; apply rfl; apply rfl; apply rfl; apply fnT; apply rfl; apply h26; rintro _ rfl) | (apply oP; apply rfl; apply rfl; apply rfl; apply fnT; apply rfl; apply call_wk; apply rfl; apply h26; rintro _ rfl) | (apply Vd; apply rfl; (first | (apply E_lss; apply rfl; apply rfl) | (apply E_leq; apply rfl; apply rfl) | (apply E_gtr; apply rfl; apply rfl) | (apply E_geq; apply rfl; apply rfl) | (apply E_eql; apply rfl; apply rfl) | (apply E_neq; apply rfl; apply rfl) | (apply E_seql; apply rfl; apply rfl) | (apply E_sneq; apply rfl; apply rfl)); all_goals intro h_) | (apply Vo; apply rfl) | (apply Vw; apply rfl; (first | (apply W_alL; apply rfl; (apply tyT; apply rfl)) | (apply W_bxL; apply rfl; apply rfl; apply rfl) | (apply W_bsL; apply rfl; (apply elT; apply rfl); (apply tyT; apply rfl); apply rfl; decide; apply rfl; apply rfl))) | (apply Vs; apply rfl; (first | (apply W_stO2; (apply tyT; apply rfl); apply rfl; apply rfl; assumption; (apply okC_in; simp); apply rfl; apply rfl; (first | decide | (apply Nat.le_of_ble_eq_true; rfl))) | (apply W_stL; apply rfl; (apply tyT; apply rfl); apply rfl; apply rfl; apply rfl; (first | apply okC_new | (apply okC_ge; omega)); apply rfl; apply rfl; (first | decide | (apply Nat.le_of_ble_eq_true; rfl))) | (apply W_stO; (apply tyT; apply rfl); apply rfl; apply rfl; assumption; (apply okC_in; simp); apply rfl; apply rfl; (first | decide | (apply Nat.le_of_ble_eq_true; rfl))))) | (apply s_region; apply rfl) | apply tri_seq | (apply tri_region; apply rfl) | apply tri_block | apply tri_skip | apply tri_exit | apply tri_ret | (apply tri_condT; apply rfl) | (apply tri_condF; apply rfl) | (apply end_q _ (.inr rfl); (first | exact List.prefix_append _ _ | assumption | (apply pre_app; assumption) | (apply pre_app; apply pre_set <;> assumption) | exact List.prefix_refl _); (focus repeat (first | apply R_nil | (apply R_tmp; apply rfl) | (apply R_cell; apply rfl; apply rfl; apply tyT; apply rfl; apply rfl; apply rfl) | (apply R_cellO; apply rfl; apply tyT; apply rfl; assumption; apply rfl))); apply rfl) | (apply end_q _ (.inl rfl); (first | exact List.prefix_append _ _ | assumption | (apply pre_app; assumption) | (apply pre_app; apply pre_set <;> assumption) | exact List.prefix_refl _); (focus repeat (first | apply R_nil | (apply R_tmp; apply rfl) | (apply R_cell; apply rfl; apply rfl; apply tyT; apply rfl; apply rfl; apply rfl) | (apply R_cellO; apply rfl; apply tyT; apply rfl; assumption; apply rfl))); apply rfl) | (apply end_w _ (.inr rfl); (first | exact List.prefix_append _ _ | assumption | (apply pre_app; assumption) | (apply pre_app; apply pre_set <;> assumption) | exact List.prefix_refl _); (focus repeat (first | apply R_nil | (apply R_tmp; apply rfl) | (apply R_cell; apply rfl; apply rfl; apply tyT; apply rfl; apply rfl; apply rfl) | (apply R_cellO; apply rfl; apply tyT; apply rfl; assumption; apply rfl))); apply rfl; (first | (apply at_set; assumption) | (apply at_old; assumption)); apply rfl; apply rfl) | (apply end_w _ (.inl rfl); (first | exact List.prefix_append _ _ | assumption | (apply pre_app; assumption) | (apply pre_app; apply pre_set <;> assumption) | exact List.prefix_refl _); (focus repeat (first | apply R_nil | (apply R_tmp; apply rfl) | (apply R_cell; apply rfl; apply rfl; apply tyT; apply rfl; apply rfl; apply rfl) | (apply R_cellO; apply rfl; apply tyT; apply rfl; assumption; apply rfl))); apply rfl; (first | (apply at_set; assumption) | (apply at_old; assumption)); apply rfl; apply rfl) | apply p_then | apply p_in | apply p_inN | apply p_inR | apply p_thenR | (apply p_ne; apply rfl) | apply p_thenE | apply d_nil | (apply tV; apply rfl; apply rfl; (first | (apply E_mv; apply rfl) | (apply E_as; apply rfl) | (apply E_fa; (apply plT; apply rfl); apply rfl; apply rfl; decide) | (apply E_fe; (apply plT; apply rfl); apply rfl; apply rfl; decide) | (apply E_lda; (apply tyT; apply rfl); apply rfl; (first | (apply at_; apply rfl; apply rfl) | (apply at_old; assumption) | (apply at_set; assumption)); apply rfl) | (apply E_ld; (apply tyT; apply rfl); apply rfl; (first | (apply at_; apply rfl; apply rfl) | (apply at_old; assumption) | (apply at_set; assumption)); apply rfl) | (apply E_lea; (apply tyT; apply rfl); apply rfl; (first | apply rfl | apply encEx_len | apply encSm_len)) | (apply E_le; (apply tyT; apply rfl); apply rfl; apply rfl) | (apply E_len; (apply elT; apply rfl); apply rfl; apply rfl) | (apply E_lens; (apply udT; apply rfl); apply rfl) | (apply E_ncp; apply rfl) | (apply E_nce; apply rfl) | (apply E_ncf; apply rfl) | (apply E_pkT; apply rfl; apply rfl) | (apply E_pkF; apply rfl; apply rfl) | (apply E_ex; apply rfl; apply rfl) | (apply E_not; apply rfl) | (apply E_bd; (apply plT; apply rfl); apply rfl) | (apply E_mf; apply rfl) | (apply E_cvt; apply rfl; (apply udT; apply rfl); (apply udT; apply rfl)) | (apply E_idx; (apply udT; apply rfl); apply rfl; apply rfl; omega) | (apply E_add64; apply rfl; apply rfl; apply rfl; omega) | (apply E_sub64; apply rfl; apply rfl; apply rfl; omega) | (apply E_add; apply rfl; apply rfl) | (apply E_sub; apply rfl; apply rfl) | (apply E_mul; apply rfl; apply rfl) | (apply E_max; apply rfl; apply rfl) | (apply E_min; apply rfl; apply rfl) | (apply E_and; apply rfl; apply rfl) | (apply E_or; apply rfl; apply rfl) | (apply E_shl; apply rfl; apply rfl; (first | decide | apply u64_nn | omega)) | (apply E_sls; (apply udT; apply rfl); apply rfl; apply rfl; apply rfl; (first | exact .inr ⟨_, _, rfl, by omega, rfl⟩ | exact .inl ⟨rfl, rfl⟩); (first | exact .inr ⟨_, _, rfl, by omega, rfl⟩ | exact .inl ⟨rfl, rfl⟩); (first | omega | (simp only [ByteArray.size_append, ByteArray.size_extract, size_mk, List.size_toArray, List.length_cons, List.length_nil, List.length_append] at *; omega)); (first | omega | (simp only [ByteArray.size_append, ByteArray.size_extract, size_mk, List.size_toArray, List.length_cons, List.length_nil, List.length_append] at *; omega))) | (apply E_cat; apply rfl; apply rfl; (first | omega | (simp only [ByteArray.size_append, ByteArray.size_extract, size_mk, List.size_toArray, List.length_cons, List.length_nil, List.length_append] at *; omega)))); apply rfl) | (apply tVd; apply rfl; apply rfl; (first | (apply E_lss; apply rfl; apply rfl) | (apply E_leq; apply rfl; apply rfl) | (apply E_gtr; apply rfl; apply rfl) | (apply E_geq; apply rfl; apply rfl) | (apply E_eql; apply rfl; apply rfl) | (apply E_neq; apply rfl; apply rfl) | (apply E_seql; apply rfl; apply rfl) | (apply E_sneq; apply rfl; apply rfl)); apply rfl; all_goals intro h_) | (apply tVo; apply rfl; apply rfl) | (apply oV; apply rfl; apply rfl; (first | (apply E_mv; apply rfl) | (apply E_as; apply rfl) | (apply E_fa; (apply plT; apply rfl); apply rfl; apply rfl; decide) | (apply E_fe; (apply plT; apply rfl); apply rfl; apply rfl; decide) | (apply E_lda; (apply tyT; apply rfl); apply rfl; (first | (apply at_; apply rfl; apply rfl) | (apply at_old; assumption) | (apply at_set; assumption)); apply rfl) | (apply E_ld; (apply tyT; apply rfl); apply rfl; (first | (apply at_; apply rfl; apply rfl) | (apply at_old; assumption) | (apply at_set; assumption)); apply rfl) | (apply E_lea; (apply tyT; apply rfl); apply rfl; (first | apply rfl | apply encEx_len | apply encSm_len)) | (apply E_le; (apply tyT; apply rfl); apply rfl; apply rfl) | (apply E_len; (apply elT; apply rfl); apply rfl; apply rfl) | (apply E_lens; (apply udT; apply rfl); apply rfl) | (apply E_ncp; apply rfl) | (apply E_nce; apply rfl) | (apply E_ncf; apply rfl) | (apply E_pkT; apply rfl; apply rfl) | (apply E_pkF; apply rfl; apply rfl) | (apply E_ex; apply rfl; apply rfl) | (apply E_not; apply rfl) | (apply E_bd; (apply plT; apply rfl); apply rfl) | (apply E_mf; apply rfl) | (apply E_cvt; apply rfl; (apply udT; apply rfl); (apply udT; apply rfl)) | (apply E_idx; (apply udT; apply rfl); apply rfl; apply rfl; omega) | (apply E_add64; apply rfl; apply rfl; apply rfl; omega) | (apply E_sub64; apply rfl; apply rfl; apply rfl; omega) | (apply E_add; apply rfl; apply rfl) | (apply E_sub; apply rfl; apply rfl) | (apply E_mul; apply rfl; apply rfl) | (apply E_max; apply rfl; apply rfl) | (apply E_min; apply rfl; apply rfl) | (apply E_and; apply rfl; apply rfl) | (apply E_or; apply rfl; apply rfl) | (apply E_shl; apply rfl; apply rfl; (first | decide | apply u64_nn | omega)) | (apply E_sls; (apply udT; apply rfl); apply rfl; apply rfl; apply rfl; (first | exact .inr ⟨_, _, rfl, by omega, rfl⟩ | exact .inl ⟨rfl, rfl⟩); (first | exact .inr ⟨_, _, rfl, by omega, rfl⟩ | exact .inl ⟨rfl, rfl⟩); (first | omega | (simp only [ByteArray.size_append, ByteArray.size_extract, size_mk, List.size_toArray, List.length_cons, List.length_nil, List.length_append] at *; omega)); (first | omega | (simp only [ByteArray.size_append, ByteArray.size_extract, size_mk, List.size_toArray, List.length_cons, List.length_nil, List.length_append] at *; omega))) | (apply E_cat; apply rfl; apply rfl; (first | omega | (simp only [ByteArray.size_append, ByteArray.size_extract, size_mk, List.size_toArray, List.length_cons, List.length_nil, List.length_append] at *; omega))))) | (apply oVd; apply rfl; apply rfl; (first | (apply E_lss; apply rfl; apply rfl) | (apply E_leq; apply rfl; apply rfl) | (apply E_gtr; apply rfl; apply rfl) | (apply E_geq; apply rfl; apply rfl) | (apply E_eql; apply rfl; apply rfl) | (apply E_neq; apply rfl; apply rfl) | (apply E_seql; apply rfl; apply rfl) | (apply E_sneq; apply rfl; apply rfl)); all_goals intro h_) | (apply oVo; apply rfl; apply rfl) | (apply oW; apply rfl; apply rfl; (first | (apply W_alL; apply rfl; (apply tyT; apply rfl)) | (apply W_bxL; apply rfl; apply rfl; apply rfl) | (apply W_bsL; apply rfl; (apply elT; apply rfl); (apply tyT; apply rfl); apply rfl; decide; apply rfl; apply rfl))) | (apply oS; apply rfl; apply rfl; (first | (apply W_stO2; (apply tyT; apply rfl); apply rfl; apply rfl; assumption; (apply okD_in <;> simp); apply rfl; apply rfl; (first | decide | (apply Nat.le_of_ble_eq_true; rfl))) | (apply W_stL; apply rfl; (apply tyT; apply rfl); apply rfl; apply rfl; apply rfl; (first | (apply okD_new; apply rfl) | (apply okD_ge; omega; apply rfl)); apply rfl; apply rfl; (first | decide | (apply Nat.le_of_ble_eq_true; rfl))) | (apply W_stO; (apply tyT; apply rfl); apply rfl; apply rfl; assumption; (apply okD_in <;> simp); apply rfl; apply rfl; (first | decide | (apply Nat.le_of_ble_eq_true; rfl))))) | (exfalso; omega))
  all_goals first | rfl | contradiction | (exfalso; omega)
end Go.Proofs.YtinffhimfoicdaaGreat

/- A calculus over the model's wp rules, part 23: plain structs held against one another; a fresh box of a call gets the right to append; calls that write one new map. No conditions. -/
namespace Go.Proofs.YtinffhimfoicdaaGreat.Calc
open Go Go.RowKit
set_option linter.unusedVariables false
section
variable {P : Program} {ok okm : Nat → Bool} {o : Oper} {ρ : Rg} {st : St} {Q : Rg → St → Prop} {x y : Operand}
theorem opR_bin {f : BinOp} {t ty : Nat} {a b : Value} {br : BV} (ho : o.op = .binOp f t x y ty) (hx : (evB ρ x).bind keyB = some a) (hy : (evB ρ y).bind keyB = some b) (hv : (quiet P (do eqGuard f t x y a b; binOp f t a b)).bind constB = some br) (hq : Q (updO ρ o.dst br) st) : OpR P ok okm o ρ st Q := by
  intro nt z c Kx h1 h2 h3 h4
  subst h1
  obtain ⟨bx, hx1, hx2⟩ := Option.bind_eq_some_iff.1 hx
  have hax := keyB_rep (h3.ev hx1) hx2
  obtain ⟨by', hy1, hy2⟩ := Option.bind_eq_some_iff.1 hy
  have hay := keyB_rep (h3.ev hy1) hy2
  obtain ⟨v, hv, hb⟩ := quietB (x := z) hv
  have hrun : (execOp c.eval o).run P z.w = .ok (.value v) z.w := by
    obtain ⟨dst, op, type, pos, after, guard⟩ := o
    subst ho
    rw [show (execOp c.eval { dst := dst, op := .binOp f t x y ty, type := type, pos := pos, after := after, guard := guard }) = (do let z ← (do eqGuard f t x y (c.eval x) (c.eval y); binOp f t (c.eval x) (c.eval y)); pure (.value z)) from rfl, hax, hay, Sem.run_bind, hv]
    simp
  unfold Oper.wp
  rw [hrun]
  exact ⟨_, z, [], [], rfl, hq, h2, Step.refl _ _ _, by simp, by simp, h3.put h4 hb⟩
end
theorem run_bs0 {P : Program} {w : World} {t e : Nat} {i : TypeInfo} (ht : P.underlying t = some (.slice e)) (hi : P.info? e = some i) : (Instr.buildSlice t 0 #[]).run P w = .ok (.slice (some ⟨w.heap.size, 0, none⟩) 0 0) (w.alloc (.cells #[] e)) := by
  have h2 : ¬ 0 * i.size > 2 ^ 24 := by omega
  have h1 : 0 * i.size = 0 := Nat.zero_mul _
  simp [Instr.buildSlice, run_und ht, run_size hi, Instr.fill, newRow]
  have e0 : ∀ f : Nat → Value, Array.map f (Array.range 0) = #[] := fun f => Array.eq_empty_of_size_eq_zero (by simp)
  rw [e0]
/-- An empty list that is made. -/
theorem opR_bs0 {P : Program} {ok okm : Nat → Bool} {o : Oper} {ρ : Rg} {S : List (List BV × Nat)} {T X : List Nat} {M : List (List (Value × DV))} {Q : Rg → St → Prop} {t e sz nt : Nat} (ho : o.op = .buildSlice t 0 #[]) (hT : T.length = nt) (he : elOf P t = some (e, sz))
    (hq : Q (updO ρ o.dst (.own e sz (nt + X.length) [] 0)) ⟨S, T ++ (X ++ [0]), M⟩) : OpR P ok okm o ρ ⟨S, T ++ X, M⟩ Q := by
  intro nt' y a Kx h1 h2 h3 h4
  obtain ⟨g1, ti, g2, g3⟩ := elOf_some he
  have hgr := alloc_grown y.w (.cells #[] e)
  have hrun : (execOp a.eval o).run P y.w = .ok (.value (.slice (some ⟨y.w.heap.size, 0, none⟩) 0 0)) (y.w.alloc (.cells #[] e)) := by
    obtain ⟨dst, op, type, pos, after, guard⟩ := o
    subst ho
    simp [execOp, run_bs0 g1 g2]
  unfold Oper.wp
  rw [hrun]
  have hrep := row_rep (x := y) (cur := #[]) (e := e) (sz := sz) (n := 0) (cap := 0) (ds := []) (vs := []) h2 hgr rfl .nil (by simp) (by simp) (Nat.le_refl _) (Nat.zero_le _) (by simp)
  refine ⟨_, rowed y _ 0, [], [], rfl, ?_, row_good h2 hgr, row_step h2 hgr, by simp, by simp, (h3.step (row_step h2 hgr)).put h4 hrep⟩
  have e1 : y.st.T.length = nt + X.length := by rw [h1, ← hT]; exact List.length_append
  rw [e1]
  have e2 : ∀ w', (rowed y w' 0).st = ⟨S, T ++ (X ++ [0]), M⟩ := fun w' => by
    show (⟨y.st.S, y.st.T ++ [0], y.st.M⟩ : St) = _
    rw [h1, List.append_assoc]
  rw [e2]
  exact hq
theorem call_ownBox {P : Program} {Wr Wm : List Nat} {f : Nat} {args : List BV} {st : St} {Q : BV → St → Prop} (e sz : Nat)
    (h : CallT P Wr Wm f args st (fun r s => ∃ id cs ty j, s.S[id]? = some (cs, ty) ∧ cs[j]? = some (.tight [] 0) ∧ Q r ⟨s.S.set id (cs.set j (.own e sz s.T.length [] 0), ty), s.T ++ [0], s.M⟩)) : CallT P Wr Wm f args st Q := by
  intro x vs h1 h2 h3
  refine (h x vs h1 h2 h3).mono fun ex w' ⟨r, v, z, e1, ⟨id, cs, ty, j, q1, q2, q3⟩, hv, hg, hs, hw⟩ => ?_
  have g1 := tagged_good hg
  have hid1 : (tagged z).st.S[id]? = some (cs, ty) := q1
  have g2 : Good (boxSet (tagged z) id (cs.set j (.own e sz z.st.T.length [] 0), ty)) := boxSet_good g1 hid1 fun vs hvs => by
    refine hvs.setAt fun v hv => ?_
    obtain ⟨w, hw1, hw2⟩ := hvs.get q2
    obtain rfl := Option.some.inj (hv.symm.trans hw1)
    cases hw2 with
    | tight _ _ base hb => exact .own e sz _ [] 0 0 _ hb (by simp [tagged]) (Nat.le_refl _) (fun _ => .inr ⟨by simp [tagged], rfl, rfl, base, rfl⟩)
  have hst := (tagged_step z).trans (boxSet_le (tagged z) id (cs.set j (.own e sz z.st.T.length [] 0), ty))
  exact ⟨r, v, _, e1, q3, hv.mono hst, g2, hs.trans' hst (fun i hi _ => by cases hi) (fun i hi _ => by cases hi), hw⟩
section
variable {C : Cx} {ops : Array Oper} {l : List Oper} {ρ : Rg} {st : St} {Q : Rg → St → Prop} {dst : Option Nat} {op : Op} {ty : Nat} {pos : String} {aft : Array Edge} {g : Option (Nat × Bool)} {Wr ds : List Nat} {p : Plan} {i : Nat}
theorem VcM {c : Call} {f : Nat} {ars : List BV} {R : BV → St → Prop} (hg : gB ops ρ g = some true) (hc : callB ρ c = some (f, ars)) (hf : fnOK C.P f = true) (h : ∃ m, C.nm ≤ m ∧ CallT C.P [] [m] f ars st R)
    (k : ∀ r st', R r st' → TriL C ops l (updO ρ dst r) st' Q) : TriL C ops (⟨dst, .call c, ty, pos, aft, g⟩ :: l) ρ st Q := by
  obtain ⟨m, hm, h⟩ := h
  exact Vc hg hc hf h (by simp) (fun i hi _ => by obtain rfl := List.mem_singleton.1 hi; simp [okM, hm]) k
theorem oCM {c : Call} {f : Nat} {ars : List BV} {R : BV → St → Prop} (ho : ops[i]? = some ⟨dst, .call c, ty, pos, aft, g⟩) (hg : gB ops ρ g = some true) (hc : callB ρ c = some (f, ars)) (hf : fnOK C.P f = true) (h : ∃ m, C.nm ≤ m ∧ CallT C.P [] [m] f ars st R)
    (k : ∀ r st', R r st' → TriP C ops Wr ds p (updO ρ dst r) st' Q) : TriP C ops Wr ds (.one i p) ρ st Q := by
  obtain ⟨m, hm, h⟩ := h
  exact oC ho hg hc hf h (by simp) (fun i hi _ => by obtain rfl := List.mem_singleton.1 hi; simp [okM, hm]) k
end
theorem E_fdv {P : Program} {st : St} {ρ : Rg} {x : Operand} {t f u off sz : Nat} {ag : Bool} {z l : List BV} {b : BV} (hx : evB ρ x = some (.agg l)) (hf : fdOf P t f = some (u, off)) (ht : tyOf P u = some (ag, sz, z)) (hp : part ag sz off l = some b) : stepV P st ρ (.field t x f) = some b := by
  simp only [stepV, hx, hf, ht, hp]
end Go.Proofs.YtinffhimfoicdaaGreat.Calc
