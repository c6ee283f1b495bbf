/- Texts of the claim, merged: FU. No conditions. -/
import Derived.Test.YtokilnhpepbjlaaGreatPg6
import Derived.Test.YtokilnhpepbjlaaGreatPg2
namespace Go.Proofs.YtokilnhpepbjlaaGreat
open Go Go.RowKit Go.Proofs.YtokilnhpepbjlaaGreat.Calc
set_option linter.unusedVariables false
theorem chk1_base {p : List Cl} : ∀ {l : List Cl} {i : Nat},chk1 p l i = none → ∀ c ∈ l,inS BS c.name = false
  | [],i,h,c,hc => by cases hc
  | x :: l,i,h,c,hc => by
    rw [chk1] at h
    by_cases hq : inS BS x.name = true ∨ findI p x.name ≠ i
    · rw [if_pos hq] at h;cases h
    · rw [if_neg hq] at h
      rcases List.mem_cons.1 hc with rfl | hc
      · exact Bool.eq_false_iff.2 fun e => hq (.inl e)
      · exact chk1_base h c hc
theorem chk2_none {p : List Cl} : ∀ {l : List Cl} {i : Nat},chk2 p l i = none → ∀ c ∈ l,c.super = NIL ∨ (isC p c.super = true ∧ isC p (supC p (lastS (chC p c.name))) = false)
  | [],i,h,c,hc => by cases hc
  | x :: l,i,h,c,hc => by
    rw [chk2] at h
    by_cases h1 : x.super = NIL
    · rw [if_pos h1] at h
      rcases List.mem_cons.1 hc with rfl | hc
      · exact .inl h1
      · exact chk2_none h c hc
    · rw [if_neg h1] at h
      by_cases h2 : isC p x.super = false
      · rw [if_pos h2] at h;cases h
      · rw [if_neg h2] at h
        by_cases h3 : isC p (supC p (lastS (chC p x.name))) = true
        · rw [if_pos h3] at h;cases h
        · rw [if_neg h3] at h
          rcases List.mem_cons.1 hc with rfl | hc
          · exact .inr ⟨by simpa using h2,by simpa using h3⟩
          · exact chk2_none h c hc
theorem checkC_parts {p : List Cl} (h : (checkC p).1 = 0) : chk1 p p 0 = none ∧ chk2 p p 0 = none := by
  unfold checkC at h
  rcases h1 : chk1 p p 0 with _ | i
  · rw [h1] at h
    refine ⟨rfl,?_⟩
    rcases h2 : chk2 p p 0 with _ | r
    · rfl
    · rw [h2] at h
      exfalso
      have key : ∀ (l : List Cl) (i : Nat) (r : Int × Nat),chk2 p l i = some r → r.1 = 7 ∨ r.1 = 8 := by
        intro l
        induction l with
        | nil => intro i r h;cases h
        | cons x l ih =>
          intro i r h
          rw [chk2] at h
          split at h
          · exact ih _ _ h
          split at h
          · obtain rfl := Option.some.inj h;exact .inl rfl
          split at h
          · obtain rfl := Option.some.inj h;exact .inr rfl
          · exact ih _ _ h
      have h3 := key p 0 r h2
      dsimp only at h
      omega
  · rw [h1] at h
    exact absurd h (show ¬ (6 : Int) = 0 by decide)
theorem nil_no {p : List Cl} (h : NE p) : isC p NIL = false := by
  unfold isC
  rw [show inS BS NIL = false by decide,Bool.false_or,decide_eq_false_iff_not]
  intro h0
  obtain ⟨j,hj,_,e⟩ := fi_mem h0
  have h1 := h _ (List.getElem_mem hj)
  rw [e] at h1
  exact absurd h1 (by decide)
theorem sup_eq {p : List Cl} (hC : (checkC p).1 = 0) {k : Nat} {c : Cl} (hc : p[k]? = some c) : supC p c.name = c.super := by
  have h1 := (checkC_parts hC).1
  have h2 := chk1_none h1 k c hc
  unfold supC
  rw [chk1_base h1 c (List.mem_of_getElem? hc),if_neg (by decide),h2,if_neg (by omega)]
  unfold clAt
  rw [show (((0 + k : Nat) : Int)).toNat = k by omega,hc]
  rfl
theorem Walk.pre {l : List Cl} {a z y : ByteArray} {T R : List ByteArray} (h : Walk l a T y) (hz : isC l z = false) (h' : Walk l a R z) : ∃ R',R = T ++ R' ∧ Walk l y R' z := by
  induction h generalizing R with
  | here a => exact ⟨R,rfl,h'⟩
  | up hi _ ih =>
    cases h' with
    | here => rw [hz] at hi;cases hi
    | up _ hw' =>
      obtain ⟨R',e,h2⟩ := ih hw'
      exact ⟨R',by rw [e];rfl,h2⟩
theorem no_round {l : List Cl} {y z x : ByteArray} {T : List ByteArray} (h : Walk l y (x :: T) y) (hz : isC l z = false) : ∀ (n : Nat) (R : List ByteArray),R.length ≤ n → ¬ Walk l y R z
  | 0,R,hn,h' => by
    obtain ⟨R',e,h2⟩ := h.pre hz h'
    rw [e] at hn
    simp at hn
  | n + 1,R,hn,h' => by
    obtain ⟨R',e,h2⟩ := h.pre hz h'
    rw [e,List.length_append,List.length_cons] at hn
    exact no_round h hz n R' (by omega) h2
theorem ch_of {l : List Cl} {a z : ByteArray} {T : List ByteArray} (h : Walk l a T z) (hz : isC l z = false) : chC l a = T := by
  obtain ⟨z',hw,hz',hn⟩ := ch_walk l a
  rcases hz' with hz' | hz'
  · exact (hw.det hz' h hz).1
  · exfalso
    obtain ⟨T1,T2,e,h2⟩ := hw.mem hz'
    obtain ⟨R',e2,h3⟩ := hw.pre hz h
    exact no_round h2 hz _ R' (Nat.le_refl _) h3
theorem ch_step {p : List Cl} (hC : (checkC p).1 = 0) (hN : NE p) {k : Nat} {c : Cl} (hc : p[k]? = some c) : chC p c.name = c.name :: chC p c.super := by
  have hi := cls_is hc
  have hs := sup_eq hC hc
  obtain ⟨z,hw,hz,hn⟩ := ch_walk p c.name
  obtain ⟨T,hT⟩ := ch_self hi
  have hlast := hw.last (by rw [hT];exact List.cons_ne_nil _ _)
  rw [hT] at hw
  cases hw with
  | up _ hw =>
    rw [hs] at hw
    have hzf : isC p z = false := by
      rcases chk2_none (checkC_parts hC).2 c (List.mem_of_getElem? hc) with h | ⟨_,h⟩
      · rw [h] at hw
        cases hw with
        | here => exact nil_no hN
        | up hi2 _ => rw [nil_no hN] at hi2;cases hi2
      · rw [← hlast];exact h
    rw [hT,ch_of hw hzf]
theorem sup_is {p : List Cl} (hC : (checkC p).1 = 0) {k : Nat} {c : Cl} (hc : p[k]? = some c) (h : c.super ≠ NIL) : isC p c.super = true := by
  rcases chk2_none (checkC_parts hC).2 c (List.mem_of_getElem? hc) with h2 | ⟨h2,_⟩
  · exact absurd h2 h
  · exact h2
def cntF : List Fi → Nat
  | [] => 0
  | f :: l => if f.static = true then cntF l else cntF l + 1
theorem cnt_drop {l : List Fi} {j : Nat} {f : Fi} (h : l[j]? = some f) : cntF (l.drop j) = if f.static = true then cntF (l.drop (j + 1)) else cntF (l.drop (j + 1)) + 1 := by
  obtain ⟨hj,e⟩ := List.getElem?_eq_some_iff.1 h
  rw [List.drop_eq_getElem_cons hj,cntF,e]
theorem alF_len (c : ByteArray) : ∀ (l : List Fi) (j : Nat),(alF c l j).length = cntF l
  | [],j => rfl
  | f :: l,j => by
    rw [alF,cntF]
    split
    · exact alF_len c l (j + 1)
    · rw [List.length_cons,alF_len c l (j + 1)]
theorem cnt_le : ∀ l : List Fi,cntF l ≤ l.length
  | [] => Nat.le_refl _
  | f :: l => by
    have := cnt_le l
    rw [cntF,List.length_cons]
    split <;> omega
theorem alF_mem (c : ByteArray) : ∀ (l : List Fi) (j : Nat) (t : Tq),t ∈ alF c l j → t.own = c ∧ ∃ n : Nat,t.nth = ((j + n : Nat) : Int) ∧ ∃ f,l[n]? = some f ∧ f.static = false
  | [],j,t,h => by cases h
  | f :: l,j,t,h => by
    rw [alF] at h
    by_cases hs : f.static = true
    · rw [if_pos hs] at h
      obtain ⟨h1,n,h2,g,h3,h4⟩ := alF_mem c l (j + 1) t h
      exact ⟨h1,n + 1,by rw [h2];congr 1;omega,g,h3,h4⟩
    · rw [if_neg hs] at h
      rcases List.mem_cons.1 h with rfl | h
      · exact ⟨rfl,0,rfl,f,rfl,by simpa using hs⟩
      · obtain ⟨h1,n,h2,g,h3,h4⟩ := alF_mem c l (j + 1) t h
        exact ⟨h1,n + 1,by rw [h2];congr 1;omega,g,h3,h4⟩
theorem alF_low (c : ByteArray) (l : List Fi) (j : Nat) (t : Tq) (h : t ∈ alF c l j) : (j : Int) ≤ t.nth := by
  obtain ⟨_,n,h2,_⟩ := alF_mem c l j t h
  omega
theorem alF_up (c : ByteArray) : ∀ (l : List Fi) (j i : Nat) (s t : Tq),(alF c l j)[i]? = some s → (alF c l j)[i + 1]? = some t → s.nth < t.nth
  | [],j,i,s,t,h,_ => by simp [alF] at h
  | f :: l,j,i,s,t,h,h2 => by
    rw [alF] at h h2
    by_cases hs : f.static = true
    · rw [if_pos hs] at h h2
      exact alF_up c l (j + 1) i s t h h2
    · rw [if_neg hs] at h h2
      cases i with
      | zero =>
        obtain rfl : _ = s := Option.some.inj h
        have := alF_low c l (j + 1) t (List.mem_of_getElem? (by simpa using h2))
        dsimp only
        omega
      | succ i => exact alF_up c l (j + 1) i s t (by simpa using h) (by simpa using h2)
theorem allL_app (p : List Cl) : ∀ l m : List ByteArray,allL p (l ++ m) = allL p l ++ allL p m
  | [],m => rfl
  | c :: l,m => by rw [List.cons_append,allL,allL,allL_app p l m,List.append_assoc]
theorem all_split {p : List Cl} (hC : (checkC p).1 = 0) (hN : NE p) {k : Nat} {c : Cl} (hc : p[k]? = some c) : allL p (chC p c.name).reverse = allL p (chC p c.super).reverse ++ alF c.name c.fields 0 := by
  rw [ch_step hC hN hc,List.reverse_cons,allL_app,allL,allL,List.append_nil,classC_self hC hc]
theorem up_nil {p : List Cl} (hN : NE p) {c : Cl} (h : c.super = NIL) : allL p (chC p c.super).reverse = [] := by
  rw [h,ch_none (nil_no hN)]
  rfl
end Go.Proofs.YtokilnhpepbjlaaGreat
