/- KinKids, in plain Lean: who is below has one in its chain behind itself, and nobody else. -/
import Derived.Test.YtddggdhkhfephaaQx5
import Derived.Test.YtddggdhkhfephaaPureKinOrders
namespace Go.Proofs.Ytddggdhkhfephaa.Pure
open Go Go.RowKit Go.Proofs.Ytddggdhkhfephaa Go.Proofs.Ytddggdhkhfephaa.Q Go.Proofs.YtddggdhkhfephaaW.PrintWords Go.Proofs.YtddggdhkhfephaaW.PrintLast

def kid (l : List S34) (x : ByteArray) (c : S34) : Bool := decide (x ∈ (ch l c.f0).drop 1)
def kids (l : List S34) (x : ByteArray) (r : List S34) : List ByteArray := (r.filter (kid l x)).map (·.f0)
theorem kids_cons (l : List S34) (x : ByteArray) (c : S34) (r : List S34) : kids l x (c :: r) = if kid l x c = true then c.f0 :: kids l x r else kids l x r := by
  unfold kids; rw [List.filter_cons]; split <;> rfl
theorem rd34 {l : List S34} {i : Nat} (h : i < l.length) : rd_T34 l (i : Int) = l[i] := by
  unfold rd_T34; rw [Int.toNat_natCast, List.getD_eq_getElem?_getD, List.getElem?_eq_getElem h]; rfl
theorem kids_go (l : List S34) (hl : SM l) (x : ByteArray) : ∀ (m i : Nat) (acc : List ByteArray), i + m = l.length → acc.length ≤ i → Ev (fun k => kin_Kids.l0 k x acc l (l.length : Int) (i : Int) l) (acc ++ kids l x (l.drop i))
  | 0, i, acc, h, ha => by
    rw [List.drop_of_length_le (by omega)]
    refine Ev.step (f := fun _ => some acc) (fun k => by simp only [kin_Kids.l0]; rw [if_neg (by omega)]) ?_
    simpa [kids] using Ev.now acc
  | m + 1, i, acc, h, ha => by
    have hi : i < l.length := by omega
    have hl' : l.length ≤ 1000000 := hl
    have hd : l.drop i = l[i] :: l.drop (i + 1) := List.drop_eq_getElem_cons hi
    have hself : (l[i]).f0 ∈ ch l (l[i]).f0 := ch_self (mem_is (List.getElem_mem hi))
    have hpos := List.length_pos_of_mem hself
    have hroom := ch_room l (l[i]).f0
    have hw : wrap64 ((i : Int) + 1) = ((i + 1 : Nat) : Int) := by rw [IntWalk.wrap64_in _ (by omega)]; rfl
    refine Ev.step (f := fun k => (kin_Chain.f k l (l[i]).f0).bind fun t145 => (if (t145.length : Int) > 0 then (if 1 ≤ (t145.length : Int) then ((slices_Contains_string_string.f k (t145.drop 1) x).bind fun t152 => (if t152 = true then (if acc.length < 8796093022208 then (kin_Kids.l0 k x (acc ++ [(l[i]).f0]) l (l.length : Int) ((i + 1 : Nat) : Int) l) else (none)) else (kin_Kids.l0 k x acc l (l.length : Int) ((i + 1 : Nat) : Int) l))) else (none)) else (kin_Kids.l0 k x acc l (l.length : Int) ((i + 1 : Nat) : Int) l))) (fun k => ?_) ?_
    · simp only [kin_Kids.l0]
      rw [if_pos (by omega), if_pos (by omega), if_pos (by omega), rd34 hi, hw]
    refine Ev.bind (f := fun k t145 => (if (t145.length : Int) > 0 then (if 1 ≤ (t145.length : Int) then ((slices_Contains_string_string.f k (t145.drop 1) x).bind fun t152 => (if t152 = true then (if acc.length < 8796093022208 then (kin_Kids.l0 k x (acc ++ [(l[i]).f0]) l (l.length : Int) ((i + 1 : Nat) : Int) l) else (none)) else (kin_Kids.l0 k x acc l (l.length : Int) ((i + 1 : Nat) : Int) l))) else (none)) else (kin_Kids.l0 k x acc l (l.length : Int) ((i + 1 : Nat) : Int) l))) (chain_ev l (l[i]).f0 hl) ?_
    refine Ev.congr (f := fun k => (slices_Contains_string_string.f k ((ch l (l[i]).f0).drop 1) x).bind fun t152 => (if t152 = true then (if acc.length < 8796093022208 then (kin_Kids.l0 k x (acc ++ [(l[i]).f0]) l (l.length : Int) ((i + 1 : Nat) : Int) l) else (none)) else (kin_Kids.l0 k x acc l (l.length : Int) ((i + 1 : Nat) : Int) l))) (fun k => by rw [if_pos (by omega), if_pos (by omega)]) ?_
    refine Ev.bind (f := fun k t152 => (if t152 = true then (if acc.length < 8796093022208 then (kin_Kids.l0 k x (acc ++ [(l[i]).f0]) l (l.length : Int) ((i + 1 : Nat) : Int) l) else (none)) else (kin_Kids.l0 k x acc l (l.length : Int) ((i + 1 : Nat) : Int) l))) (contains_ev ((ch l (l[i]).f0).drop 1) x (by rw [List.length_drop]; omega)) ?_
    rw [hd, kids_cons]
    by_cases hk : kid l x l[i] = true
    · rw [if_pos hk]
      refine Ev.congr (f := fun k => kin_Kids.l0 k x (acc ++ [(l[i]).f0]) l (l.length : Int) ((i + 1 : Nat) : Int) l) (fun k => by rw [if_pos (by unfold kid at hk; exact hk), if_pos (by omega)]) ?_
      have := kids_go l hl x m (i + 1) (acc ++ [(l[i]).f0]) (by omega) (by simp; omega)
      rw [List.append_assoc] at this
      exact this
    · rw [if_neg hk]
      refine Ev.congr (f := fun k => kin_Kids.l0 k x acc l (l.length : Int) ((i + 1 : Nat) : Int) l) (fun k => by rw [if_neg (by unfold kid at hk; exact hk)]) ?_
      exact kids_go l hl x m (i + 1) acc (by omega) (by omega)
theorem kids_ev (l : List S34) (hl : SM l) (x : ByteArray) : Ev (fun k => kin_Kids.f k l x) (kids l x l) := by
  have := kids_go l hl x l.length 0 [] (by omega) (by simp)
  rwa [List.nil_append, List.drop_zero] at this

theorem Clean.inj {l : List S34} (c : Clean l) {i j : Nat} (hi : i < l.length) (hj : j < l.length) (e : (l[i]).f0 = (l[j]).f0) : i = j := by
  have h1 := c.at i hi
  have h2 := c.at j hj
  rw [e] at h1; omega
theorem kid_iff {l : List S34} (g : Good l) {x : ByteArray} {c : S34} (hc : c ∈ l) : kid l x c = true ↔ x ≠ c.f0 ∧ x ∈ ch l c.f0 := by
  unfold kid
  have hb := mem_is hc
  obtain ⟨z, hw, hz⟩ := g c.f0 hb
  obtain ⟨T, e⟩ := hw.head hb hz
  obtain ⟨_, _, _, hnd⟩ := ch_walk l c.f0
  rw [e] at hnd ⊢
  have h1 := (List.nodup_cons.1 hnd).1
  rw [decide_eq_true_iff, List.drop_one, List.tail_cons, List.mem_cons]
  constructor
  · intro h; exact ⟨fun e => h1 (e ▸ h), .inr h⟩
  · rintro ⟨h, h'⟩; exact h'.resolve_left h
theorem kids_loop (l : List S34) (hl : SM l) (hn : Named l) (c : Clean l) (g : Good l) (p : Nat) (hp : p < l.length) (K : List ByteArray) (hK : K.length ≤ 1000000) :
    ∀ (m i : Nat) (pre : List ByteArray), i + m = l.length → K = pre ++ kids l (l[p]).f0 (l.drop i) → Ev (fun k => changelinglaw6_KinKids.l0 k (l[p]).f0 K (pre.length : Int) (i : Int) l) true
  | 0, i, pre, h, e => by
    have hl' : l.length ≤ 1000000 := hl
    rw [List.drop_of_length_le (by omega)] at e
    have e' : K.length = pre.length := by rw [e]; simp [kids]
    have hx := mem_is (List.getElem_mem hp)
    obtain ⟨z, hw, hz⟩ := g _ hx
    obtain ⟨T, eT⟩ := hw.head hx hz
    have hlen : ((ch l (l[p]).f0).length : Int) = (T.length : Int) + 1 := by rw [eT]; simp
    refine Ev.step (f := fun k => (kin_Chain.f k l (l[p]).f0).bind fun t225 => ((changelinglaw6_told.f k).bind fun t228 => (if t228 = true then (if (pre.length : Int) = (K.length : Int) then (if (t225.length : Int) > 0 then (if 0 < (t225.length : Int) then (if (rdOf ByteArray.empty t225 0).toList = (l[p]).f0.toList then ((kin_Super.f k l (l[p]).f0).bind fun t230 => (some (((t225.length : Int) == 1) == (t230.toList == ([] : List UInt8))))) else (none)) else (none)) else (none)) else (none)) else (none)))) (fun k => by simp only [changelinglaw6_KinKids.l0]; rw [if_neg (by omega)]) ?_
    refine Ev.bind (f := fun k t225 => ((changelinglaw6_told.f k).bind fun t228 => (if t228 = true then (if (pre.length : Int) = (K.length : Int) then (if (t225.length : Int) > 0 then (if 0 < (t225.length : Int) then (if (rdOf ByteArray.empty t225 0).toList = (l[p]).f0.toList then ((kin_Super.f k l (l[p]).f0).bind fun t230 => (some (((t225.length : Int) == 1) == (t230.toList == ([] : List UInt8))))) else (none)) else (none)) else (none)) else (none)) else (none)))) (chain_ev l (l[p]).f0 hl) ?_
    refine Ev.bind (f := fun k t228 => (if t228 = true then (if (pre.length : Int) = (K.length : Int) then (if ((ch l (l[p]).f0).length : Int) > 0 then (if 0 < ((ch l (l[p]).f0).length : Int) then (if (rdOf ByteArray.empty (ch l (l[p]).f0) 0).toList = (l[p]).f0.toList then ((kin_Super.f k l (l[p]).f0).bind fun t230 => (some ((((ch l (l[p]).f0).length : Int) == 1) == (t230.toList == ([] : List UInt8))))) else (none)) else (none)) else (none)) else (none)) else (none))) told_ev ?_
    refine Ev.congr (f := fun k => (kin_Super.f k l (l[p]).f0).bind fun t230 => (some ((((ch l (l[p]).f0).length : Int) == 1) == (t230.toList == ([] : List UInt8))))) (fun k => ?_) ?_
    · rw [if_pos rfl, if_pos (by omega), if_pos (by omega), if_pos (by omega), if_pos (by rw [eT]; rfl)]
    refine Ev.bind (f := fun k t230 => (some ((((ch l (l[p]).f0).length : Int) == 1) == (t230.toList == ([] : List UInt8))))) (super_ev l (l[p]).f0 hl) ?_
    refine Ev.congr (fun k => ?_) (Ev.now _)
    congr 1
    have hs := sup_at c p hp
    rw [hlen]
    rcases c.two _ (List.getElem_mem hp) with h0 | ⟨h1, _⟩
    · rw [h0] at hs
      have : T = [] := by
        rw [eT] at hw
        cases hw with
        | up _ hw =>
          rw [hs] at hw
          cases hw with
          | here => rfl
          | up hi _ => rw [nil_not hn] at hi; cases hi
      rw [hs, this, show NIL.toList = [] from list_nil.2 rfl]; rfl
    · have hT : T ≠ [] := by
        rintro rfl
        rw [eT] at hw
        cases hw with
        | up _ hw => cases hw with
          | here => rw [hs, h1] at hz; cases hz
      have hne : (l[p]).f1 ≠ NIL := by intro e; rw [e, nil_not hn] at h1; cases h1
      have hTl := List.length_pos_iff.2 hT
      rw [hs, beq_eq_false_iff_ne.2 (show (T.length : Int) + 1 ≠ 1 by omega), beq_eq_false_iff_ne.2 (show (l[p]).f1.toList ≠ [] from fun h => hne (list_nil.1 h))]; rfl
  | m + 1, i, pre, h, e => by
    have hi : i < l.length := by omega
    have hl' : l.length ≤ 1000000 := hl
    have hd : l.drop i = l[i] :: l.drop (i + 1) := List.drop_eq_getElem_cons hi
    rw [hd, kids_cons] at e
    have hmem : l[i] ∈ l := List.getElem_mem hi
    have hb := mem_is hmem
    have hnn := (five (hn _ hmem)).2.1
    have hwi : wrap64 ((i : Int) + 1) = ((i + 1 : Nat) : Int) := by rw [IntWalk.wrap64_in _ (by omega)]; rfl
    have hsub := sub_ev l (l[i]).f0 (l[p]).f0 hl hb hnn
    by_cases hk : kid l (l[p]).f0 l[i] = true
    · rw [if_pos hk] at e
      obtain ⟨h1, h2⟩ := (kid_iff g hmem).1 hk
      have hat : pre.length < K.length := by rw [e]; simp
      have hwa : wrap64 ((pre.length : Int) + 1) = ((pre ++ [(l[i]).f0]).length : Int) := by rw [IntWalk.wrap64_in _ (by omega)]; simp
      have hr : rdOf ByteArray.empty K (pre.length : Int) = (l[i]).f0 := by unfold rdOf; rw [Int.toNat_natCast, e, List.getD_eq_getElem?_getD, List.getElem?_append_right (Nat.le_refl _), Nat.sub_self]; rfl
      refine Ev.step (f := fun k => changelinglaw6_KinKids.j2 k (l[p]).f0 K (pre.length : Int) (i : Int) (l[i]).f0 true l) (fun k => ?_) ?_
      · simp only [changelinglaw6_KinKids.l0]
        rw [if_pos (by omega), if_pos (by omega), if_pos (by omega), if_pos (by omega), rd34 hi, hr, beq_self_eq_true]
      refine Ev.step (f := fun k => (kin_Sub.f k l (l[i]).f0 (l[p]).f0).bind fun t233 => (if (true != t233) = true then (none) else (changelinglaw6_KinKids.l0 k (l[p]).f0 K ((pre ++ [(l[i]).f0]).length : Int) ((i + 1 : Nat) : Int) l))) (fun k => ?_) ?_
      · simp only [changelinglaw6_KinKids.j2]
        rw [if_pos trivial, if_neg (by rw [list_inj]; exact fun e => h1 e.symm), hwa, hwi]
      rw [decide_eq_true h2] at hsub
      refine Ev.bind (f := fun k t233 => (if (true != t233) = true then (none) else (changelinglaw6_KinKids.l0 k (l[p]).f0 K ((pre ++ [(l[i]).f0]).length : Int) ((i + 1 : Nat) : Int) l))) hsub ?_
      refine Ev.congr (fun k => if_neg (by decide)) ?_
      exact kids_loop l hl hn c g p hp K hK m (i + 1) (pre ++ [(l[i]).f0]) (by omega) (by rw [e, List.append_assoc]; rfl)
    · rw [if_neg hk] at e
      have hnext := kids_loop l hl hn c g p hp K hK m (i + 1) pre (by omega) e
      have hJ : Ev (fun k => changelinglaw6_KinKids.j2 k (l[p]).f0 K (pre.length : Int) (i : Int) (l[i]).f0 false l) true := by
        by_cases e1 : (l[i]).f0 = (l[p]).f0
        · refine Ev.step (f := fun k => changelinglaw6_KinKids.l0 k (l[p]).f0 K (pre.length : Int) ((i + 1 : Nat) : Int) l) (fun k => ?_) hnext
          simp only [changelinglaw6_KinKids.j2]
          rw [if_neg (by decide), if_pos (by rw [e1]), if_neg (by decide), hwi]
        · refine Ev.step (f := fun k => (kin_Sub.f k l (l[i]).f0 (l[p]).f0).bind fun t234 => (if (false != t234) = true then (none) else (changelinglaw6_KinKids.l0 k (l[p]).f0 K (pre.length : Int) ((i + 1 : Nat) : Int) l))) (fun k => ?_) ?_
          · simp only [changelinglaw6_KinKids.j2]
            rw [if_neg (by decide), if_neg (by rw [list_inj]; exact e1), hwi]
          rw [decide_eq_false (fun h => hk ((kid_iff g hmem).2 ⟨fun e => e1 e.symm, h⟩))] at hsub
          refine Ev.bind (f := fun k t234 => (if (false != t234) = true then (none) else (changelinglaw6_KinKids.l0 k (l[p]).f0 K (pre.length : Int) ((i + 1 : Nat) : Int) l))) hsub ?_
          exact Ev.congr (fun k => if_neg (by decide)) hnext
      refine Ev.step (f := fun k => changelinglaw6_KinKids.j2 k (l[p]).f0 K (pre.length : Int) (i : Int) (l[i]).f0 false l) (fun k => ?_) hJ
      simp only [changelinglaw6_KinKids.l0]
      rw [if_pos (by omega), if_pos (by omega), rd34 hi]
      by_cases hat : pre.length < K.length
      · rw [if_pos (by omega), if_pos (by omega)]
        have hne : rdOf ByteArray.empty K (pre.length : Int) ≠ (l[i]).f0 := by
          intro h'
          have hm : rdOf ByteArray.empty K (pre.length : Int) ∈ kids l (l[p]).f0 (l.drop (i + 1)) := by
            unfold rdOf
            rw [Int.toNat_natCast, e, List.getD_eq_getElem?_getD, List.getElem?_append_right (Nat.le_refl _), Nat.sub_self]
            have hpos : 0 < (kids l (l[p]).f0 (l.drop (i + 1))).length := by
              have := congrArg List.length e
              rw [List.length_append] at this; omega
            rw [List.getElem?_eq_getElem hpos]
            exact List.getElem_mem hpos
          rw [h'] at hm
          unfold kids at hm
          obtain ⟨y, hy, ey⟩ := List.mem_map.1 hm
          have hy' := (List.mem_filter.1 hy).1
          obtain ⟨j, hj, ej⟩ := List.getElem_of_mem hy'
          rw [List.length_drop] at hj
          rw [List.getElem_drop] at ej
          have := c.inj (i := i + 1 + j) (j := i) (by omega) hi (by rw [ej, ey])
          omega
        rw [beq_eq_false_iff_ne.2 (fun h => hne (list_inj.1 h))]
      · rw [if_neg (by omega)]

theorem KinKids : changelinglaw6_KinKids.Pure := by
  intro l0 a1 hm hb _ _
  refine Ev.rounds (g := fun k => changelinglaw6_KinKids.f k l0 a1) ?_
  obtain ⟨t, ht, h6, hn⟩ := tree_ev l0 (by omega)
  have hl : SM t := by unfold SM; omega
  obtain ⟨r, hr, hc⟩ := check_ev t hl
  have T : Ev (fun k => changelinglaw6_KinKids.j0 k a1 true t) true :=
    Ev.step (f := fun k => (changelinglaw6_told.f k).bind fun t => some t) (fun k => by simp only [changelinglaw6_KinKids.j0]; rw [if_pos trivial]) (Ev.bind (f := fun _ t => some t) told_ev (Ev.now _))
  refine Ev.bind (g := fun k => changelinglaw6_Tree.f k l0) (f := fun k t214 => ((kin_Check.f k t214).bind fun bt218 => (if bt218.1 = 0 then (changelinglaw6_KinKids.j0 k a1 ((t214.length : Int) == 0) t214) else (changelinglaw6_KinKids.j0 k a1 true t214)))) ht ?_
  refine Ev.bind (f := fun k bt218 => (if bt218.1 = 0 then (changelinglaw6_KinKids.j0 k a1 ((t.length : Int) == 0) t) else (changelinglaw6_KinKids.j0 k a1 true t))) hr ?_
  by_cases h0 : r.1 = 0
  · refine Ev.congr (fun k => if_pos h0) ?_
    have c := hc h0
    have g := clean_good c hn
    by_cases he : t.length = 0
    · rw [show ((t.length : Int) == 0) = true by rw [he]; rfl]; exact T
    · rw [show ((t.length : Int) == 0) = false from beq_eq_false_iff_ne.2 (by omega)]
      obtain ⟨p1, e1, l1, u1, _⟩ := pick he h6 a1
      have ew : IntKind.u64.wrap (t.length : Int) = (t.length : Int) := IntWalk.u64_in _ (by omega)
      obtain ⟨p, rfl⟩ : ∃ p : Nat, p1 = (p : Int) := ⟨p1.toNat, by omega⟩
      have hp : p < t.length := by omega
      refine Ev.step (f := fun k => (kin_Kids.f k t (t[p]).f0).bind fun t222 => (changelinglaw6_KinKids.l0 k (t[p]).f0 t222 0 0 t)) (fun k => ?_) ?_
      · simp only [changelinglaw6_KinKids.j0]
        rw [e1, ew, if_neg (by decide), if_neg (by omega), if_pos l1, if_pos u1, rd34 hp]
      refine Ev.bind (f := fun k t222 => (changelinglaw6_KinKids.l0 k (t[p]).f0 t222 0 0 t)) (kids_ev t hl (t[p]).f0) ?_
      exact kids_loop t hl hn c g p hp _ (by unfold kids; rw [List.length_map]; have := List.length_filter_le (kid t (t[p]).f0) t; omega) t.length 0 [] (by omega) (by simp)
  · exact Ev.congr (fun k => if_neg h0) T

end Go.Proofs.Ytddggdhkhfephaa.Pure
