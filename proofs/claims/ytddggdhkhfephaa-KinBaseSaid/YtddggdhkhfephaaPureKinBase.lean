/- KinBase, in plain Lean: the document's own functions tell what kin's do; base classes stand for Exception and for nobody else. -/
import Derived.Test.YtddggdhkhfephaaQx8
import Derived.Test.YtddggdhkhfephaaTree
namespace Go.Proofs.Ytddggdhkhfephaa.Pure
open Go Go.RowKit Go.Proofs.Ytddggdhkhfephaa Go.Proofs.Ytddggdhkhfephaa.Q Go.Proofs.YtddggdhkhfephaaW.PrintWords Go.Proofs.YtddggdhkhfephaaW.PrintLast

/-! ### the document's own functions -/
theorem in_go (l : List ByteArray) (a : ByteArray) (hl : l.length ≤ 1000000000) : ∀ m i : Nat, i + m = l.length → Ev (fun k => changelingref1_In.l0 k l a (i : Int)) (decide (a ∈ l.drop i))
  | 0, i, h => by
    rw [List.drop_of_length_le (by omega)]
    exact Ev.step (f := fun _ => some false) (fun k => by simp only [changelingref1_In.l0]; rw [if_neg (by omega)]) (Ev.now _)
  | m + 1, i, h => by
    have hi : i < l.length := by omega
    have hd : l.drop i = l[i] :: l.drop (i + 1) := List.drop_eq_getElem_cons hi
    have hr : rdOf ByteArray.empty l (i : Int) = l[i] := by unfold rdOf; rw [Int.toNat_natCast, List.getD_eq_getElem?_getD, List.getElem?_eq_getElem hi]; rfl
    by_cases e : l[i] = a
    · rw [decide_eq_true (by rw [hd, e]; simp)]
      exact Ev.step (f := fun _ => some true) (fun k => by simp only [changelingref1_In.l0]; rw [if_pos (by omega), if_pos (by omega), hr, if_pos (by rw [e])]) (Ev.now _)
    · have := in_go l a hl m (i + 1) (by omega)
      have e2 : decide (a ∈ l.drop i) = decide (a ∈ l.drop (i + 1)) := decide_eq_decide.2 (by rw [hd, List.mem_cons]; exact ⟨fun h => h.resolve_left (fun h => e h.symm), .inr⟩)
      rw [e2]
      refine Ev.step (f := fun k => changelingref1_In.l0 k l a ((i + 1 : Nat) : Int)) (fun k => ?_) this
      simp only [changelingref1_In.l0]
      rw [if_pos (by omega), if_pos (by omega), hr, if_neg (by rw [list_inj]; exact e), IntWalk.wrap64_in _ (by omega)]; rfl
theorem in_ev (l : List ByteArray) (a : ByteArray) (hl : l.length ≤ 1000000000) : Ev (fun k => changelingref1_In.f k l a) (decide (a ∈ l)) := in_go l a hl l.length 0 (by omega)
theorem rbase_ev (a : ByteArray) : Ev (fun k => changelingref6_Base.f k a) (decide (a ∈ BS)) :=
  Ev.bind (g := fun k => changelingref1_In.f k BS a) (f := fun _ t => some t) (in_ev BS a (by decide)) (Ev.now _)
theorem rfind_go (l : List S34) (a : ByteArray) (hl : SM l) : ∀ m i : Nat, i + m = l.length → Ev (fun k => changelingref6_Find.l0 k a (i : Int) l) (ixZ (fun x => x.f0.toList == a.toList) (l.drop i) (i : Int))
  | 0, i, h => by
    rw [List.drop_of_length_le (by omega)]
    exact Ev.step (f := fun _ => some (-1)) (fun k => by simp only [changelingref6_Find.l0]; rw [if_neg (by omega)]) (Ev.now _)
  | m + 1, i, h => by
    have hi : i < l.length := by omega
    have hl' : l.length ≤ 1000000 := hl
    have hd : l.drop i = l[i] :: l.drop (i + 1) := List.drop_eq_getElem_cons hi
    rw [hd, ixZ]
    by_cases e : (l[i]).f0.toList = a.toList
    · rw [if_pos (by rw [e]; exact beq_self_eq_true _)]
      exact Ev.step (f := fun _ => some (i : Int)) (fun k => by simp only [changelingref6_Find.l0]; rw [if_pos (by omega), if_pos (by omega), rd34 hi, if_pos e]) (Ev.now _)
    · rw [if_neg (by rw [beq_iff_eq]; exact e)]
      refine Ev.step (f := fun k => changelingref6_Find.l0 k a ((i + 1 : Nat) : Int) l) (fun k => ?_) (rfind_go l a hl m (i + 1) (by omega))
      simp only [changelingref6_Find.l0]
      rw [if_pos (by omega), if_pos (by omega), rd34 hi, if_neg e, IntWalk.wrap64_in _ (by omega)]; rfl
theorem rfind_ev (l : List S34) (a : ByteArray) (hl : SM l) : Ev (fun k => changelingref6_Find.f k l a) (fi l a) := rfind_go l a hl l.length 0 (by omega)
theorem ris_ev (l : List S34) (a : ByteArray) (hl : SM l) : Ev (fun k => changelingref6_Is.f k l a) (isB l a) := by
  refine Ev.bind (g := fun k => changelingref6_Base.f k a) (f := fun k t => if t = true then some true else (changelingref6_Find.f k l a).bind fun t244 => some (decide (t244 ≥ 0))) (rbase_ev a) ?_
  unfold isB
  by_cases h : a ∈ BS
  · refine Ev.congr (fun k => if_pos (by simpa using h)) ?_
    rw [decide_eq_true h]; exact Ev.now _
  · refine Ev.congr (f := fun k => (changelingref6_Find.f k l a).bind fun t244 => some (decide (t244 ≥ 0))) (fun k => if_neg (by simpa using h)) ?_
    rw [decide_eq_false h, Bool.false_or]
    exact Ev.bind (f := fun _ t244 => some (decide (t244 ≥ 0))) (rfind_ev l a hl) (Ev.now _)
theorem rsuper_ev (l : List S34) (a : ByteArray) (hl : SM l) : Ev (fun k => changelingref6_Super.f k l a) (sup l a) := by
  refine Ev.bind (g := fun k => changelingref6_Base.f k a) (f := fun k t246 => (if t246 = true then (if a.toList = ([69, 120, 99, 101, 112, 116, 105, 111, 110] : List UInt8) then (some (⟨#[]⟩ : ByteArray)) else (some (⟨#[69, 120, 99, 101, 112, 116, 105, 111, 110]⟩ : ByteArray))) else ((changelingref6_Find.f k l a).bind fun t247 => (if t247 ≥ 0 then (if 0 ≤ t247 then (if t247 < (l.length : Int) then (some ((rd_T34 l t247).f1)) else (none)) else (none)) else (some (⟨#[]⟩ : ByteArray)))))) (rbase_ev a) ?_
  unfold sup
  by_cases h : a ∈ BS
  · rw [if_pos h]
    refine Ev.congr (f := fun _ => some (if a = EXC then NIL else EXC)) (fun k => ?_) (Ev.now _)
    rw [if_pos (by simpa using h)]
    by_cases e : a = EXC
    · rw [if_pos (by rw [e, ByteArray.toList_eq]; rfl), if_pos e]; rfl
    · rw [if_neg (fun e' => e (list_inj.1 (e'.trans (by rw [ByteArray.toList_eq]; rfl)))), if_neg e]; rfl
  · rw [if_neg h]
    refine Ev.congr (f := fun k => (changelingref6_Find.f k l a).bind fun t247 => (if t247 ≥ 0 then (if 0 ≤ t247 then (if t247 < (l.length : Int) then (some ((rd_T34 l t247).f1)) else (none)) else (none)) else (some (⟨#[]⟩ : ByteArray)))) (fun k => if_neg (by simpa using h)) ?_
    refine Ev.bind (f := fun k t247 => (if t247 ≥ 0 then (if 0 ≤ t247 then (if t247 < (l.length : Int) then (some ((rd_T34 l t247).f1)) else (none)) else (none)) else (some (⟨#[]⟩ : ByteArray)))) (rfind_ev l a hl) ?_
    refine Ev.congr (fun k => ?_) (Ev.now _)
    rcases fi_spec l a with ⟨h1, _⟩ | ⟨j, hj, h1, _, _⟩
    · rw [if_neg (by omega), if_pos (by omega)]; rfl
    · rw [if_pos (by omega), if_pos (by omega), if_pos (by omega), if_neg (by omega)]
theorem rchain_go (l : List S34) (hl : SM l) : ∀ (n : Nat) (a : ByteArray) (acc : List ByteArray), acc.Nodup → (∀ x ∈ acc, isB l x = true) → acc.length + n = l.length + 6 →
    Ev (fun k => changelingref6_Chain.l0 k a acc l) (chG l n a acc)
  | 0, a, acc, hn, hs, he => by have := room hn hs; omega
  | n + 1, a, acc, hn, hs, he => by
    refine Ev.step (f := fun k => (changelingref6_Is.f k l a).bind fun t126 => (if t126 = true then ((changelingref1_In.f k acc a).bind fun t127 => (if t127 = true then (some acc) else (if acc.length < 8796093022208 then ((changelingref6_Super.f k l a).bind fun t131 => (changelingref6_Chain.l0 k t131 (acc ++ [a]) l)) else (none)))) else (some acc))) (fun k => by simp only [changelingref6_Chain.l0]) ?_
    refine Ev.bind (g := fun k => changelingref6_Is.f k l a) (f := fun k t126 => (if t126 = true then ((changelingref1_In.f k acc a).bind fun t127 => (if t127 = true then (some acc) else (if acc.length < 8796093022208 then ((changelingref6_Super.f k l a).bind fun t131 => (changelingref6_Chain.l0 k t131 (acc ++ [a]) l)) else (none)))) else (some acc))) (ris_ev l a hl) ?_
    rw [chG]
    have hlen := room hn hs
    have hlen2 : acc.length ≤ 1000005 := by unfold SM at hl; omega
    by_cases hi : isB l a = true
    · rw [if_pos hi]
      refine Ev.congr (f := fun k => ((changelingref1_In.f k acc a).bind fun t127 => (if t127 = true then (some acc) else (if acc.length < 8796093022208 then ((changelingref6_Super.f k l a).bind fun t131 => (changelingref6_Chain.l0 k t131 (acc ++ [a]) l)) else (none))))) (fun k => if_pos hi) ?_
      refine Ev.bind (g := fun k => changelingref1_In.f k acc a) (f := fun k t127 => (if t127 = true then (some acc) else (if acc.length < 8796093022208 then ((changelingref6_Super.f k l a).bind fun t131 => (changelingref6_Chain.l0 k t131 (acc ++ [a]) l)) else (none)))) (in_ev acc a (by omega)) ?_
      by_cases hc : a ∈ acc
      · rw [if_pos hc]
        exact Ev.congr (fun k => if_pos (by simpa using hc)) (Ev.now _)
      · rw [if_neg hc]
        refine Ev.congr (f := fun k => (changelingref6_Super.f k l a).bind fun t131 => (changelingref6_Chain.l0 k t131 (acc ++ [a]) l)) (fun k => by rw [if_neg (by simpa using hc), if_pos (by omega)]) ?_
        refine Ev.bind (g := fun k => changelingref6_Super.f k l a) (f := fun k t131 => changelingref6_Chain.l0 k t131 (acc ++ [a]) l) (rsuper_ev l a hl) ?_
        exact rchain_go l hl n (sup l a) (acc ++ [a]) (nodup_snoc hn hc) (fun x hx => by rcases List.mem_append.1 hx with h | h; exact hs x h; simp at h; exact h ▸ hi) (by simp; omega)
    · rw [if_neg hi]
      exact Ev.congr (fun k => if_neg hi) (Ev.now _)
theorem rchain_ev (l : List S34) (a : ByteArray) (hl : SM l) : Ev (fun k => changelingref6_Chain.f k l a) (ch l a) :=
  rchain_go l hl (l.length + 6) a [] (by simp) (by simp) (by simp)
theorem rcheck2_go (l : List S34) (hl : SM l) (h1 : ∀ (j : Nat) (h : j < l.length), P1 l j l[j]) : ∀ m i : Nat, i + m = l.length → (∀ (j : Nat) (h : j < l.length), j < i → P2 l l[j]) → ∃ r, Ev (fun k => changelingref6_Check.l1 k (i : Int) l) r ∧ (r.1 = 0 → Clean l)
  | 0, i, h, hp => by
    refine ⟨(0, 0), Ev.step (f := fun _ => some (0, 0)) (fun k => by simp only [changelingref6_Check.l1]; rw [if_neg (by omega)]) (Ev.now _), fun _ => ⟨h1, fun x hx => ?_⟩⟩
    obtain ⟨j, hj, e⟩ := List.getElem_of_mem hx
    rw [← e]; exact hp j hj (by omega)
  | m + 1, i, h, hp => by
    have hi : i < l.length := by omega
    have hl' : l.length ≤ 1000000 := hl
    have hwi : wrap64 ((i : Int) + 1) = ((i + 1 : Nat) : Int) := by rw [IntWalk.wrap64_in _ (by omega)]; rfl
    have hmem : l[i] ∈ l := List.getElem_mem hi
    have hself := ch_self (mem_is hmem)
    have hpos := List.length_pos_of_mem hself
    have hroom := ch_room l (l[i]).f0
    have next : P2 l l[i] → ∃ r, Ev (fun k => changelingref6_Check.l1 k ((i + 1 : Nat) : Int) l) r ∧ (r.1 = 0 → Clean l) := fun p =>
      rcheck2_go l hl h1 m (i + 1) (by omega) (fun j hj hji => by
        by_cases e : j = i
        · subst e; exact p
        · exact hp j hj (by omega))
    by_cases h0 : (l[i]).f1 = NIL
    · obtain ⟨r, hr, hc⟩ := next (.inl h0)
      refine ⟨r, Ev.step (f := fun k => changelingref6_Check.l1 k ((i + 1 : Nat) : Int) l) (fun k => ?_) hr, hc⟩
      simp only [changelingref6_Check.l1]
      rw [if_pos (by omega), if_pos (by omega), rd34 hi, if_pos (list_nil.2 h0), hwi]
    have h0' : ¬ (l[i]).f1.toList = ([] : List UInt8) := fun e => h0 (list_nil.1 e)
    have hwl : wrap64 (((ch l (l[i]).f0).length : Int) - 1) = ((ch l (l[i]).f0).length : Int) - 1 := IntWalk.wrap64_in _ (by omega)
    obtain ⟨n, hn⟩ : ∃ n, n = rdOf ByteArray.empty (ch l (l[i]).f0) (((ch l (l[i]).f0).length : Int) - 1) := ⟨_, rfl⟩
    have start : ∀ r, Ev (fun k => (changelingref6_Is.f k l (l[i]).f1).bind fun t263 => (if t263 = true then ((changelingref6_Chain.f k l (l[i]).f0).bind fun t264 => (if 0 ≤ (wrap64 ((t264.length : Int) - 1)) then (if (wrap64 ((t264.length : Int) - 1)) < (t264.length : Int) then ((changelingref6_Super.f k l (rdOf ByteArray.empty t264 (wrap64 ((t264.length : Int) - 1)))).bind fun t268 => ((changelingref6_Is.f k l t268).bind fun t269 => (if t269 = true then (some ((8 : Int), (i : Int))) else (changelingref6_Check.l1 k ((i + 1 : Nat) : Int) l)))) else (none)) else (none))) else (some (7, (i : Int))))) r → Ev (fun k => changelingref6_Check.l1 k (i : Int) l) r := fun r hr => by
      refine Ev.step (fun k => ?_) hr
      simp only [changelingref6_Check.l1]
      rw [if_pos (by omega), if_pos (by omega), rd34 hi, if_neg h0', hwi]
    by_cases hi1 : isB l (l[i]).f1 = true
    · have mid : ∀ r, Ev (fun k => if isB l (sup l n) = true then some ((8 : Int), (i : Int)) else changelingref6_Check.l1 k ((i + 1 : Nat) : Int) l) r → Ev (fun k => changelingref6_Check.l1 k (i : Int) l) r := fun r hr => by
        refine start r ?_
        refine Ev.bind (f := fun k t263 => (if t263 = true then ((changelingref6_Chain.f k l (l[i]).f0).bind fun t264 => (if 0 ≤ (wrap64 ((t264.length : Int) - 1)) then (if (wrap64 ((t264.length : Int) - 1)) < (t264.length : Int) then ((changelingref6_Super.f k l (rdOf ByteArray.empty t264 (wrap64 ((t264.length : Int) - 1)))).bind fun t268 => ((changelingref6_Is.f k l t268).bind fun t269 => (if t269 = true then (some ((8 : Int), (i : Int))) else (changelingref6_Check.l1 k ((i + 1 : Nat) : Int) l)))) else (none)) else (none))) else (some (7, (i : Int))))) (ris_ev l (l[i]).f1 hl) ?_
        refine Ev.congr (f := fun k => ((changelingref6_Chain.f k l (l[i]).f0).bind fun t264 => (if 0 ≤ (wrap64 ((t264.length : Int) - 1)) then (if (wrap64 ((t264.length : Int) - 1)) < (t264.length : Int) then ((changelingref6_Super.f k l (rdOf ByteArray.empty t264 (wrap64 ((t264.length : Int) - 1)))).bind fun t268 => ((changelingref6_Is.f k l t268).bind fun t269 => (if t269 = true then (some ((8 : Int), (i : Int))) else (changelingref6_Check.l1 k ((i + 1 : Nat) : Int) l)))) else (none)) else (none)))) (fun k => if_pos hi1) ?_
        refine Ev.bind (f := fun k t264 => (if 0 ≤ (wrap64 ((t264.length : Int) - 1)) then (if (wrap64 ((t264.length : Int) - 1)) < (t264.length : Int) then ((changelingref6_Super.f k l (rdOf ByteArray.empty t264 (wrap64 ((t264.length : Int) - 1)))).bind fun t268 => ((changelingref6_Is.f k l t268).bind fun t269 => (if t269 = true then (some ((8 : Int), (i : Int))) else (changelingref6_Check.l1 k ((i + 1 : Nat) : Int) l)))) else (none)) else (none))) (rchain_ev l (l[i]).f0 hl) ?_
        refine Ev.congr (f := fun k => (changelingref6_Super.f k l n).bind fun t268 => ((changelingref6_Is.f k l t268).bind fun t269 => (if t269 = true then (some ((8 : Int), (i : Int))) else (changelingref6_Check.l1 k ((i + 1 : Nat) : Int) l)))) (fun k => by rw [hwl, if_pos (by omega), if_pos (by omega), hn]) ?_
        refine Ev.bind (f := fun k t268 => ((changelingref6_Is.f k l t268).bind fun t269 => (if t269 = true then (some ((8 : Int), (i : Int))) else (changelingref6_Check.l1 k ((i + 1 : Nat) : Int) l)))) (rsuper_ev l n hl) ?_
        exact Ev.bind (f := fun k t269 => (if t269 = true then (some ((8 : Int), (i : Int))) else (changelingref6_Check.l1 k ((i + 1 : Nat) : Int) l))) (ris_ev l (sup l n) hl) hr
      by_cases hz : isB l (sup l n) = true
      · exact ⟨(8, (i : Int)), mid _ (Ev.congr (fun k => if_pos hz) (Ev.now _)), fun h => absurd h (show (8 : Int) ≠ 0 by decide)⟩
      · obtain ⟨r, hr, hc⟩ := next (.inr ⟨hi1, fun hin => by
          obtain ⟨z, hw, _⟩ := ch_walk l (l[i]).f0
          rw [← hn] at hin
          exact hz (hw.all _ hin)⟩)
        exact ⟨r, mid _ (Ev.congr (fun k => if_neg hz) hr), hc⟩
    · refine ⟨(7, (i : Int)), start _ ?_, fun h => absurd h (show (7 : Int) ≠ 0 by decide)⟩
      refine Ev.bind (f := fun k t263 => (if t263 = true then ((changelingref6_Chain.f k l (l[i]).f0).bind fun t264 => (if 0 ≤ (wrap64 ((t264.length : Int) - 1)) then (if (wrap64 ((t264.length : Int) - 1)) < (t264.length : Int) then ((changelingref6_Super.f k l (rdOf ByteArray.empty t264 (wrap64 ((t264.length : Int) - 1)))).bind fun t268 => ((changelingref6_Is.f k l t268).bind fun t269 => (if t269 = true then (some ((8 : Int), (i : Int))) else (changelingref6_Check.l1 k ((i + 1 : Nat) : Int) l)))) else (none)) else (none))) else (some (7, (i : Int))))) (ris_ev l (l[i]).f1 hl) ?_
      exact Ev.congr (fun k => if_neg hi1) (Ev.now _)
theorem rcheck_go (l : List S34) (hl : SM l) : ∀ m i : Nat, i + m = l.length → (∀ (j : Nat) (h : j < l.length), j < i → P1 l j l[j]) → ∃ r, Ev (fun k => changelingref6_Check.l0 k (i : Int) l) r ∧ (r.1 = 0 → Clean l)
  | 0, i, h, hp => by
    obtain ⟨r, hr, hc⟩ := rcheck2_go l hl (fun j hj => hp j hj (by omega)) l.length 0 (by omega) (by omega)
    exact ⟨r, Ev.step (f := fun k => changelingref6_Check.l1 k 0 l) (fun k => by simp only [changelingref6_Check.l0]; rw [if_neg (by omega)]) hr, hc⟩
  | m + 1, i, h, hp => by
    have hi : i < l.length := by omega
    have hl' : l.length ≤ 1000000 := hl
    have hwi : wrap64 ((i : Int) + 1) = ((i + 1 : Nat) : Int) := by rw [IntWalk.wrap64_in _ (by omega)]; rfl
    have start : ∀ r, Ev (fun k => (changelingref6_Base.f k (l[i]).f0).bind fun t259 => (if t259 = true then (some ((6 : Int), (i : Int))) else ((changelingref6_Find.f k l (l[i]).f0).bind fun t260 => (if t260 = (i : Int) then (changelingref6_Check.l0 k ((i + 1 : Nat) : Int) l) else (some (6, (i : Int))))))) r → Ev (fun k => changelingref6_Check.l0 k (i : Int) l) r := fun r hr => by
      refine Ev.step (fun k => ?_) hr
      simp only [changelingref6_Check.l0]
      rw [if_pos (by omega), if_pos (by omega), rd34 hi, hwi]
    by_cases hb : (l[i]).f0 ∈ BS
    · refine ⟨(6, (i : Int)), start _ ?_, fun h => absurd h (show (6 : Int) ≠ 0 by decide)⟩
      refine Ev.bind (f := fun k t259 => (if t259 = true then (some ((6 : Int), (i : Int))) else ((changelingref6_Find.f k l (l[i]).f0).bind fun t260 => (if t260 = (i : Int) then (changelingref6_Check.l0 k ((i + 1 : Nat) : Int) l) else (some (6, (i : Int))))))) (rbase_ev _) ?_
      exact Ev.congr (fun k => if_pos (by simpa using hb)) (Ev.now _)
    · have mid : ∀ r, Ev (fun k => if fi l (l[i]).f0 = (i : Int) then changelingref6_Check.l0 k ((i + 1 : Nat) : Int) l else some (6, (i : Int))) r → Ev (fun k => changelingref6_Check.l0 k (i : Int) l) r := fun r hr => by
        refine start _ ?_
        refine Ev.bind (f := fun k t259 => (if t259 = true then (some ((6 : Int), (i : Int))) else ((changelingref6_Find.f k l (l[i]).f0).bind fun t260 => (if t260 = (i : Int) then (changelingref6_Check.l0 k ((i + 1 : Nat) : Int) l) else (some (6, (i : Int))))))) (rbase_ev _) ?_
        refine Ev.congr (f := fun k => (changelingref6_Find.f k l (l[i]).f0).bind fun t260 => (if t260 = (i : Int) then (changelingref6_Check.l0 k ((i + 1 : Nat) : Int) l) else (some (6, (i : Int))))) (fun k => if_neg (by simpa using hb)) ?_
        exact Ev.bind (f := fun k t260 => (if t260 = (i : Int) then (changelingref6_Check.l0 k ((i + 1 : Nat) : Int) l) else (some (6, (i : Int))))) (rfind_ev l _ hl) hr
      by_cases hf : fi l (l[i]).f0 = (i : Int)
      · obtain ⟨r, hr, hc⟩ := rcheck_go l hl m (i + 1) (by omega) (fun j hj hji => by
          by_cases e : j = i
          · subst e; exact ⟨hb, by omega⟩
          · exact hp j hj (by omega))
        exact ⟨r, mid _ (Ev.congr (fun k => if_pos hf) hr), hc⟩
      · exact ⟨(6, (i : Int)), mid _ (Ev.congr (fun k => if_neg hf) (Ev.now _)), fun h => absurd h (show (6 : Int) ≠ 0 by decide)⟩
theorem good_ev (l : List S34) (hl : SM l) : ∃ b, Ev (fun k => changelingref6_Good.f k l) b ∧ (b = true → Clean l) := by
  obtain ⟨r, hr, hc⟩ := rcheck_go l hl l.length 0 (by omega) (by omega)
  refine ⟨r.1 == 0, Ev.bind (g := fun k => changelingref6_Check.f k l) (f := fun _ bt271 => some (bt271.1 == 0)) hr (Ev.now _), fun h => hc (by simpa using h)⟩

/-! ### the law -/
theorem ch_sub_bs {l : List S34} (hn : Named l) {x : ByteArray} (hx : x ∈ BS) : ∀ y ∈ ch l x, y ∈ BS := by
  by_cases e : x = EXC
  · subst e; rw [ch_exc hn]; intro y hy; simp at hy; rw [hy]; exact exc_bs
  · rw [ch_bs hn hx e]; intro y hy; simp at hy; rcases hy with rfl | rfl; exact hx; exact exc_bs
theorem exc_in {l : List S34} (hn : Named l) {x : ByteArray} (hx : x ∈ BS) : EXC ∈ ch l x := by
  by_cases e : x = EXC
  · subst e; rw [ch_exc hn]; simp
  · rw [ch_bs hn hx e]; simp
theorem bs_null {x : ByteArray} (h : x ∈ BS) : x ≠ NULL := by
  have : ∀ x ∈ BS, x ≠ NULL := by decide +kernel
  exact this x h
theorem base_loop (l : List S34) (hl : SM l) (hn : Named l) (c : Clean l) (g : Good l) (x y : ByteArray) (hx : x ∈ BS) (hy : y ∈ BS) :
    ∀ m i : Nat, i + m = l.length → Ev (fun k => changelinglaw6_KinBase.l0 k x y (i : Int) l) true
  | 0, i, h => by
    refine Ev.step (f := fun k => (changelinglaw6_told.f k).bind fun t291 => (if t291 = true then ((kin_Sub.f k l x EXC).bind fun t292 => (if t292 = true then ((kin_Sub.f k l x y).bind fun t293 => (if x.toList = y.toList then (if (t293 == true) = true then ((kin_Type.f k l x).bind fun t294 => (if t294 = true then ((kin_Base.f k x).bind fun t295 => (some t295)) else (none))) else (none)) else (if (t293 == (y.toList == ([69, 120, 99, 101, 112, 116, 105, 111, 110] : List UInt8))) = true then ((kin_Type.f k l x).bind fun t296 => (if t296 = true then ((kin_Base.f k x).bind fun t297 => (some t297)) else (none))) else (none)))) else (none))) else (none))) (fun k => by simp only [changelinglaw6_KinBase.l0]; rw [if_neg (by omega)]; rfl) ?_
    refine Ev.bind (f := fun k t291 => (if t291 = true then ((kin_Sub.f k l x EXC).bind fun t292 => (if t292 = true then ((kin_Sub.f k l x y).bind fun t293 => (if x.toList = y.toList then (if (t293 == true) = true then ((kin_Type.f k l x).bind fun t294 => (if t294 = true then ((kin_Base.f k x).bind fun t295 => (some t295)) else (none))) else (none)) else (if (t293 == (y.toList == ([69, 120, 99, 101, 112, 116, 105, 111, 110] : List UInt8))) = true then ((kin_Type.f k l x).bind fun t296 => (if t296 = true then ((kin_Base.f k x).bind fun t297 => (some t297)) else (none))) else (none)))) else (none))) else (none))) told_ev ?_
    refine Ev.congr (f := fun k => ((kin_Sub.f k l x EXC).bind fun t292 => (if t292 = true then ((kin_Sub.f k l x y).bind fun t293 => (if x.toList = y.toList then (if (t293 == true) = true then ((kin_Type.f k l x).bind fun t294 => (if t294 = true then ((kin_Base.f k x).bind fun t295 => (some t295)) else (none))) else (none)) else (if (t293 == (y.toList == ([69, 120, 99, 101, 112, 116, 105, 111, 110] : List UInt8))) = true then ((kin_Type.f k l x).bind fun t296 => (if t296 = true then ((kin_Base.f k x).bind fun t297 => (some t297)) else (none))) else (none)))) else (none)))) (fun k => if_pos rfl) ?_
    have s1 := sub_ev l x EXC hl (base_is hx) (bs_null hx)
    rw [decide_eq_true (exc_in hn hx)] at s1
    refine Ev.bind (f := fun k t292 => (if t292 = true then ((kin_Sub.f k l x y).bind fun t293 => (if x.toList = y.toList then (if (t293 == true) = true then ((kin_Type.f k l x).bind fun t294 => (if t294 = true then ((kin_Base.f k x).bind fun t295 => (some t295)) else (none))) else (none)) else (if (t293 == (y.toList == ([69, 120, 99, 101, 112, 116, 105, 111, 110] : List UInt8))) = true then ((kin_Type.f k l x).bind fun t296 => (if t296 = true then ((kin_Base.f k x).bind fun t297 => (some t297)) else (none))) else (none)))) else (none))) s1 ?_
    refine Ev.congr (f := fun k => ((kin_Sub.f k l x y).bind fun t293 => (if x.toList = y.toList then (if (t293 == true) = true then ((kin_Type.f k l x).bind fun t294 => (if t294 = true then ((kin_Base.f k x).bind fun t295 => (some t295)) else (none))) else (none)) else (if (t293 == (y.toList == ([69, 120, 99, 101, 112, 116, 105, 111, 110] : List UInt8))) = true then ((kin_Type.f k l x).bind fun t296 => (if t296 = true then ((kin_Base.f k x).bind fun t297 => (some t297)) else (none))) else (none))))) (fun k => if_pos rfl) ?_
    have s2 := sub_ev l x y hl (base_is hx) (bs_null hx)
    have fin : Ev (fun k => (kin_Type.f k l x).bind fun t296 => (if t296 = true then ((kin_Base.f k x).bind fun t297 => (some t297)) else (none))) true := by
      refine Ev.bind (f := fun k t296 => (if t296 = true then ((kin_Base.f k x).bind fun t297 => (some t297)) else (none))) (type_ev l x hl (base_is hx)) ?_
      refine Ev.congr (f := fun k => (kin_Base.f k x).bind fun t297 => (some t297)) (fun k => if_pos rfl) ?_
      have b := base_ev x
      rw [decide_eq_true hx] at b
      exact Ev.bind (f := fun _ t => some t) b (Ev.now _)
    refine Ev.bind (f := fun k t293 => (if x.toList = y.toList then (if (t293 == true) = true then ((kin_Type.f k l x).bind fun t294 => (if t294 = true then ((kin_Base.f k x).bind fun t295 => (some t295)) else (none))) else (none)) else (if (t293 == (y.toList == ([69, 120, 99, 101, 112, 116, 105, 111, 110] : List UInt8))) = true then ((kin_Type.f k l x).bind fun t296 => (if t296 = true then ((kin_Base.f k x).bind fun t297 => (some t297)) else (none))) else (none)))) s2 ?_
    by_cases e : x = y
    · refine Ev.congr (fun k => ?_) fin
      rw [if_pos (by rw [e]), if_pos (by rw [← e, decide_eq_true (ch_self (base_is hx))]; rfl)]
    · refine Ev.congr (fun k => ?_) fin
      rw [if_neg (by rw [list_inj]; exact e), if_pos]
      rw [beq_iff_eq]
      have key : y ∈ ch l x ↔ y = EXC := by
        by_cases e' : x = EXC
        · subst e'; rw [ch_exc hn]; simp
        · rw [ch_bs hn hx e', List.mem_cons, List.mem_singleton]; exact ⟨fun h => h.resolve_left (fun h => e h.symm), .inr⟩
      have k2 : (y.toList == ([69, 120, 99, 101, 112, 116, 105, 111, 110] : List UInt8)) = decide (y = EXC) := by
        have k3 : EXC.toList = ([69, 120, 99, 101, 112, 116, 105, 111, 110] : List UInt8) := by rw [ByteArray.toList_eq]; rfl
        by_cases ey : y = EXC
        · rw [decide_eq_true ey, ey, k3]; rfl
        · rw [decide_eq_false ey]; exact beq_eq_false_iff_ne.2 (fun h => ey (list_inj.1 (h.trans k3.symm)))
      rw [k2]; exact decide_eq_decide.2 key
  | m + 1, i, h => by
    have hi : i < l.length := by omega
    have hl' : l.length ≤ 1000000 := hl
    have hwi : wrap64 ((i : Int) + 1) = ((i + 1 : Nat) : Int) := by rw [IntWalk.wrap64_in _ (by omega)]; rfl
    have hmem : l[i] ∈ l := List.getElem_mem hi
    have hb := mem_is hmem
    have hf := five (hn _ hmem)
    have next := base_loop l hl hn c g x y hx hy m (i + 1) (by omega)
    have s0 := sub_ev l x (l[i]).f0 hl (base_is hx) (bs_null hx)
    rw [decide_eq_false (fun h => hf.2.2 (ch_sub_bs hn hx _ h))] at s0
    have tail : Ev (fun k => (kin_Sub.f k l x (l[i]).f0).bind fun t290 => (if t290 = true then (none) else (changelinglaw6_KinBase.l0 k x y ((i + 1 : Nat) : Int) l))) true :=
      Ev.bind (f := fun k t290 => (if t290 = true then (none) else (changelinglaw6_KinBase.l0 k x y ((i + 1 : Nat) : Int) l))) s0 (Ev.congr (fun k => if_neg (by decide)) next)
    refine Ev.step (f := fun k => (kin_Base.f k (l[i]).f1).bind fun t286 => (if t286 = true then ((kin_Sub.f k l (l[i]).f0 (l[i]).f1).bind fun t287 => (if t287 = true then ((kin_Sub.f k l (l[i]).f0 EXC).bind fun t288 => (if t288 = true then ((kin_Sub.f k l x (l[i]).f0).bind fun t289 => (if t289 = true then (none) else (changelinglaw6_KinBase.l0 k x y ((i + 1 : Nat) : Int) l))) else (none))) else (none))) else ((kin_Sub.f k l x (l[i]).f0).bind fun t290 => (if t290 = true then (none) else (changelinglaw6_KinBase.l0 k x y ((i + 1 : Nat) : Int) l))))) (fun k => ?_) ?_
    · simp only [changelinglaw6_KinBase.l0]
      rw [if_pos (by omega), if_pos (by omega), rd34 hi, hwi]; rfl
    refine Ev.bind (f := fun k t286 => (if t286 = true then ((kin_Sub.f k l (l[i]).f0 (l[i]).f1).bind fun t287 => (if t287 = true then ((kin_Sub.f k l (l[i]).f0 EXC).bind fun t288 => (if t288 = true then ((kin_Sub.f k l x (l[i]).f0).bind fun t289 => (if t289 = true then (none) else (changelinglaw6_KinBase.l0 k x y ((i + 1 : Nat) : Int) l))) else (none))) else (none))) else ((kin_Sub.f k l x (l[i]).f0).bind fun t290 => (if t290 = true then (none) else (changelinglaw6_KinBase.l0 k x y ((i + 1 : Nat) : Int) l))))) (base_ev _) ?_
    by_cases hbs : (l[i]).f1 ∈ BS
    · have hin : (l[i]).f1 ∈ ch l (l[i]).f0 := by
        obtain ⟨z, hw, hz⟩ := g _ hb
        obtain ⟨T, eT⟩ := hw.head hb hz
        rw [eT] at hw ⊢
        cases hw with
        | up _ hw =>
          rw [sup_at c i hi] at hw
          obtain ⟨T', eT'⟩ := hw.head (base_is hbs) hz
          rw [eT']; simp
      have hex : EXC ∈ ch l (l[i]).f0 := g.trans hb hin (exc_in hn hbs)
      have s1 := sub_ev l (l[i]).f0 (l[i]).f1 hl hb hf.2.1
      have s2 := sub_ev l (l[i]).f0 EXC hl hb hf.2.1
      rw [decide_eq_true hin] at s1
      rw [decide_eq_true hex] at s2
      refine Ev.congr (f := fun k => ((kin_Sub.f k l (l[i]).f0 (l[i]).f1).bind fun t287 => (if t287 = true then ((kin_Sub.f k l (l[i]).f0 EXC).bind fun t288 => (if t288 = true then ((kin_Sub.f k l x (l[i]).f0).bind fun t289 => (if t289 = true then (none) else (changelinglaw6_KinBase.l0 k x y ((i + 1 : Nat) : Int) l))) else (none))) else (none)))) (fun k => if_pos (by simpa using hbs)) ?_
      refine Ev.bind (f := fun k t287 => (if t287 = true then ((kin_Sub.f k l (l[i]).f0 EXC).bind fun t288 => (if t288 = true then ((kin_Sub.f k l x (l[i]).f0).bind fun t289 => (if t289 = true then (none) else (changelinglaw6_KinBase.l0 k x y ((i + 1 : Nat) : Int) l))) else (none))) else (none))) s1 ?_
      refine Ev.congr (f := fun k => ((kin_Sub.f k l (l[i]).f0 EXC).bind fun t288 => (if t288 = true then ((kin_Sub.f k l x (l[i]).f0).bind fun t289 => (if t289 = true then (none) else (changelinglaw6_KinBase.l0 k x y ((i + 1 : Nat) : Int) l))) else (none)))) (fun k => if_pos rfl) ?_
      refine Ev.bind (f := fun k t288 => (if t288 = true then ((kin_Sub.f k l x (l[i]).f0).bind fun t289 => (if t289 = true then (none) else (changelinglaw6_KinBase.l0 k x y ((i + 1 : Nat) : Int) l))) else (none))) s2 ?_
      exact Ev.congr (fun k => if_pos rfl) tail
    · exact Ev.congr (fun k => if_neg (by simpa using hbs)) tail

theorem base_pick (a : Int) : ∃ p : Int, Int.tmod (IntKind.u64.wrap a) 5 = p ∧ 0 ≤ p ∧ p < 5 ∧ rdOf ByteArray.empty BS p ∈ BS := by
  have p0 := Int.tmod_nonneg 5 (u64_low a)
  have p1 := Int.tmod_lt_of_pos (IntKind.u64.wrap a) (show (0 : Int) < 5 by decide)
  refine ⟨_, rfl, p0, p1, ?_⟩
  generalize Int.tmod (IntKind.u64.wrap a) 5 = p at *
  have : p = 0 ∨ p = 1 ∨ p = 2 ∨ p = 3 ∨ p = 4 := by omega
  rcases this with rfl | rfl | rfl | rfl | rfl <;> decide +kernel
theorem KinBase : changelinglaw6_KinBase.Pure := by
  intro l0 a1 a2 hm hb _ _ _
  refine Ev.rounds (g := fun k => changelinglaw6_KinBase.f k l0 a1 a2) ?_
  obtain ⟨t, ht, h6, hn⟩ := tree_ev l0 (by omega)
  have hl : SM t := by unfold SM; omega
  obtain ⟨b, hb2, hc⟩ := good_ev t hl
  obtain ⟨p1, e1, l1, u1, m1⟩ := base_pick a1
  obtain ⟨p2, e2, l2, u2, m2⟩ := base_pick a2
  refine Ev.congr (f := fun k => (changelinglaw6_Tree.f k l0).bind fun t278 => ((changelingref6_Good.f k t278).bind fun t282 => (if t282 = true then (changelinglaw6_KinBase.l0 k (rdOf ByteArray.empty BS p1) (rdOf ByteArray.empty BS p2) 0 t278) else ((changelinglaw6_told.f k).bind fun t283 => (some t283))))) (fun k => ?_) ?_
  · unfold changelinglaw6_KinBase.f
    rw [Option.bind_some, e1, e2, if_pos l1, if_pos (by exact u1), if_pos l2, if_pos (by exact u2)]; rfl
  refine Ev.bind (f := fun k t278 => ((changelingref6_Good.f k t278).bind fun t282 => (if t282 = true then (changelinglaw6_KinBase.l0 k (rdOf ByteArray.empty BS p1) (rdOf ByteArray.empty BS p2) 0 t278) else ((changelinglaw6_told.f k).bind fun t283 => (some t283))))) ht ?_
  refine Ev.bind (f := fun k t282 => (if t282 = true then (changelinglaw6_KinBase.l0 k (rdOf ByteArray.empty BS p1) (rdOf ByteArray.empty BS p2) 0 t) else ((changelinglaw6_told.f k).bind fun t283 => (some t283)))) hb2 ?_
  cases b with
  | true =>
    have c := hc rfl
    exact Ev.congr (fun k => if_pos rfl) (base_loop t hl hn c (clean_good c hn) _ _ m1 m2 t.length 0 (by omega))
  | false => exact Ev.congr (fun k => if_neg (by decide)) (Ev.bind (f := fun _ t => some t) told_ev (Ev.now _))
end Go.Proofs.Ytddggdhkhfephaa.Pure
