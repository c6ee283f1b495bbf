/- Few statements, in plain Lean: counting them ends, few ones have short rows, and Passes tells of them. No conditions. -/
import Derived.Test.YtigfdkchblhkdaaQx3
import Derived.IntWalk
namespace Go.Proofs.Ytigfdkchblhkdaa.Pure
open Go Go.RowKit Go.Proofs.Ytigfdkchblhkdaa Go.Proofs.Ytigfdkchblhkdaa.Q Go.Proofs.YtigfdkchblhkdaaW.PrintWords Go.Proofs.YtigfdkchblhkdaaW.PrintLast

theorem mn_low (n : Int) (h : 0 ≤ n) : 0 ≤ mn n 401 ∧ mn n 401 ≤ 401 ∧ (mn n 401 ≤ 400 → n ≤ 400) := by
  unfold mn; split <;> omega
theorem w_up (n : Nat) (h : n ≤ 1000000) : wrap64 ((n : Int) + 1) = ((n + 1 : Nat) : Int) := by rw [IntWalk.wrap64_in _ (by omega)]; rfl
theorem w_up' (n : Nat) (h : n ≤ 1000000) : wrap64 ((n : Int) + 1) = (n : Int) + 1 := IntWalk.wrap64_in _ (by omega)
theorem w_sum (n : Nat) (t : Int) (h : n ≤ 1000000) (t0 : 0 ≤ t) (t1 : t ≤ 1000000) : wrap64 ((n : Int) + 1 + t) = ((n + 1 + t.toNat : Nat) : Int) := by rw [IntWalk.wrap64_in _ (by omega)]; omega
theorem exprs_ev : ∀ (d deep : Nat) (l : List S27), deep + d = 61 → ∃ r : Int, Ev (fun k => changelinglaw3_exprs.f k l (deep : Int)) r ∧ 0 ≤ r ∧ r ≤ 401 := by
  intro d
  induction d with
  | zero =>
    intro deep l hd
    refine ⟨if l = [] then 0 else 401, ?_, by split <;> decide, by split <;> decide⟩
    refine Ev.step (f := fun k => changelinglaw3_exprs.l0 k l (deep : Int) 0 0) (fun k => by simp only [changelinglaw3_exprs.f]) ?_
    cases l with
    | nil =>
      refine Ev.step (f := fun k => changelinglaw3_exprs.j1 k [] (deep : Int) 0 0 false) (fun k => by simp only [changelinglaw3_exprs.l0]; rw [if_neg (by decide)]) ?_
      exact Ev.step (f := fun _ => some 0) (fun k => by simp only [changelinglaw3_exprs.j1]; rw [if_neg (by decide)]; rfl) (Ev.now _)
    | cons x l =>
      refine Ev.step (f := fun k => changelinglaw3_exprs.j1 k (x :: l) (deep : Int) 0 0 true) (fun k => by simp only [changelinglaw3_exprs.l0]; rw [if_pos (by simp)]; rfl) ?_
      exact Ev.step (f := fun _ => some 401) (fun k => by simp only [changelinglaw3_exprs.j1]; rw [if_pos trivial, if_pos (by omega)]) (Ev.now _)
  | succ d ih =>
    intro deep l hd
    have loop : ∀ (m i n : Nat), n + m = 401 + 401 → i ≤ n → n ≤ 802 → ∃ r : Int, Ev (fun k => changelinglaw3_exprs.l0 k l (deep : Int) (n : Int) (i : Int)) r ∧ 0 ≤ r ∧ r ≤ 401 := by
      intro m
      induction m using Nat.strongRecOn with
      | _ m ihm =>
        intro i n hm hin hn
        have stop : ∃ r : Int, Ev (fun k => changelinglaw3_exprs.j1 k l (deep : Int) (n : Int) (i : Int) false) r ∧ 0 ≤ r ∧ r ≤ 401 := by
          have := mn_low (n : Int) (by omega)
          exact ⟨mn (n : Int) 401, Ev.step (f := fun _ => some (mn (n : Int) 401)) (fun k => by simp only [changelinglaw3_exprs.j1]; rw [if_neg (by decide)]) (Ev.now _), this.1, this.2.1⟩
        by_cases hi : i < l.length
        · by_cases hn4 : n < 401
          · have big : ∀ (k : Nat) (c : Bool), True := fun _ _ => trivial
            obtain ⟨t, ht, t0, t1⟩ := ih (deep + 1) (rd_T27 l (i : Int)).f5 (by omega)
            have first : ∀ r, Ev (fun k => changelinglaw3_exprs.j1 k l (deep : Int) (n : Int) (i : Int) true) r → Ev (fun k => changelinglaw3_exprs.l0 k l (deep : Int) (n : Int) (i : Int)) r := fun r hr =>
              Ev.step (fun k => by simp only [changelinglaw3_exprs.l0]; rw [if_pos (by omega), decide_eq_true (by omega : (n : Int) < 401)]) hr
            by_cases b1 : ((rd_T27 l (i : Int)).f2.size : Int) > 2000
            · exact ⟨401, first _ (Ev.step (f := fun _ => some 401) (fun k => by simp only [changelinglaw3_exprs.j1]; rw [if_pos trivial, if_neg (by omega), if_pos (by omega), if_pos (by omega), if_pos b1]) (Ev.now _)), by decide, by decide⟩
            by_cases b2 : ((rd_T27 l (i : Int)).f3.size : Int) > 100
            · exact ⟨401, first _ (Ev.step (f := fun _ => some 401) (fun k => by simp only [changelinglaw3_exprs.j1]; rw [if_pos trivial, if_neg (by omega), if_pos (by omega), if_pos (by omega), if_neg b1, if_pos b2]) (Ev.now _)), by decide, by decide⟩
            by_cases b3 : ((rd_T27 l (i : Int)).f4.size : Int) > 100
            · exact ⟨401, first _ (Ev.step (f := fun _ => some 401) (fun k => by simp only [changelinglaw3_exprs.j1]; rw [if_pos trivial, if_neg (by omega), if_pos (by omega), if_pos (by omega), if_neg b1, if_neg b2, if_pos b3]) (Ev.now _)), by decide, by decide⟩
            obtain ⟨r, hr, h0, h1⟩ := ihm (802 - (n + 1 + t.toNat)) (by omega) (i + 1) (n + 1 + t.toNat) (by omega) (by omega) (by omega)
            refine ⟨r, first _ (Ev.step (f := fun k => (changelinglaw3_exprs.f k (rd_T27 l (i : Int)).f5 ((deep + 1 : Nat) : Int)).bind fun t105 => (changelinglaw3_exprs.l0 k l (deep : Int) (wrap64 ((n : Int) + 1 + t105)) ((i + 1 : Nat) : Int))) (fun k => ?_) ?_), h0, h1⟩
            · simp only [changelinglaw3_exprs.j1]
              rw [if_pos trivial, if_neg (by omega), if_pos (by omega), if_pos (by omega), if_neg b1, if_neg b2, if_neg b3, w_up deep (by omega), w_up i (by omega), w_up' n (by omega)]
            · refine Ev.bind (f := fun k t105 => (changelinglaw3_exprs.l0 k l (deep : Int) (wrap64 ((n : Int) + 1 + t105)) ((i + 1 : Nat) : Int))) ht ?_
              rw [w_sum n t (by omega) t0 (by omega)]; exact hr
          · obtain ⟨r, hr, h⟩ := stop
            exact ⟨r, Ev.step (fun k => by simp only [changelinglaw3_exprs.l0]; rw [if_pos (by omega), decide_eq_false (by omega : ¬ (n : Int) < 401)]) hr, h⟩
        · obtain ⟨r, hr, h⟩ := stop
          exact ⟨r, Ev.step (fun k => by simp only [changelinglaw3_exprs.l0]; rw [if_neg (by omega)]) hr, h⟩
    obtain ⟨r, hr, h⟩ := loop 802 0 0 (by omega) (by omega) (by omega)
    exact ⟨r, Ev.step (f := fun k => changelinglaw3_exprs.l0 k l (deep : Int) 0 0) (fun k => by simp only [changelinglaw3_exprs.f]) hr, h⟩
def Told (l : List S29) : Prop := ∃ b, Ev (fun k => flow_Passes.f k l) b
theorem either_ev {p q : Nat → Option Bool} (hp : ∃ b, Ev p b) (hq : ∃ b, Ev q b) : ∃ b, Ev (fun k => eitherO (p k) (q k)) b := by
  obtain ⟨a, ha⟩ := hp
  obtain ⟨b, hb⟩ := hq
  unfold eitherO
  cases a with
  | true => exact ⟨true, Ev.bind (f := fun k a => if a = true then some true else q k) ha (Ev.congr (fun k => if_pos rfl) (Ev.now _))⟩
  | false => exact ⟨b, Ev.bind (f := fun k a => if a = true then some true else q k) ha (Ev.congr (fun k => if_neg (by decide)) hb)⟩
theorem st_ev (s : S29) (h5 : Told s.f5) (h6 : Told s.f6) (h7 : Told s.f7) : ∃ b, Ev (fun k => stO (flow_Passes.f k) s) b := by
  unfold stO
  by_cases k6 : s.f0 = 6
  · exact ⟨false, Ev.congr (fun k => if_pos k6) (Ev.now _)⟩
  by_cases k9 : s.f0 = 9
  · exact ⟨false, Ev.congr (fun k => by rw [if_neg k6, if_pos k9]) (Ev.now _)⟩
  by_cases k4 : s.f0 = 4
  · obtain ⟨b, hb⟩ := either_ev h5 h6
    exact ⟨b, Ev.congr (fun k => by rw [if_neg k6, if_neg k9, if_pos k4]) hb⟩
  by_cases k5 : s.f0 = 5
  · exact ⟨!everZ s.f4, Ev.congr (fun k => by rw [if_neg k6, if_neg k9, if_neg k4, if_pos k5]) (Ev.now _)⟩
  by_cases k10 : s.f0 = 10
  · obtain ⟨a, ha⟩ := either_ev h5 h6
    obtain ⟨c, hc⟩ := h7
    cases a with
    | true => exact ⟨c, Ev.congr (fun k => by rw [if_neg k6, if_neg k9, if_neg k4, if_neg k5, if_pos k10]) (Ev.bind (f := fun k a => if a = true then flow_Passes.f k s.f7 else some false) ha (Ev.congr (fun k => if_pos rfl) hc))⟩
    | false => exact ⟨false, Ev.congr (fun k => by rw [if_neg k6, if_neg k9, if_neg k4, if_neg k5, if_pos k10]) (Ev.bind (f := fun k a => if a = true then flow_Passes.f k s.f7 else some false) ha (Ev.congr (fun k => if_neg (by decide)) (Ev.now _)))⟩
  exact ⟨true, Ev.congr (fun k => by rw [if_neg k6, if_neg k9, if_neg k4, if_neg k5, if_neg k10]) (Ev.now _)⟩
theorem all_ev {p : Nat → S29 → Option Bool} : ∀ l : List S29, (∀ x ∈ l, ∃ b, Ev (fun k => p k x) b) → ∃ b, Ev (fun k => allO (p k) l) b
  | [], _ => ⟨true, Ev.now _⟩
  | x :: l, h => by
    obtain ⟨b, hb⟩ := h x (by simp)
    obtain ⟨c, hc⟩ := all_ev l (fun y hy => h y (by simp [hy]))
    cases b with
    | true => exact ⟨c, Ev.bind (f := fun k b => if b = true then allO (p k) l else some false) hb (Ev.congr (fun k => if_pos rfl) hc)⟩
    | false => exact ⟨false, Ev.bind (f := fun k b => if b = true then allO (p k) l else some false) hb (Ev.congr (fun k => if_neg (by decide)) (Ev.now _))⟩
theorem told_of {l : List S29} (hl : l.length ≤ 400) (h : ∀ x ∈ l, ∃ b, Ev (fun k => stO (flow_Passes.f k) x) b) : Told l := by
  obtain ⟨b, hb⟩ := all_ev (p := fun k => stO (flow_Passes.f k)) l h
  exact ⟨b, Ev.step (fun k => by simp only [flow_Passes.f]; rw [if_pos (by omega)]) hb⟩
theorem w_add (n : Nat) (t : Int) (h : n ≤ 1000000) (t0 : 0 ≤ t) (t1 : t ≤ 401) : wrap64 ((n : Int) + t) = ((n + t.toNat : Nat) : Int) := by rw [IntWalk.wrap64_in _ (by omega)]; omega
theorem stmts_ev : ∀ (d deep : Nat) (l : List S29), deep + d = 61 → ∃ r : Int, Ev (fun k => changelinglaw3_stmts.f k l (deep : Int)) r ∧ 0 ≤ r ∧ r ≤ 401 ∧ (r ≤ 400 → l.length ≤ 400 ∧ Told l) := by
  intro d
  induction d with
  | zero =>
    intro deep l hd
    cases l with
    | nil =>
      refine ⟨0, Ev.step (f := fun k => changelinglaw3_stmts.l0 k [] (deep : Int) 0 0) (fun k => by simp only [changelinglaw3_stmts.f]) ?_, by decide, by decide, fun _ => ⟨by decide, told_of (by decide) (by simp)⟩⟩
      refine Ev.step (f := fun k => changelinglaw3_stmts.j1 k [] (deep : Int) 0 0 false) (fun k => by simp only [changelinglaw3_stmts.l0]; rw [if_neg (by decide)]) ?_
      exact Ev.step (f := fun _ => some 0) (fun k => by simp only [changelinglaw3_stmts.j1]; rw [if_neg (by decide)]; rfl) (Ev.now _)
    | cons x l =>
      refine ⟨401, Ev.step (f := fun k => changelinglaw3_stmts.l0 k (x :: l) (deep : Int) 0 0) (fun k => by simp only [changelinglaw3_stmts.f]) ?_, by decide, by decide, fun h => absurd h (by decide)⟩
      refine Ev.step (f := fun k => changelinglaw3_stmts.j1 k (x :: l) (deep : Int) 0 0 true) (fun k => by simp only [changelinglaw3_stmts.l0]; rw [if_pos (by simp)]; rfl) ?_
      refine Ev.step (f := fun k => changelinglaw3_stmts.j2 k (x :: l) (deep : Int) 0 0 true) (fun k => by simp only [changelinglaw3_stmts.j1]; rw [if_pos trivial, if_pos (by omega)]) ?_
      exact Ev.step (f := fun _ => some 401) (fun k => by simp only [changelinglaw3_stmts.j2]; rw [if_pos trivial]) (Ev.now _)
  | succ d ih =>
    intro deep l hd
    have loop : ∀ (m i n : Nat), n + m = 4000 → i ≤ n → n ≤ 4000 → ∃ r : Int, Ev (fun k => changelinglaw3_stmts.l0 k l (deep : Int) (n : Int) (i : Int)) r ∧ 0 ≤ r ∧ r ≤ 401 ∧ (r ≤ 400 → l.length + n ≤ i + 400 ∧ ∀ (j : Nat) (h : j < l.length), i ≤ j → ∃ b, Ev (fun k => stO (flow_Passes.f k) l[j]) b) := by
      intro m
      induction m using Nat.strongRecOn with
      | _ m ihm =>
        intro i n hm hin hn
        have stop : Ev (fun k => changelinglaw3_stmts.j1 k l (deep : Int) (n : Int) (i : Int) false) (mn (n : Int) 401) :=
          Ev.step (f := fun _ => some (mn (n : Int) 401)) (fun k => by simp only [changelinglaw3_stmts.j1]; rw [if_neg (by decide)]) (Ev.now _)
        have hmn := mn_low (n : Int) (by omega)
        by_cases hi : i < l.length
        · by_cases hn4 : n < 401
          · have first : ∀ r, Ev (fun k => changelinglaw3_stmts.j1 k l (deep : Int) (n : Int) (i : Int) true) r → Ev (fun k => changelinglaw3_stmts.l0 k l (deep : Int) (n : Int) (i : Int)) r := fun r hr =>
              Ev.step (fun k => by simp only [changelinglaw3_stmts.l0]; rw [if_pos (by omega), decide_eq_true (by omega : (n : Int) < 401)]) hr
            have bad : Ev (fun k => changelinglaw3_stmts.j2 k l (deep : Int) (n : Int) (i : Int) true) 401 := Ev.step (f := fun _ => some 401) (fun k => by simp only [changelinglaw3_stmts.j2]; rw [if_pos trivial]) (Ev.now _)
            by_cases b1 : ((rd_T29 l (i : Int)).f3.size : Int) > 100
            · exact ⟨401, first _ (Ev.step (fun k => by simp only [changelinglaw3_stmts.j1]; rw [if_pos trivial, if_neg (by omega), if_pos (by omega), if_pos (by omega), if_pos b1]) bad), by decide, by decide, fun h => absurd h (by decide)⟩
            by_cases b2 : ((rd_T29 l (i : Int)).f2.size : Int) > 100
            · exact ⟨401, first _ (Ev.step (fun k => by simp only [changelinglaw3_stmts.j1]; rw [if_pos trivial, if_neg (by omega), if_pos (by omega), if_pos (by omega), if_neg b1, decide_eq_true b2]) bad), by decide, by decide, fun h => absurd h (by decide)⟩
            have hrd : rd_T29 l (i : Int) = l[i] := by unfold rd_T29; rw [Int.toNat_natCast, List.getD_eq_getElem?_getD, List.getElem?_eq_getElem hi]; rfl
            rw [hrd] at b1 b2
            obtain ⟨t, ht, t0, t1⟩ := exprs_ev 61 0 (l[i]).f4 (by omega)
            obtain ⟨ta, hta, ta0, ta1, ta2⟩ := ih (deep + 1) (l[i]).f5 (by omega)
            obtain ⟨tb, htb, tb0, tb1, tb2⟩ := ih (deep + 1) (l[i]).f6 (by omega)
            obtain ⟨tc, htc, tc0, tc1, tc2⟩ := ih (deep + 1) (l[i]).f7 (by omega)
            obtain ⟨n2, hn2⟩ : ∃ n2 : Nat, n2 = n + 1 + t.toNat + ta.toNat + tb.toNat + tc.toNat := ⟨_, rfl⟩
            obtain ⟨r, hr, h0, h1, h2⟩ := ihm (4000 - n2) (by omega) (i + 1) n2 (by omega) (by omega) (by omega)
            refine ⟨r, first _ ?_, h0, h1, fun hr4 => ?_⟩
            · refine Ev.step (f := fun k => changelinglaw3_stmts.j2 k l (deep : Int) (n : Int) (i : Int) false) (fun k => by simp only [changelinglaw3_stmts.j1]; rw [if_pos trivial, if_neg (by omega), if_pos (by omega), if_pos (by omega), hrd, if_neg b1, decide_eq_false b2]) ?_
              refine Ev.step (f := fun k => (changelinglaw3_exprs.f k (l[i]).f4 0).bind fun t109 => ((changelinglaw3_stmts.f k (l[i]).f5 ((deep + 1 : Nat) : Int)).bind fun t111 => ((changelinglaw3_stmts.f k (l[i]).f6 ((deep + 1 : Nat) : Int)).bind fun t113 => ((changelinglaw3_stmts.f k (l[i]).f7 ((deep + 1 : Nat) : Int)).bind fun t115 => (changelinglaw3_stmts.l0 k l (deep : Int) (wrap64 ((wrap64 ((wrap64 ((wrap64 ((wrap64 ((n : Int) + 1)) + t109)) + t111)) + t113)) + t115)) ((i + 1 : Nat) : Int)))))) (fun k => ?_) ?_
              · simp only [changelinglaw3_stmts.j2]
                rw [if_neg (by decide), if_pos (by omega), if_pos (by omega), hrd, w_up deep (by omega), w_up i (by omega)]
              refine Ev.bind (f := fun k t109 => ((changelinglaw3_stmts.f k (l[i]).f5 ((deep + 1 : Nat) : Int)).bind fun t111 => ((changelinglaw3_stmts.f k (l[i]).f6 ((deep + 1 : Nat) : Int)).bind fun t113 => ((changelinglaw3_stmts.f k (l[i]).f7 ((deep + 1 : Nat) : Int)).bind fun t115 => (changelinglaw3_stmts.l0 k l (deep : Int) (wrap64 ((wrap64 ((wrap64 ((wrap64 ((wrap64 ((n : Int) + 1)) + t109)) + t111)) + t113)) + t115)) ((i + 1 : Nat) : Int)))))) ht ?_
              refine Ev.bind (f := fun k t111 => ((changelinglaw3_stmts.f k (l[i]).f6 ((deep + 1 : Nat) : Int)).bind fun t113 => ((changelinglaw3_stmts.f k (l[i]).f7 ((deep + 1 : Nat) : Int)).bind fun t115 => (changelinglaw3_stmts.l0 k l (deep : Int) (wrap64 ((wrap64 ((wrap64 ((wrap64 ((wrap64 ((n : Int) + 1)) + t)) + t111)) + t113)) + t115)) ((i + 1 : Nat) : Int))))) hta ?_
              refine Ev.bind (f := fun k t113 => ((changelinglaw3_stmts.f k (l[i]).f7 ((deep + 1 : Nat) : Int)).bind fun t115 => (changelinglaw3_stmts.l0 k l (deep : Int) (wrap64 ((wrap64 ((wrap64 ((wrap64 ((wrap64 ((n : Int) + 1)) + t)) + ta)) + t113)) + t115)) ((i + 1 : Nat) : Int)))) htb ?_
              refine Ev.bind (f := fun k t115 => (changelinglaw3_stmts.l0 k l (deep : Int) (wrap64 ((wrap64 ((wrap64 ((wrap64 ((wrap64 ((n : Int) + 1)) + t)) + ta)) + tb)) + t115)) ((i + 1 : Nat) : Int))) htc ?_
              rw [w_up n (by omega), w_add (n + 1) t (by omega) t0 t1, w_add _ ta (by omega) ta0 ta1, w_add _ tb (by omega) tb0 tb1, w_add _ tc (by omega) tc0 tc1, ← hn2]
              exact hr
            · obtain ⟨q1, q2⟩ := h2 hr4
              refine ⟨by omega, fun j hj hij => ?_⟩
              by_cases e : j = i
              · subst e
                exact st_ev _ (ta2 (by omega)).2 (tb2 (by omega)).2 (tc2 (by omega)).2
              · exact q2 j hj (by omega)
          · exact ⟨_, Ev.step (fun k => by simp only [changelinglaw3_stmts.l0]; rw [if_pos (by omega), decide_eq_false (by omega : ¬ (n : Int) < 401)]) stop, hmn.1, hmn.2.1, fun h => by have := hmn.2.2 h; omega⟩
        · exact ⟨_, Ev.step (fun k => by simp only [changelinglaw3_stmts.l0]; rw [if_neg (by omega)]) stop, hmn.1, hmn.2.1, fun h => ⟨by have := hmn.2.2 h; omega, fun j hj hij => absurd hj (by omega)⟩⟩
    obtain ⟨r, hr, h0, h1, h2⟩ := loop 4000 0 0 (by omega) (by omega) (by omega)
    refine ⟨r, Ev.step (f := fun k => changelinglaw3_stmts.l0 k l (deep : Int) 0 0) (fun k => by simp only [changelinglaw3_stmts.f]) hr, h0, h1, fun h => ?_⟩
    obtain ⟨q1, q2⟩ := h2 h
    refine ⟨by omega, told_of (by omega) (fun x hx => ?_)⟩
    obtain ⟨j, hj, e⟩ := List.getElem_of_mem hx
    rw [← e]; exact q2 j hj (Nat.zero_le _)
theorem few_ev (l : List S29) : ∃ b, Ev (fun k => changelinglaw3_FewStmts.f k l) b ∧ (b = true → l.length ≤ 400 ∧ Told l) := by
  obtain ⟨r, hr, _, _, h⟩ := stmts_ev 61 0 l (by omega)
  exact ⟨decide (r ≤ 400), Ev.bind (g := fun k => changelinglaw3_stmts.f k l 0) (f := fun _ t => some (decide (t ≤ 400))) hr (Ev.now _), fun e => h (by simpa using e)⟩
end Go.Proofs.Ytigfdkchblhkdaa.Pure
