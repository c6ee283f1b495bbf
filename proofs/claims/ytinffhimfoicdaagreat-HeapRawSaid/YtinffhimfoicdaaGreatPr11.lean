/- Texts of the claim, merged: HV, TL, FW, RW. No conditions. -/
import Derived.Test.YtinffhimfoicdaaGreatPr10
import Derived.Test.YtinffhimfoicdaaGreatPr1
/- The heap of the closed program: what its functions leave. No conditions. -/
namespace Go.Proofs.YtinffhimfoicdaaGreat
open Go Go.RowKit Go.Proofs.YtinffhimfoicdaaGreat.Calc
set_option linter.unusedVariables false
set_option linter.unusedSimpArgs false
set_option maxRecDepth 100000
set_option maxHeartbeats 8000000
attribute [local irreducible] Tri TriL TriP CallT stepV stepW thenQ inQ endQ endN

abbrev vNo : BV := .d (.flat (.pointer none))
theorem q28 (x y : Operand) : (quiet Tryz.prog (do eqGuard .eql 28 x y (.pointer none) (.pointer none); binOp .eql 28 (.pointer none) (.pointer none))).bind constB = some (vB true) := by kernel_rfl
theorem q39a (x y : Operand) : (quiet Tryz.prog (do eqGuard .eql 39 x y (.agg #[.int .i64 4, .int .i32 1, .string ⟨#[]⟩]) (.agg #[.int .i64 4, .int .i32 1, .string ⟨#[]⟩]); binOp .eql 39 (.agg #[.int .i64 4, .int .i32 1, .string ⟨#[]⟩]) (.agg #[.int .i64 4, .int .i32 1, .string ⟨#[]⟩]))).bind constB = some (vB true) := by kernel_rfl
theorem q39b (x y : Operand) : (quiet Tryz.prog (do eqGuard .eql 39 x y (.agg #[.int .i64 1, .int .i32 0, .string ⟨#[]⟩]) (.agg #[.int .i64 1, .int .i32 0, .string ⟨#[]⟩]); binOp .eql 39 (.agg #[.int .i64 1, .int .i32 0, .string ⟨#[]⟩]) (.agg #[.int .i64 1, .int .i32 0, .string ⟨#[]⟩]))).bind constB = some (vB true) := by kernel_rfl
theorem q39c (x y : Operand) : (quiet Tryz.prog (do eqGuard .eql 39 x y (.agg #[.int .i64 4, .int .i32 0, .string ⟨#[]⟩]) (.agg #[.int .i64 4, .int .i32 0, .string ⟨#[]⟩]); binOp .eql 39 (.agg #[.int .i64 4, .int .i32 0, .string ⟨#[]⟩]) (.agg #[.int .i64 4, .int .i32 0, .string ⟨#[]⟩]))).bind constB = some (vB true) := by kernel_rfl
theorem fd39 : fdOf Tryz.prog 39 1 = some (21, 1) := by kernel_rfl

theorem E_eqT {P : Program} {st : St} {ρ : Rg} {x y : Operand} {t ty : Nat} {k : IntKind} {a : Int} (hx : fl ρ x = some (.int k a)) (hy : fl ρ y = some (.int k a)) : stepV P st ρ (.binOp .eql t x y ty) = some (vB true) := by
  rw [E_eql hx hy, decide_eq_true rfl]
theorem E_seqT {P : Program} {st : St} {ρ : Rg} {x y : Operand} {t ty : Nat} {a : ByteArray} (hx : fl ρ x = some (.string a)) (hy : fl ρ y = some (.string a)) : stepV P st ρ (.binOp .eql t x y ty) = some (vB true) := by
  rw [E_seql hx hy, decide_eq_true rfl]
theorem q4 (a b : Bool) (x y : Operand) : (quiet Tryz.prog (do eqGuard .eql 4 x y (.bool a) (.bool b); binOp .eql 4 (.bool a) (.bool b))).bind constB = some (vB (decide (a = b))) := by
  cases a <;> cases b <;> kernel_rfl
theorem E_beq4 {st : St} {ρ : Rg} {x y : Operand} {ty : Nat} {a b : Bool} (hx : fl ρ x = some (.bool a)) (hy : fl ρ y = some (.bool b)) : stepV Tryz.prog st ρ (.binOp .eql 4 x y ty) = some (vB (decide (a = b))) := by
  simp only [stepV, hx, hy]
  exact q4 a b x y
-- nobody
theorem sp19n : PC 19 [vNo] (fun r => r = vI 0) := by
  intro S T M
  refine callT_go [] [] Tryz.func19 rfl Tryz.ntmps19 Tryz.results19 ?_
  repeat' (first | apply triL_nil | (apply V; apply rfl; (first | (apply E_mv; apply rfl) | (apply E_as; apply rfl))) | (apply VR; apply rfl; apply opR_bin; apply rfl; apply rfl; apply rfl; exact q28 _ _) | (apply s_region; apply rfl) | apply tri_seq | apply tri_ret | (apply tri_condT; apply rfl) | (apply end_q _ (.inr rfl); (exact List.prefix_append _ _); (focus repeat (first | apply R_nil | (apply R_tmp; apply rfl))); apply rfl) | apply p_thenR)
  rfl
theorem sp11n (c : ByteArray) : PC 11 [vNo, vS c] (fun r => r = .tup [vVl vl0, vB false]) := by
  intro S T M
  refine callT_go [] [] Tryz.func11 rfl Tryz.ntmps11 Tryz.results11 ?_
  repeat' (first | apply triL_nil | (apply V; apply rfl; (first | (apply E_mv; apply rfl) | (apply E_as; apply rfl) | (apply E_pkT; apply rfl; apply rfl) | (apply E_bd; (apply plT; apply rfl); apply rfl))) | (apply VR; apply rfl; apply opR_bin; apply rfl; apply rfl; apply rfl; exact q28 _ _) | (apply Vo; apply rfl) | (apply Vw; apply rfl; (apply W_alL; apply rfl; (apply tyT; apply rfl))) | (apply Vs; apply rfl; (apply W_stL; apply rfl; (apply tyT; apply rfl); apply rfl; apply rfl; apply rfl; (first | apply okC_new | (apply okC_ge; omega)); apply rfl; apply rfl; (first | decide | (apply Nat.le_of_ble_eq_true; rfl)))) | (apply s_region; apply rfl) | apply tri_seq | apply tri_ret | (apply tri_condT; apply rfl) | (apply end_q _ (.inr rfl); (exact List.prefix_append _ _); (focus repeat (first | apply R_nil | (apply R_tmp; apply rfl) | (apply R_cell; apply rfl; apply rfl; apply tyT; apply rfl; apply rfl; apply rfl))); apply rfl) | apply p_thenR)
  rfl

theorem pre_appA {α : Type} {A B C : List α} (h : A <+: B) : A <+: B ++ C := h.trans (List.prefix_append _ _)
theorem pre_setA {α : Type} {A B : List α} (h : A <+: B) {i : Nat} {x : α} (hi : A.length ≤ i) : A <+: B.set i x := by
  obtain ⟨X, hX⟩ := h
  subst hX
  rw [List.set_append_right _ _ hi]
  exact List.prefix_append _ _
theorem upd_same (tb : Nat → Tbl) (i : Nat) (t : Tbl) : (fun j => if j = i then t else tb j) i = t := if_pos rfl
/-- A heap stands where: the box, the tags, the maps. -/
structure Hp (nb : Nat) (T0 : List Nat) (M0 : List (List (Value × DV))) (id sid tg : Nat) (l : List (ByteArray × Nat)) (ts : Tbl) (tb : Nat → Tbl) (S : List (List BV × Nat)) (T : List Nat) (M : List (List (Value × DV))) : Prop where
  ge : nb ≤ id
  box : T0.length ≤ tg ∧ S[id]? = some ([.d (encL encCl P0), .own 79 2 tg (l.flatMap encOb) l.length, .d (.map sid)], 73) ∧ T[tg]? = some (l.flatMap encOb).length
  pre : T0 <+: T
  preM : M0 <+: M
  sge : M0.length ≤ sid
  st : M[sid]? = some (encM ts)
  ok : OKM ts
  ob : ∀ (i : Nat) (o : ByteArray × Nat), l[i]? = some o → o.1 = cB ∧ sid < o.2 ∧ M[o.2]? = some (encM (tb i)) ∧ OKM (tb i)
  dist : ∀ (i j : Nat) (o o' : ByteArray × Nat), l[i]? = some o → l[j]? = some o' → o.2 = o'.2 → i = j
  len : l.length ≤ 200
section
variable {nb id sid tg : Nat} {T0 : List Nat} {M0 : List (List (Value × DV))} {l : List (ByteArray × Nat)} {ts : Tbl} {tb : Nat → Tbl} {S : List (List BV × Nat)} {T : List Nat} {M : List (List (Value × DV))}
theorem Hp.more (h : Hp nb T0 M0 id sid tg l ts tb S T M) (L : List (List BV × Nat)) (X : List Nat) : Hp nb T0 M0 id sid tg l ts tb (S ++ L) (T ++ X) M := by
  obtain ⟨h1, h2, h3⟩ := h.box
  exact { h with
    box := ⟨h1, at_old h2, by rw [List.getElem?_append_left (List.getElem?_eq_some_iff.1 h3).1]; exact h3⟩
    pre := pre_app h.pre }
theorem Hp.setT (h : Hp nb T0 M0 id sid tg l ts tb S T M) {t n : Nat} (ht : t ≠ tg) (h0 : T0.length ≤ t) : Hp nb T0 M0 id sid tg l ts tb S (T.set t n) M := by
  obtain ⟨h1, h2, h3⟩ := h.box
  exact { h with
    box := ⟨h1, h2, by rw [List.getElem?_set_ne ht]; exact h3⟩
    pre := pre_set h.pre h0 }
theorem Hp.moreM (h : Hp nb T0 M0 id sid tg l ts tb S T M) (N : List (List (Value × DV))) : Hp nb T0 M0 id sid tg l ts tb S T (M ++ N) := by
  have q : ∀ {i : Nat} {x : List (Value × DV)}, M[i]? = some x → (M ++ N)[i]? = some x := fun hx => by
    rw [List.getElem?_append_left (List.getElem?_eq_some_iff.1 hx).1]
    exact hx
  exact { h with
    preM := pre_appA h.preM
    st := q h.st
    ob := fun i o ho => ⟨(h.ob i o ho).1, (h.ob i o ho).2.1, q (h.ob i o ho).2.2.1, (h.ob i o ho).2.2.2⟩ }
theorem okM_tS : OKM tS := by
  refine ⟨by decide +kernel, fun p hp => ?_⟩
  simp only [tS, List.mem_cons, List.not_mem_nil, or_false] at hp
  rcases hp with rfl | rfl
  · exact okT_of (c := cA) (k := 1) (by decide) (by decide)
  · exact okT_of (c := cT) (k := 0) (by decide) (by decide)
theorem okM_tB : OKM tB := by
  refine ⟨by decide +kernel, fun p hp => ?_⟩
  simp only [tB, List.mem_cons, List.not_mem_nil, or_false] at hp
  rcases hp with rfl | rfl | rfl | rfl | rfl | rfl
  · exact okT_of (c := cB) (k := 0) (by decide) (by decide)
  · exact okT_of (c := cB) (k := 1) (by decide) (by decide)
  · exact okT_of (c := cB) (k := 2) (by decide) (by decide)
  · exact okT_of (c := cA) (k := 0) (by decide) (by decide)
  · exact okT_of (c := cA) (k := 2) (by decide) (by decide)
  · exact okT_of (c := cA) (k := 3) (by decide) (by decide)
theorem new_p (nb : Nat) (T0 : List Nat) (M0 : List (List (Value × DV))) (S : List (List BV × Nat)) (T : List Nat) (M : List (List (Value × DV))) (h1 : nb ≤ S.length) (h2 : T0 <+: T) (h3 : M0 <+: M) :
    CallT Tryz.prog [] [] 8 [vP P0] ⟨S, T, M⟩ (fun r s => ∃ S1 T1 M1 id sid tg, r = .ptr id 0 ∧ s = ⟨S1 ++ [], T1 ++ [], M1⟩ ∧ nb ≤ S1.length ∧ Hp nb T0 M0 id sid tg [] tS (fun _ => tB) S1 T1 M1) := by
  refine call_ownBox 79 2 (call_mono (sp8_good P0 P0_small P0_named P0_check S T M) fun r s ⟨hr, hs⟩ => ?_)
  subst hr hs
  have e1 : (S ++ [([BV.d (encL encCl P0)], 26), ([.d (encL encCl P0), .tight [] 0, .d (.map M.length)], 73)])[S.length + 1]? = some ([.d (encL encCl P0), .tight [] 0, .d (.map M.length)], 73) := at_ rfl rfl
  have hlt := (List.getElem?_eq_some_iff.1 e1).1
  refine ⟨S.length + 1, _, _, 1, e1, rfl, _, _, _, S.length + 1, M.length, T.length, rfl, by simp only [List.append_nil]; rfl, ?_, ?_⟩
  · simp only [List.length_set, List.length_append]; omega
  · refine ⟨by omega, ⟨h2.length_le, by rw [List.getElem?_set_self hlt]; rfl, by simp⟩, pre_app h2, pre_appA h3, h3.length_le, ?_, okM_tS, nofun, nofun, by simp⟩
    rw [P0_stat]
    simp
theorem make_p (h : Hp nb T0 M0 id sid tg l ts tb S T M) (hl : l.length < 200) (hS : nb ≤ S.length) : CallT Tryz.prog [id] [] 11 [.ptr id 0, vS cB] ⟨S, T, M⟩ (fun r s => r = .tup [vVl ⟨4, (l.length : Int) + 1, ⟨#[]⟩⟩, vB true] ∧
    ∃ S1 T1 M1 o, s = ⟨S1 ++ [], T1 ++ [], M1⟩ ∧ S1.length = S.length ∧ (∀ t, t ≠ tg → T1[t]? = T[t]?) ∧ T1.length = T.length ∧ Hp nb T0 M0 id sid tg (l ++ [o]) ts (fun j => if j = l.length then tB else tb j) S1 T1 M1) := by
  obtain ⟨h1, h2, h3⟩ := h.box
  refine call_mono (sp11_good P0 P0_small tg sid l cB hl P0_B (fun c hc => ?_) S T M id h2 h3) fun r s ⟨hr, hs⟩ => ⟨hr, ?_⟩
  · rw [P0_ch] at hc
    simp only [List.mem_cons, List.not_mem_nil, or_false] at hc
    rcases hc with rfl | rfl <;> decide
  · rw [P0_ch, P0_inst] at hs
    have htl := (List.getElem?_eq_some_iff.1 h3).1
    have hil := (List.getElem?_eq_some_iff.1 h2).1
    have hsl := (List.getElem?_eq_some_iff.1 h.st).1
    have q : ∀ {i : Nat} {x : List (Value × DV)}, M[i]? = some x → (M ++ [encM tB])[i]? = some x := fun hx => by
      rw [List.getElem?_append_left (List.getElem?_eq_some_iff.1 hx).1]
      exact hx
    refine ⟨_, _, _, (cB, M.length), by rw [hs, List.append_nil, List.append_nil], by simp, fun t ht => by rw [List.getElem?_set_ne (fun e => ht e.symm)], by simp, h.ge, ⟨h1, List.getElem?_set_self hil, List.getElem?_set_self htl⟩, ?_, pre_appA h.preM, h.sge, q h.st, h.ok, ?_, ?_, by simp only [List.length_append, List.length_cons, List.length_nil]; omega⟩
    · obtain ⟨X, hX⟩ := h.pre
      subst hX
      rw [List.set_append_right _ _ h1]
      exact List.prefix_append _ _
    · intro i o ho
      by_cases hi : i < l.length
      · rw [List.getElem?_append_left hi] at ho
        obtain ⟨a, b, c, d⟩ := h.ob i o ho
        have e : (if i = l.length then tB else tb i) = tb i := if_neg (by omega)
        try dsimp only
        rw [e]
        exact ⟨a, b, q c, d⟩
      · have hi' := (List.getElem?_eq_some_iff.1 ho).1
        simp only [List.length_append, List.length_cons, List.length_nil] at hi'
        obtain rfl : i = l.length := by omega
        have : o = (cB, M.length) := by simpa using ho.symm
        subst this
        dsimp only
        rw [if_pos rfl]
        exact ⟨rfl, hsl, by simp, okM_tB⟩
    · intro i j o o' ho ho' e
      have key : ∀ {i j : Nat} {o o' : ByteArray × Nat}, (l ++ [(cB, M.length)])[i]? = some o → (l ++ [(cB, M.length)])[j]? = some o' → o.2 = o'.2 → i < l.length → i = j := fun {i j o o'} ho ho' e hi => by
        rw [List.getElem?_append_left hi] at ho
        have hlt := (List.getElem?_eq_some_iff.1 (h.ob i o ho).2.2.1).1
        by_cases hj : j < l.length
        · rw [List.getElem?_append_left hj] at ho'
          exact h.dist i j o o' ho ho' e
        · have hj' := (List.getElem?_eq_some_iff.1 ho').1
          simp only [List.length_append, List.length_cons, List.length_nil] at hj'
          obtain rfl : j = l.length := by omega
          have : o' = (cB, M.length) := by simpa using ho'.symm
          subst this
          dsimp only at e
          omega
      by_cases hi : i < l.length
      · exact key ho ho' e hi
      · by_cases hj : j < l.length
        · exact (key ho' ho e.symm hj).symm
        · have hi' := (List.getElem?_eq_some_iff.1 ho).1
          have hj' := (List.getElem?_eq_some_iff.1 ho').1
          simp only [List.length_append, List.length_cons, List.length_nil] at hi' hj'
          omega
section
variable (L : List (List BV × Nat)) (X : List Nat)
theorem make_no (h : Hp nb T0 M0 id sid tg l ts tb S T M) (c : ByteArray) (hc : l.length = 200 ∨ isC P0 c = false) : CallT Tryz.prog [] [] 11 [.ptr id 0, vS c] ⟨S ++ L, T ++ X, M⟩ (fun r s => s = ⟨S ++ L, T ++ X, M⟩ ∧ r = .tup [vVl vl0, vB false]) := by
  obtain ⟨h1, h2, h3⟩ := h.box
  exact sp11_bad P0 (by decide) tg sid l c (by have := h.len; omega) hc _ _ M id (at_old h2)
theorem len_p (h : Hp nb T0 M0 id sid tg l ts tb S T M) : CallT Tryz.prog [] [] 19 [.ptr id 0] ⟨S ++ L, T ++ X, M⟩ (fun r s => s = ⟨S ++ L, T ++ X, M⟩ ∧ r = vI l.length) := by
  obtain ⟨h1, h2, h3⟩ := h.box
  exact sp19 P0 tg sid l _ _ M id (at_old h2)
theorem class_p (h : Hp nb T0 M0 id sid tg l ts tb S T M) (v : Vl) (hv : okV v) : CallT Tryz.prog [] [] 17 [.ptr id 0, vVl v] ⟨S ++ L, T ++ X, M⟩ (fun r s => s = ⟨S ++ L, T ++ X, M⟩ ∧ r = vS (clOf l v)) := by
  obtain ⟨h1, h2, h3⟩ := h.box
  exact sp17 P0 tg sid l v hv (by have := h.len; omega) _ _ M id (at_old h2)
end
/-- The value of an object. -/
def obV (i : Nat) : Vl := ⟨4, (i : Int) + 1, ⟨#[]⟩⟩
theorem mp_ob {o : ByteArray × Nat} {i : Nat} (ho : l[i]? = some o) : obOf l (obV i) = some o ∧ mpOf sid l (obV i) = some o.2 := by
  have e : obOf l (obV i) = some o := by
    unfold obOf obV
    rw [if_pos rfl]
    dsimp only
    rw [if_neg (by omega), show ((i : Int) + 1 - 1).toNat = i by omega]
    exact ho
  refine ⟨e, ?_⟩
  unfold mpOf
  rw [if_neg (by simp [obV]), e]
  rfl
theorem okV_ob {i : Nat} (hi : i < 1000) : okV (obV i) := by
  unfold okV obV
  dsimp only
  omega
theorem Hp.set (h : Hp nb T0 M0 id sid tg l ts tb S T M) {i : Nat} {o : ByteArray × Nat} (ho : l[i]? = some o) {k : Tg} (hk : okT k) (w : Vl) : Hp nb T0 M0 id sid tg l ts (fun j => if j = i then putT (tb i) k w else tb j) S T (M.set o.2 (encM (putT (tb i) k w))) := by
  obtain ⟨a, b, c, d⟩ := h.ob i _ ho
  exact { h with
    preM := pre_setA h.preM (by have := h.sge; omega)
    st := by
      rw [List.getElem?_set_ne (by omega)]
      exact h.st
    ob := by
      intro j o' hj
      obtain ⟨a', b', c', d'⟩ := h.ob j o' hj
      by_cases e : j = i
      · subst e
        obtain rfl := Option.some.inj (ho.symm.trans hj)
        try dsimp only
        rw [if_pos rfl]
        exact ⟨a', b', List.getElem?_set_self (List.getElem?_eq_some_iff.1 c).1, d'.put hk _⟩
      · try dsimp only
        rw [if_neg e]
        refine ⟨a', b', ?_, d'⟩
        rw [List.getElem?_set_ne (fun e2 => e (h.dist j i o' _ hj ho e2.symm))]
        exact c' }
theorem Hp.setS (h : Hp nb T0 M0 id sid tg l ts tb S T M) {k : Tg} (hk : okT k) (w : Vl) : Hp nb T0 M0 id sid tg l (putT ts k w) tb S T (M.set sid (encM (putT ts k w))) :=
  { h with
    preM := pre_setA h.preM h.sge
    st := List.getElem?_set_self (List.getElem?_eq_some_iff.1 h.st).1
    ok := h.ok.put hk _
    ob := by
      intro j o hj
      obtain ⟨a', b', c', d'⟩ := h.ob j o hj
      refine ⟨a', b', ?_, d'⟩
      rw [List.getElem?_set_ne (by omega)]
      exact c' }
section
variable (L : List (List BV × Nat)) (X : List Nat)
theorem class_ob (h : Hp nb T0 M0 id sid tg l ts tb S T M) (i : Nat) (hi : i < l.length) : CallT Tryz.prog [] [] 17 [.ptr id 0, vVl (obV i)] ⟨S ++ L, T ++ X, M⟩ (fun r s => s = ⟨S ++ L, T ++ X, M⟩ ∧ r = vS cB) := by
  have hl := h.len
  have ho : l[i]? = some l[i] := List.getElem?_eq_getElem hi
  have e := class_p L X h (obV i) (okV_ob (by omega))
  unfold clOf at e
  rw [(mp_ob (sid := sid) ho).1] at e
  dsimp only at e
  rw [(h.ob i _ ho).1] at e
  exact e
theorem class_no (h : Hp nb T0 M0 id sid tg l ts tb S T M) : CallT Tryz.prog [] [] 17 [.ptr id 0, vVl ⟨4, 0, ⟨#[]⟩⟩] ⟨S ++ L, T ++ X, M⟩ (fun r s => s = ⟨S ++ L, T ++ X, M⟩ ∧ r = vS ⟨#[]⟩) :=
  class_p L X h ⟨4, 0, ⟨#[]⟩⟩ (by unfold okV; decide)
theorem get_p (h : Hp nb T0 M0 id sid tg l ts tb S T M) (i : Nat) (hi : i < l.length) (k : Tg) (hk : okT k) (x : Vl) (hx : (getT (tb i) k).getD vl0 = x) : CallT Tryz.prog [] [] 15 [.ptr id 0, vVl (obV i), vTg k] ⟨S ++ L, T ++ X, M⟩ (fun r s => s = ⟨S ++ L, T ++ X, M⟩ ∧ r = vVl x) := by
  subst hx
  have hl := h.len
  obtain ⟨h1, h2, h3⟩ := h.box
  have ho : l[i]? = some l[i] := List.getElem?_eq_getElem hi
  obtain ⟨a, b, c, d⟩ := h.ob i _ ho
  exact sp15 P0 tg sid l (obV i) (okV_ob (by omega)) (by omega) k hk _ (mp_ob ho).2 (tb i) d _ _ M id (at_old h2) c
theorem get_s (h : Hp nb T0 M0 id sid tg l ts tb S T M) (k : Tg) (hk : okT k) (x : Vl) (hx : (getT ts k).getD vl0 = x) : CallT Tryz.prog [] [] 15 [.ptr id 0, vVl vl0, vTg k] ⟨S ++ L, T ++ X, M⟩ (fun r s => s = ⟨S ++ L, T ++ X, M⟩ ∧ r = vVl x) := by
  subst hx
  have hl := h.len
  obtain ⟨h1, h2, h3⟩ := h.box
  exact sp15 P0 tg sid l vl0 (by unfold okV vl0; decide) (by omega) k hk sid rfl ts h.ok _ _ M id (at_old h2) h.st
theorem set_p (h : Hp nb T0 M0 id sid tg l ts tb S T M) (i : Nat) (hi : i < l.length) (k : Tg) (hk : okT k) (w : Vl) (hg : (getT (tb i) k).isSome = true) : ∃ m, M0.length ≤ m ∧ CallT Tryz.prog [] [m] 13 [.ptr id 0, vVl (obV i), vTg k, vVl w] ⟨S ++ L, T ++ X, M⟩ (fun r s => r = vB true ∧
    ∃ M1, s = ⟨S ++ L, T ++ X, M1⟩ ∧ Hp nb T0 M0 id sid tg l ts (fun j => if j = i then putT (tb i) k w else tb j) S T M1) := by
  have hl := h.len
  obtain ⟨h1, h2, h3⟩ := h.box
  have ho : l[i]? = some l[i] := List.getElem?_eq_getElem hi
  obtain ⟨a, b, c, d⟩ := h.ob i _ ho
  refine ⟨l[i].2, by have := h.sge; omega, call_mono (sp13 P0 tg sid l (obV i) (okV_ob (by omega)) (by omega) k hk w _ (mp_ob ho).2 (tb i) d _ _ M id (at_old h2) c) fun r s ⟨hr, hs⟩ => ?_⟩
  rw [if_pos hg] at hs
  exact ⟨by rw [hr, hg], _, hs, h.set ho hk w⟩
theorem set_no (h : Hp nb T0 M0 id sid tg l ts tb S T M) (i : Nat) (hi : i < l.length) (k : Tg) (hk : okT k) (w : Vl) (hg : (getT (tb i) k).isSome = false) : ∃ m, M0.length ≤ m ∧ CallT Tryz.prog [] [m] 13 [.ptr id 0, vVl (obV i), vTg k, vVl w] ⟨S ++ L, T ++ X, M⟩ (fun r s => r = vB false ∧ s = ⟨S ++ L, T ++ X, M⟩) := by
  have hl := h.len
  obtain ⟨h1, h2, h3⟩ := h.box
  have ho : l[i]? = some l[i] := List.getElem?_eq_getElem hi
  obtain ⟨a, b, c, d⟩ := h.ob i _ ho
  refine ⟨l[i].2, by have := h.sge; omega, call_mono (sp13 P0 tg sid l (obV i) (okV_ob (by omega)) (by omega) k hk w _ (mp_ob ho).2 (tb i) d _ _ M id (at_old h2) c) fun r s ⟨hr, hs⟩ => ?_⟩
  rw [hg] at hr hs
  exact ⟨hr, hs⟩
theorem set_s (h : Hp nb T0 M0 id sid tg l ts tb S T M) (k : Tg) (hk : okT k) (w : Vl) (hg : (getT ts k).isSome = true) : ∃ m, M0.length ≤ m ∧ CallT Tryz.prog [] [m] 13 [.ptr id 0, vVl vl0, vTg k, vVl w] ⟨S ++ L, T ++ X, M⟩ (fun r s => r = vB true ∧
    ∃ M1, s = ⟨S ++ L, T ++ X, M1⟩ ∧ Hp nb T0 M0 id sid tg l (putT ts k w) tb S T M1) := by
  have hl := h.len
  obtain ⟨h1, h2, h3⟩ := h.box
  refine ⟨sid, h.sge, call_mono (sp13 P0 tg sid l vl0 (by unfold okV vl0; decide) (by omega) k hk w sid rfl ts h.ok _ _ M id (at_old h2) h.st) fun r s ⟨hr, hs⟩ => ?_⟩
  rw [if_pos hg] at hs
  exact ⟨by rw [hr, hg], _, hs, h.setS hk w⟩
end
end
end Go.Proofs.YtinffhimfoicdaaGreat

/- What heaps tell of themselves. No conditions. -/
namespace Go.Proofs.YtinffhimfoicdaaGreat
open Go Go.RowKit Go.Proofs.YtinffhimfoicdaaGreat.Calc
set_option linter.unusedVariables false
set_option linter.unusedSimpArgs false
set_option maxRecDepth 100000
set_option maxHeartbeats 8000000
attribute [local irreducible] Tri TriL TriP CallT stepV stepW thenQ inQ endQ endN P0
abbrev kT (c : ByteArray) (n : Nat) : Tg := ⟨c, (n : Int)⟩
theorem okA (n : Nat) (h : n ≤ 1000) : okT (kT cA n) := okT_of (by decide) (by omega)
theorem okB (n : Nat) (h : n ≤ 1000) : okT (kT cB n) := okT_of (by decide) (by omega)
theorem sp10 (S : List (List BV × Nat)) (T : List Nat) (M : List (List (Value × DV))) : CallT Tryz.prog [] [] 10 [] ⟨S, T, M⟩ (fun r s => r = vB true ∧ ∃ N, s = ⟨S, T, M ++ N⟩) := by
  have h7 := cl7
  have h19 := sp19n
  have h11 := sp11n cA
  have h20 := sp20 cA
  refine callT_go [] [] Tryz.func10 rfl Tryz.ntmps10 Tryz.results10 ?_
  repeat' (first | apply triL_nil | (apply V; apply rfl; (first | (apply E_eqT; apply rfl; apply rfl) | (apply E_seqT; apply rfl; apply rfl) | (apply E_mv; apply rfl) | (apply E_as; apply rfl) | (apply E_lda; (apply tyT; apply rfl); apply rfl; (apply at_; apply rfl; apply rfl); apply rfl) | (apply E_pkT; apply rfl; apply rfl) | (apply E_ex; apply rfl; apply rfl) | (apply E_not; apply rfl) | (apply E_bd; (apply plT; apply rfl); apply rfl) | (apply E_pe; exact und28; apply rfl) | (apply E_fdv; apply rfl; exact fd39; apply tyT; apply rfl; apply rfl))) | (apply Vp; apply rfl; apply rfl; apply fnT; apply rfl; apply call_wk; apply rfl; apply h7; rintro _ rfl) | (apply VR; apply rfl; apply opR_bs0; apply rfl; apply rfl; apply elT; apply rfl) | (apply Vc; apply rfl; apply rfl; apply fnT; apply rfl; exact new_p S.length T M _ _ _ (by simp only [List.length_append]; omega) (List.prefix_append _ _) (List.prefix_refl _); (intro i_ hi_; cases hi_); (intro i_ hi_; cases hi_); rintro _ _ ⟨S1, T1, M1, id, sid, tg, rfl, rfl, hS1, hp⟩) | (apply Vc; apply rfl; apply rfl; apply fnT; apply rfl; exact make_p (hp.more [] []) (by decide) (by simpa using hS1); (intro i_ hi_ _; obtain rfl := List.mem_singleton.1 hi_; exact okC_ge (k := 0) hp.ge); (intro i_ hi_; cases hi_); rintro _ _ ⟨rfl, S2, T2, M2, o, rfl, hS2, hTt, hTl, hp⟩; (have hS1 : S.length ≤ S2.length := (by rw [hS2]; simpa using hS1))) | (apply Vp; apply rfl; apply rfl; apply fnT; apply rfl; apply h11; rintro _ rfl) | (apply Vp; apply rfl; apply rfl; apply fnT; apply rfl; apply make_no _ _ hp cQ (.inr P0_Q); rintro _ rfl) | (apply VcM; apply rfl; apply rfl; apply fnT; apply rfl; exact set_p _ _ hp 0 (by simp) (kT cA 0) (okA 0 (by decide)) ⟨1, 3, ⟨#[]⟩⟩ (by decide +kernel); rintro _ _ ⟨rfl, M3, rfl, hp⟩) | (apply VcM; apply rfl; apply rfl; apply fnT; apply rfl; exact set_no _ _ hp 0 (by simp) (kT cA 1) (okA 1 (by decide)) vl0 (by decide +kernel); rintro _ _ ⟨rfl, rfl⟩) | (apply VcM; apply rfl; apply rfl; apply fnT; apply rfl; exact set_s _ _ hp (kT cA 1) (okA 1 (by decide)) ⟨1, 8, ⟨#[]⟩⟩ (by decide +kernel); rintro _ _ ⟨rfl, M4, rfl, hp⟩) | (apply VR; apply rfl; apply opR_bin; apply rfl; apply rfl; apply rfl; (first | exact q39a _ _ | exact q39b _ _ | exact q39c _ _)) | (apply Vp; apply rfl; apply rfl; apply fnT; apply rfl; apply get_p _ _ hp 0 (by simp) (kT cA 0) (okA 0 (by decide)) ⟨1, 3, ⟨#[]⟩⟩ (by decide +kernel); rintro _ rfl) | (apply Vp; apply rfl; apply rfl; apply fnT; apply rfl; apply get_p _ _ hp 0 (by simp) (kT cB 0) (okB 0 (by decide)) ⟨1, 0, ⟨#[]⟩⟩ (by decide +kernel); rintro _ rfl) | (apply Vp; apply rfl; apply rfl; apply fnT; apply rfl; apply get_s _ _ hp (kT cA 1) (okA 1 (by decide)) ⟨1, 8, ⟨#[]⟩⟩ (by decide +kernel); rintro _ rfl) | (apply Vp; apply rfl; apply rfl; apply fnT; apply rfl; apply class_ob _ _ hp 0 (by simp); rintro _ rfl) | (apply Vp; apply rfl; apply rfl; apply fnT; apply rfl; apply class_no _ _ hp; rintro _ rfl) | (apply Vp; apply rfl; apply rfl; apply fnT; apply rfl; apply len_p _ _ hp; rintro _ rfl) | (apply Vp; apply rfl; apply rfl; apply fnT; apply rfl; apply h20; rintro _ rfl) | (apply Vp; apply rfl; apply rfl; apply fnT; apply rfl; apply h19; rintro _ rfl) | (apply Vw; apply rfl; (first | (apply W_alL; apply rfl; (apply tyT; apply rfl)) | (apply W_bsL; apply rfl; (apply elT; apply rfl); (apply tyT; apply rfl); apply rfl; decide; apply rfl; apply rfl))) | (apply Vs; apply rfl; (apply W_stL; apply rfl; (apply tyT; apply rfl); apply rfl; apply rfl; apply rfl; (first | apply okC_new | (apply okC_ge; omega)); apply rfl; apply rfl; (first | decide | (apply Nat.le_of_ble_eq_true; rfl)))) | (apply s_region; apply rfl) | apply tri_seq | apply tri_skip | apply tri_ret | (apply tri_condF; apply rfl) | apply p_then)
  obtain ⟨N, hN⟩ := hp.preM
  exact end_m _ (.inr rfl) (pre_app hp.pre) (R_tmp rfl R_nil) rfl ⟨rfl, N, by rw [hN]⟩
end Go.Proofs.YtinffhimfoicdaaGreat

/- Few: which programs are few. No conditions. -/
namespace Go.Proofs.YtinffhimfoicdaaGreat
open Go Go.RowKit Go.Proofs.YtinffhimfoicdaaGreat.Calc
set_option linter.unusedVariables false
set_option linter.unusedSimpArgs false
set_option maxRecDepth 100000
set_option maxHeartbeats 8000000
attribute [local irreducible] Tri TriL TriP CallT stepV stepW thenQ inQ endQ
abbrev upI (m : Int) (r : BV) : Prop := ∃ n : Int, r = vI n ∧ 0 ≤ n ∧ n ≤ m
theorem min_up {n : Int} (h : 0 ≤ n) : upI 401 (.d (.flat (.int .i64 (if (401 : Int) < n then 401 else n)))) := by
  by_cases h1 : (401 : Int) < n
  · exact ⟨401, by rw [if_pos h1], by decide, by decide⟩
  · exact ⟨n, by rw [if_neg h1], h, by omega⟩
theorem fewEx : ∀ N (l : List Ex) (d : Int), szExs l ≤ N → 0 ≤ d → d ≤ 100 → PC 39 [.d (rowEx l), vI d] (upI 401) := by
  intro N
  induction N using Nat.strongRecOn with
  | _ N ih => ?_
  intro l d hN h0 h1
  refine row_le (d := .map 0) (fun hlen => ?_)
  intro S T M
  refine callT_go [] [] Tryz.func39 rfl Tryz.ntmps39 Tryz.results39 ?_
  repeat' (first | apply triL_nil | (apply V; apply rfl; (apply E_as; apply rfl)) | (apply s_region; apply rfl) | apply tri_seq | apply tri_block)
  refine tri_rounds (fun k : Nat × Int => l.length - k.1) (fun k => [(0, .d (rowEx l)), (1, vI d), (5, vI k.2), (6, vI k.1)]) (fun _ => ⟨S ++ [], T ++ [], M⟩) (fun k => k.1 ≤ l.length ∧ 0 ≤ k.2 ∧ k.2 ≤ 2100) (0, 0) ⟨Nat.zero_le _, by decide, by decide⟩ ⟨rfl, rfl, rfl, rfl, trivial⟩ rfl ?_
  rintro ⟨k, s⟩ ⟨hk, hs0, hs1⟩
  dsimp only at hk hs0 hs1 ⊢
  by_cases hlt : k < l.length
  · obtain ⟨⟨kd, num, t, na, ty, l', o, nth⟩, hc⟩ : ∃ c, l[k]? = some c := ⟨_, List.getElem?_eq_getElem hlt⟩
    have hsz := szEx_at hc
    rw [szEx] at hsz
    have h39 := fun h => ih (szExs l') (by omega) l' (d + 1) (Nat.le_refl _) (by omega) h
    repeat' (first | apply triL_nil | (apply V; apply rfl; (first | (apply E_mv; apply rfl) | (apply E_as; apply rfl) | (apply E_fe; (apply plT; apply rfl); apply rfl; apply rfl; decide) | (apply E_le; (apply tyT; apply rfl); apply rfl; apply rfl) | (apply E_len; (apply elT; apply rfl); apply rfl; apply rfl) | (apply E_lens; (apply udT; apply rfl); apply rfl) | (apply E_pkT; apply rfl; apply rfl) | (apply E_pkF; apply rfl; apply rfl) | (apply E_add64; apply rfl; apply rfl; apply rfl; omega) | (apply E_min; apply rfl; apply rfl) | (apply E_iae (encExs_eq l) encEx_len; apply elT; apply rfl; apply rfl; apply rfl; apply rfl; omega; simpa using hc))) | (apply Vp; apply rfl; apply rfl; apply fnT; apply rfl; apply h39 (by omega); rintro _ ⟨n_, rfl, hn0_, hn1_⟩) | (apply Vd; apply rfl; (first | (apply E_lss; apply rfl; apply rfl) | (apply E_gtr; apply rfl; apply rfl)); all_goals intro h_) | (apply Vo; apply rfl) | (apply s_region; apply rfl) | apply tri_seq | (apply tri_region; apply rfl) | apply tri_block | apply tri_skip | apply tri_exit | apply tri_ret | (apply tri_condT; apply rfl) | (apply tri_condF; apply rfl) | (apply end_q _ (.inr rfl); (exact List.prefix_append _ _); (focus repeat (first | apply R_nil | (apply R_tmp; apply rfl))); apply rfl) | apply p_then | apply p_in | apply p_inN | apply p_inR | apply p_thenR | apply p_thenE | (exfalso; omega))
    all_goals first
      | exact ⟨401, rfl, by decide, by decide⟩
      | exact min_up hs0
      | exact ⟨(k + 1, _), by dsimp only; omega, ⟨by dsimp only; omega, by dsimp only; omega, by dsimp only; omega⟩, ⟨rfl, rfl, rfl, vI_of (by omega), trivial⟩, rfl⟩
  · repeat' (first | apply triL_nil | (apply V; apply rfl; (first | (apply E_mv; apply rfl) | (apply E_as; apply rfl) | (apply E_len; (apply elT; apply rfl); apply rfl; apply rfl) | (apply E_pkT; apply rfl; apply rfl) | (apply E_pkF; apply rfl; apply rfl) | (apply E_min; apply rfl; apply rfl))) | (apply Vd; apply rfl; (first | (apply E_lss; apply rfl; apply rfl) | (apply E_gtr; apply rfl; apply rfl)); all_goals intro h_) | (apply Vo; apply rfl) | (apply s_region; apply rfl) | apply tri_seq | apply tri_block | apply tri_skip | apply tri_exit | apply tri_ret | (apply tri_condT; apply rfl) | (apply tri_condF; apply rfl) | (apply end_q _ (.inr rfl); (exact List.prefix_append _ _); (focus repeat (first | apply R_nil | (apply R_tmp; apply rfl))); apply rfl) | apply p_then | apply p_in | apply p_inR | apply p_thenR | apply p_thenE | (exfalso; omega))
    all_goals first
      | exact min_up hs0
      | (exfalso; omega)
theorem sp39 (l : List Ex) : PC 39 [.d (rowEx l), vI 0] (upI 401) := fewEx _ l 0 (Nat.le_refl _) (by decide) (by decide)
theorem fewSm : ∀ N (l : List Sm) (d : Int), szSms l ≤ N → 0 ≤ d → d ≤ 100 → PC 40 [.d (rowSm l), vI d] (upI 401) := by
  intro N
  induction N using Nat.strongRecOn with
  | _ N ih => ?_
  intro l d hN h0 h1
  refine row_le (d := .map 0) (fun hlen => ?_)
  intro S T M
  refine callT_go [] [] Tryz.func40 rfl Tryz.ntmps40 Tryz.results40 ?_
  repeat' (first | apply triL_nil | (apply V; apply rfl; (apply E_as; apply rfl)) | (apply s_region; apply rfl) | apply tri_seq | apply tri_block)
  refine tri_rounds (fun k : Nat × Int => l.length - k.1) (fun k => [(0, .d (rowSm l)), (1, vI d), (5, vI k.2), (6, vI k.1)]) (fun _ => ⟨S ++ [], T ++ [], M⟩) (fun k => k.1 ≤ l.length ∧ 0 ≤ k.2 ∧ k.2 ≤ 2100) (0, 0) ⟨Nat.zero_le _, by decide, by decide⟩ ⟨rfl, rfl, rfl, rfl, trivial⟩ rfl ?_
  rintro ⟨k, s⟩ ⟨hk, hs0, hs1⟩
  dsimp only at hk hs0 hs1 ⊢
  by_cases hlt : k < l.length
  · obtain ⟨⟨kd, num, ty, nm, e, a, b, c, nth⟩, hc⟩ : ∃ c, l[k]? = some c := ⟨_, List.getElem?_eq_getElem hlt⟩
    have hsz := szSm_at hc
    rw [szSm] at hsz
    have ha := fun h => ih (szSms a) (by omega) a (d + 1) (Nat.le_refl _) (by omega) h
    have hb := fun h => ih (szSms b) (by omega) b (d + 1) (Nat.le_refl _) (by omega) h
    have hcc := fun h => ih (szSms c) (by omega) c (d + 1) (Nat.le_refl _) (by omega) h
    have he := sp39 e
    repeat' (first | apply triL_nil | (apply V; apply rfl; (first | (apply E_mv; apply rfl) | (apply E_as; apply rfl) | (apply E_fe; (apply plT; apply rfl); apply rfl; apply rfl; decide) | (apply E_le; (apply tyT; apply rfl); apply rfl; apply rfl) | (apply E_len; (apply elT; apply rfl); apply rfl; apply rfl) | (apply E_lens; (apply udT; apply rfl); apply rfl) | (apply E_pkT; apply rfl; apply rfl) | (apply E_pkF; apply rfl; apply rfl) | (apply E_add64; apply rfl; apply rfl; apply rfl; omega) | (apply E_min; apply rfl; apply rfl) | (apply E_iae (encSms_eq l) encSm_len; apply elT; apply rfl; apply rfl; apply rfl; apply rfl; omega; simpa using hc))) | (apply t_drawn (nt := 75) (.take 0 (.take 1 (.take 2 (.take 3 (.take 4 (.take 5 (.take 6 (.take 9 (.take 10 (.take 11 (.take 12 (.take 13 (.take 14 (.take 15 (.take 18 (.take 19 (.take 20 (.take 21 (.take 22 (.take 23 (.take 24 (.take 27 (.take 28 (.take 29 (.take 30 (.take 31 (.take 32 (.take 33 (.one 7 (.take 8 (.one 16 (.take 17 (.one 25 (.take 26 (.one 34 (.take 35 (.take 36 .nil))))))))))))))))))))))))))))))))))))) [] []; exact mixed; rfl; decide +kernel) | (apply oP; apply rfl; apply rfl; apply rfl; apply fnT; apply rfl; apply he; rintro _ ⟨n1_, rfl, hn0_, hn1_⟩) | (apply oP; apply rfl; apply rfl; apply rfl; apply fnT; apply rfl; apply ha (by omega); rintro _ ⟨n2_, rfl, hn2_, hn3_⟩) | (apply oP; apply rfl; apply rfl; apply rfl; apply fnT; apply rfl; apply hb (by omega); rintro _ ⟨n3_, rfl, hn4_, hn5_⟩) | (apply oP; apply rfl; apply rfl; apply rfl; apply fnT; apply rfl; apply hcc (by omega); rintro _ ⟨n4_, rfl, hn6_, hn7_⟩) | (apply Vd; apply rfl; (first | (apply E_lss; apply rfl; apply rfl) | (apply E_gtr; apply rfl; apply rfl)); all_goals intro h_) | (apply Vo; apply rfl) | (apply s_region; apply rfl) | apply tri_seq | (apply tri_region; apply rfl) | apply tri_block | apply tri_skip | apply tri_exit | apply tri_ret | (apply tri_condT; apply rfl) | (apply tri_condF; apply rfl) | (apply end_q _ (.inr rfl); (exact List.prefix_append _ _); (focus repeat (first | apply R_nil | (apply R_tmp; apply rfl))); apply rfl) | apply p_then | apply p_in | apply p_inN | apply p_inR | apply p_thenR | apply p_thenE | apply d_nil | (apply tV; apply rfl; apply rfl; (first | (apply E_mv; apply rfl) | (apply E_as; apply rfl) | (apply E_fe; (apply plT; apply rfl); apply rfl; apply rfl; decide) | (apply E_le; (apply tyT; apply rfl); apply rfl; apply rfl) | (apply E_len; (apply elT; apply rfl); apply rfl; apply rfl) | (apply E_lens; (apply udT; apply rfl); apply rfl) | (apply E_pkT; apply rfl; apply rfl) | (apply E_pkF; apply rfl; apply rfl) | (apply E_add64; apply rfl; apply rfl; apply rfl; omega) | (apply E_min; apply rfl; apply rfl) | (apply E_iae (encSms_eq l) encSm_len; apply elT; apply rfl; apply rfl; apply rfl; apply rfl; omega; simpa using hc)); apply rfl) | (exfalso; omega))
    all_goals first
      | exact ⟨401, rfl, by decide, by decide⟩
      | exact min_up hs0
      | exact ⟨(k + 1, _), by dsimp only; omega, ⟨by dsimp only; omega, by dsimp only; omega, by dsimp only; omega⟩, ⟨rfl, rfl, rfl, vI_of (by omega), trivial⟩, rfl⟩
  · repeat' (first | apply triL_nil | (apply V; apply rfl; (first | (apply E_mv; apply rfl) | (apply E_as; apply rfl) | (apply E_len; (apply elT; apply rfl); apply rfl; apply rfl) | (apply E_pkT; apply rfl; apply rfl) | (apply E_pkF; apply rfl; apply rfl) | (apply E_min; apply rfl; apply rfl))) | (apply Vd; apply rfl; (first | (apply E_lss; apply rfl; apply rfl) | (apply E_gtr; apply rfl; apply rfl)); all_goals intro h_) | (apply Vo; apply rfl) | (apply s_region; apply rfl) | apply tri_seq | apply tri_block | apply tri_skip | apply tri_exit | apply tri_ret | (apply tri_condT; apply rfl) | (apply tri_condF; apply rfl) | (apply end_q _ (.inr rfl); (exact List.prefix_append _ _); (focus repeat (first | apply R_nil | (apply R_tmp; apply rfl))); apply rfl) | apply p_then | apply p_in | apply p_inR | apply p_thenR | apply p_thenE | (exfalso; omega))
    all_goals first
      | exact min_up hs0
      | (exfalso; omega)
theorem sp40 (l : List Sm) : PC 40 [.d (rowSm l), vI 0] (upI 401) := fewSm _ l 0 (Nat.le_refl _) (by decide) (by decide)
/-- What a few program is. -/
def FewP (p : List Cl) : Prop := p.length ≤ 25 ∧ ∀ c ∈ p, c.fields.length ≤ 40 ∧ c.name.size ≤ 100
theorem sp22 (p : List Cl) : PC 22 [vP p] (fun r => ∃ b, r = vB b ∧ (b = true → FewP p)) := by
  intro S T M
  refine callT_go [] [] Tryz.func22 rfl Tryz.ntmps22 Tryz.results22 ?_
  by_cases hlen : p.length ≤ 25
  case neg =>
    repeat' (first | apply triL_nil | (apply V; apply rfl; (first | (apply E_as; apply rfl) | (apply E_fa; (apply plT; apply rfl); apply rfl; apply rfl; decide) | (apply E_ld; (apply tyT; apply rfl); apply rfl; (apply at_; apply rfl; apply rfl); apply rfl) | (apply E_len; (apply elT; apply rfl); apply rfl; apply rfl))) | (apply Vd; apply rfl; (apply E_gtr; apply rfl; apply rfl); all_goals intro h_) | (apply Vw; apply rfl; (apply W_bxL; apply rfl; apply rfl; apply rfl)) | (apply s_region; apply rfl) | apply tri_seq | apply tri_block | apply tri_skip | apply tri_ret | (apply tri_condT; apply rfl) | (apply tri_condF; apply rfl) | (apply end_q _ (.inr rfl); (exact List.prefix_append _ _); (focus repeat (first | apply R_nil | (apply R_tmp; apply rfl))); apply rfl) | apply p_then | apply p_thenR | (exfalso; omega))
    all_goals first | exact ⟨_, rfl, nofun⟩ | (exfalso; omega)
  repeat' (first | apply triL_nil | (apply V; apply rfl; (first | (apply E_as; apply rfl) | (apply E_fa; (apply plT; apply rfl); apply rfl; apply rfl; decide) | (apply E_ld; (apply tyT; apply rfl); apply rfl; (apply at_; apply rfl; apply rfl); apply rfl) | (apply E_len; (apply elT; apply rfl); apply rfl; apply rfl))) | (apply Vd; apply rfl; (apply E_gtr; apply rfl; apply rfl); all_goals intro h_) | (apply Vw; apply rfl; (apply W_bxL; apply rfl; apply rfl; apply rfl)) | (apply s_region; apply rfl) | apply tri_seq | apply tri_block | apply tri_skip | apply tri_ret | (apply tri_condT; apply rfl) | (apply tri_condF; apply rfl) | (apply end_q _ (.inr rfl); (exact List.prefix_append _ _); (focus repeat (first | apply R_nil | (apply R_tmp; apply rfl))); apply rfl) | apply p_then | apply p_thenR | (exfalso; omega))
  refine tri_grow (fun k : Nat × Int => p.length - k.1) (fun k => [(1, .ptr (S.length + 0) 0), (3, vI k.2), (4, vI k.1)]) (fun k S1 T1 => k.1 ≤ p.length ∧ S.length ≤ S1.length ∧ T <+: T1 ∧ S1[S.length + 0]? = some ([.d (encL encCl p)], 26) ∧ 0 ≤ k.2 ∧ k.2 ≤ 400 ∧ ∀ (j : Nat) c, j < k.1 → p[j]? = some c → c.fields.length ≤ 40 ∧ c.name.size ≤ 100) (0, 0) ⟨Nat.zero_le _, by simp, by simp, at_ rfl rfl, by decide, by decide, fun j c hj => absurd hj (Nat.not_lt_zero _)⟩ ⟨rfl, rfl, rfl, trivial⟩ ?_
  rintro ⟨k, s⟩ S1 T1 ⟨hk, hS, hT, hb, hs0, hs1, hP⟩
  dsimp only at hk hs0 hs1 hP ⊢
  repeat' (first | apply triL_nil | (apply V; apply rfl; (first | (apply E_mv; apply rfl) | (apply E_as; apply rfl) | (apply E_fa; (apply plT; apply rfl); apply rfl; apply rfl; decide) | (apply E_ld; (apply tyT; apply rfl); apply rfl; (apply at_old; assumption); apply rfl) | (apply E_len; (apply elT; apply rfl); apply rfl; apply rfl))) | (apply Vd; apply rfl; (apply E_lss; apply rfl; apply rfl); all_goals intro h_) | (apply s_region; apply rfl) | apply tri_seq | apply tri_block | apply tri_skip | apply tri_exit | apply tri_ret | (apply tri_condT; apply rfl) | (apply tri_condF; apply rfl) | (apply end_q _ (.inr rfl); (apply pre_app; assumption); (focus repeat (first | apply R_nil | (apply R_tmp; apply rfl))); apply rfl) | apply p_then | apply p_in | apply p_thenE)
  · have hlt : k < p.length := by omega
    obtain ⟨c, hc⟩ : ∃ c, p[k]? = some c := ⟨_, List.getElem?_eq_getElem hlt⟩
    by_cases hg : c.fields.length ≤ 40 ∧ c.methods.length ≤ 40 ∧ c.name.size ≤ 100 ∧ c.super.size ≤ 100
    case neg =>
      repeat' (first | apply triL_nil | (apply V; apply rfl; (first | (apply E_mv; apply rfl) | (apply E_as; apply rfl) | (apply E_fa; (apply plT; apply rfl); apply rfl; apply rfl; decide) | (apply E_ld; (apply tyT; apply rfl); apply rfl; (apply at_; apply rfl; apply rfl); apply rfl) | (apply E_lea; (apply tyT; apply rfl); apply rfl; (first | apply rfl | apply encEx_len | apply encSm_len)) | (apply E_len; (apply elT; apply rfl); apply rfl; apply rfl) | (apply E_lens; (apply udT; apply rfl); apply rfl) | (apply E_pkT; apply rfl; apply rfl) | (apply E_pkF; apply rfl; apply rfl) | (apply E_ial (c := c); apply elT; apply rfl; apply rfl; apply rfl; apply rfl; exact encCl_len; omega; simpa using hc))) | (apply Vd; apply rfl; (apply E_gtr; apply rfl; apply rfl); all_goals intro h_) | (apply Vo; apply rfl) | (apply Vw; apply rfl; (apply W_alL; apply rfl; (apply tyT; apply rfl))) | (apply Vs; apply rfl; (apply W_stL; apply rfl; (apply tyT; apply rfl); apply rfl; apply rfl; apply rfl; (first | apply okC_new | (apply okC_ge; omega)); apply rfl; apply rfl; (first | decide | (apply Nat.le_of_ble_eq_true; rfl)))) | (apply s_region; apply rfl) | apply tri_seq | apply tri_block | apply tri_skip | apply tri_ret | (apply tri_condT; apply rfl) | (apply tri_condF; apply rfl) | (apply end_q _ (.inr rfl); (apply pre_app; assumption); (focus repeat (first | apply R_nil | (apply R_tmp; apply rfl))); apply rfl) | apply p_then | apply p_inR | apply p_thenR | (exfalso; omega))
      all_goals first | exact ⟨_, rfl, nofun⟩ | (exfalso; omega)
    obtain ⟨hg1, hg2, hg3, hg4⟩ := hg
    have hP' : ∀ (j : Nat) c', j < k + 1 → p[j]? = some c' → c'.fields.length ≤ 40 ∧ c'.name.size ≤ 100 := fun j c' hj hc' => by
      by_cases e : j < k
      · exact hP j c' e hc'
      · obtain rfl : j = k := by omega
        obtain rfl := Option.some.inj (hc.symm.trans hc')
        exact ⟨hg1, hg3⟩
    repeat' (first | apply triL_nil | (apply V; apply rfl; (first | (apply E_mv; apply rfl) | (apply E_as; apply rfl) | (apply E_fa; (apply plT; apply rfl); apply rfl; apply rfl; decide) | (apply E_ld; (apply tyT; apply rfl); apply rfl; (apply at_; apply rfl; apply rfl); apply rfl) | (apply E_lea; (apply tyT; apply rfl); apply rfl; (first | apply rfl | apply encEx_len | apply encSm_len)) | (apply E_len; (apply elT; apply rfl); apply rfl; apply rfl) | (apply E_lens; (apply udT; apply rfl); apply rfl) | (apply E_pkT; apply rfl; apply rfl) | (apply E_pkF; apply rfl; apply rfl) | (apply E_ial (c := c); apply elT; apply rfl; apply rfl; apply rfl; apply rfl; exact encCl_len; omega; simpa using hc))) | (apply Vd; apply rfl; (apply E_gtr; apply rfl; apply rfl); all_goals intro h_) | (apply Vo; apply rfl) | (apply Vw; apply rfl; (apply W_alL; apply rfl; (apply tyT; apply rfl))) | (apply Vs; apply rfl; (apply W_stL; apply rfl; (apply tyT; apply rfl); apply rfl; apply rfl; apply rfl; (first | apply okC_new | (apply okC_ge; omega)); apply rfl; apply rfl; (first | decide | (apply Nat.le_of_ble_eq_true; rfl)))) | (apply s_region; apply rfl) | apply tri_seq | apply tri_block | apply tri_skip | apply tri_ret | (apply tri_condT; apply rfl) | (apply tri_condF; apply rfl) | (apply end_q _ (.inr rfl); (apply pre_app; assumption); (focus repeat (first | apply R_nil | (apply R_tmp; apply rfl))); apply rfl) | apply p_then | apply p_inR | apply p_thenR | (exfalso; omega))
    all_goals first | (exfalso; omega) | skip
    refine tri_fix (fun j : Nat × Int => c.fields.length - j.1) (fun j => [(1, .ptr (S.length + 0) 0), (3, vI j.2), (4, vI k), (5, .ptr (S1.length + 0) 0), (6, vI j.1)]) (fun j => j.1 ≤ c.fields.length ∧ 0 ≤ j.2 ∧ j.2 ≤ 400) (0, _) ⟨Nat.zero_le _, hs0, hs1⟩ ⟨rfl, rfl, rfl, rfl, rfl, trivial⟩ ?_
    rintro ⟨j, s1⟩ ⟨hj, hj0, hj1⟩
    dsimp only at hj hj0 hj1 ⊢
    repeat' (first | apply triL_nil | (apply V; apply rfl; (first | (apply E_mv; apply rfl) | (apply E_as; apply rfl) | (apply E_fa; (apply plT; apply rfl); apply rfl; apply rfl; decide) | (apply E_ld; (apply tyT; apply rfl); apply rfl; (apply at_; apply rfl; apply rfl); apply rfl) | (apply E_len; (apply elT; apply rfl); apply rfl; apply rfl) | (apply E_add64; apply rfl; apply rfl; apply rfl; omega))) | (apply Vd; apply rfl; (apply E_lss; apply rfl; apply rfl); all_goals intro h_) | (apply s_region; apply rfl) | apply tri_seq | apply tri_block | apply tri_skip | apply tri_exit | (apply tri_condT; apply rfl) | (apply tri_condF; apply rfl) | apply p_then | apply p_in | apply p_thenE)
    · obtain ⟨f, hf⟩ : ∃ f, c.fields[j]? = some f := ⟨_, List.getElem?_eq_getElem (by omega)⟩
      have h39 := sp39 f.init
      repeat' (first | apply triL_nil | (apply V; apply rfl; (first | (apply E_mv; apply rfl) | (apply E_as; apply rfl) | (apply E_fa; (apply plT; apply rfl); apply rfl; apply rfl; decide) | (apply E_fe; (apply plT; apply rfl); apply rfl; apply rfl; decide) | (apply E_ld; (apply tyT; apply rfl); apply rfl; (apply at_; apply rfl; apply rfl); apply rfl) | (apply E_le; (apply tyT; apply rfl); apply rfl; apply rfl) | (apply E_lens; (apply udT; apply rfl); apply rfl) | (apply E_pkT; apply rfl; apply rfl) | (apply E_pkF; apply rfl; apply rfl) | (apply E_add64; apply rfl; apply rfl; apply rfl; omega) | (apply E_ial (c := f); apply elT; apply rfl; apply rfl; apply rfl; apply rfl; exact encFi_len; omega; simpa using hf))) | (apply Vp; apply rfl; apply rfl; apply fnT; apply rfl; apply h39; rintro _ ⟨n_, rfl, hn0_, hn1_⟩) | (apply Vd; apply rfl; (apply E_gtr; apply rfl; apply rfl); all_goals intro h_) | (apply Vo; apply rfl) | (apply s_region; apply rfl) | (apply tri_region; apply rfl) | apply tri_skip | apply tri_ret | (apply tri_condT; apply rfl) | (apply tri_condF; apply rfl) | (apply end_q _ (.inr rfl); (apply pre_app; assumption); (focus repeat (first | apply R_nil | (apply R_tmp; apply rfl))); apply rfl) | apply p_then | apply p_inN | apply p_inR | apply p_thenR)
      all_goals first
        | exact ⟨_, rfl, nofun⟩
        | exact ⟨(j + 1, _), by dsimp only; omega, ⟨by dsimp only; omega, by dsimp only; omega, by dsimp only; omega⟩, ⟨rfl, rfl, rfl, rfl, vI_of (by omega), trivial⟩, rfl⟩
    · refine tri_fix (fun j : Nat × Int => c.methods.length - j.1) (fun j => [(1, .ptr (S.length + 0) 0), (3, vI j.2), (4, vI k), (5, .ptr (S1.length + 0) 0), (7, vI j.1)]) (fun j => j.1 ≤ c.methods.length ∧ 0 ≤ j.2 ∧ j.2 ≤ 400) (0, _) ⟨Nat.zero_le _, hj0, hj1⟩ ⟨rfl, rfl, rfl, rfl, rfl, trivial⟩ ?_
      rintro ⟨i, s2⟩ ⟨hi, hi0, hi1⟩
      dsimp only at hi hi0 hi1 ⊢
      repeat' (first | apply triL_nil | (apply V; apply rfl; (first | (apply E_mv; apply rfl) | (apply E_as; apply rfl) | (apply E_fa; (apply plT; apply rfl); apply rfl; apply rfl; decide) | (apply E_ld; (apply tyT; apply rfl); apply rfl; (apply at_; apply rfl; apply rfl); apply rfl) | (apply E_len; (apply elT; apply rfl); apply rfl; apply rfl) | (apply E_add64; apply rfl; apply rfl; apply rfl; omega))) | (apply Vd; apply rfl; (apply E_lss; apply rfl; apply rfl); all_goals intro h_) | (apply s_region; apply rfl) | apply tri_seq | (apply tri_region; apply rfl) | apply tri_block | apply tri_skip | apply tri_exit | (apply tri_condT; apply rfl) | (apply tri_condF; apply rfl) | apply p_then | apply p_in | apply p_inN | apply p_thenE)
      · obtain ⟨f, hf⟩ : ∃ f, c.methods[i]? = some f := ⟨_, List.getElem?_eq_getElem (by omega)⟩
        have h40 := sp40 f.body
        repeat' (first | apply triL_nil | (apply V; apply rfl; (first | (apply E_mv; apply rfl) | (apply E_as; apply rfl) | (apply E_fa; (apply plT; apply rfl); apply rfl; apply rfl; decide) | (apply E_fe; (apply plT; apply rfl); apply rfl; apply rfl; decide) | (apply E_ld; (apply tyT; apply rfl); apply rfl; (apply at_; apply rfl; apply rfl); apply rfl) | (apply E_le; (apply tyT; apply rfl); apply rfl; apply rfl) | (apply E_len; (apply elT; apply rfl); apply rfl; apply rfl) | (apply E_lens; (apply udT; apply rfl); apply rfl) | (apply E_pkT; apply rfl; apply rfl) | (apply E_pkF; apply rfl; apply rfl) | (apply E_add64; apply rfl; apply rfl; apply rfl; omega) | (apply E_ial (c := f); apply elT; apply rfl; apply rfl; apply rfl; apply rfl; exact encMe_len; omega; simpa using hf))) | (apply Vp; apply rfl; apply rfl; apply fnT; apply rfl; apply h40; rintro _ ⟨n_, rfl, hn0_, hn1_⟩) | (apply Vd; apply rfl; (apply E_gtr; apply rfl; apply rfl); all_goals intro h_) | (apply Vo; apply rfl) | (apply s_region; apply rfl) | (apply tri_region; apply rfl) | apply tri_skip | apply tri_ret | (apply tri_condT; apply rfl) | (apply tri_condF; apply rfl) | (apply end_q _ (.inr rfl); (apply pre_app; assumption); (focus repeat (first | apply R_nil | (apply R_tmp; apply rfl))); apply rfl) | apply p_then | apply p_inN | apply p_inR | apply p_thenR)
        all_goals first
          | exact ⟨_, rfl, nofun⟩
          | exact ⟨(i + 1, _), by dsimp only; omega, ⟨by dsimp only; omega, by dsimp only; omega, by dsimp only; omega⟩, ⟨rfl, rfl, rfl, rfl, vI_of (by omega), trivial⟩, rfl⟩
      · exact ⟨(k + 1, _), _, _, by dsimp only; omega, ⟨by dsimp only; omega, by simp only [List.length_append]; omega, pre_app hT, at_old hb, hi0, hi1, hP'⟩, ⟨rfl, rfl, vI_of (by omega), trivial⟩, rfl⟩
  · refine ⟨_, rfl, fun _ => ⟨hlen, fun c hc => ?_⟩⟩
    obtain ⟨j, hj, rfl⟩ := List.getElem_of_mem hc
    exact hP j _ (by omega) (List.getElem?_eq_getElem hj)
end Go.Proofs.YtinffhimfoicdaaGreat

/- HeapRaw's walk. No conditions. -/
namespace Go.Proofs.YtinffhimfoicdaaGreat
open Go Go.RowKit Go.Proofs.YtinffhimfoicdaaGreat.Calc
set_option linter.unusedVariables false
set_option linter.unusedSimpArgs false
set_option maxRecDepth 100000
set_option maxHeartbeats 8000000
theorem q28n (x y : Operand) : (quiet Tryz.prog (do eqGuard .neq 28 x y (.pointer none) (.pointer none); binOp .neq 28 (.pointer none) (.pointer none))).bind constB = some (vB false) := by kernel_rfl
theorem few_small {p : List Cl} (h : FewP p) : Small p := ⟨Nat.le_trans h.1 (by decide), fun c hc => Nat.le_trans (h.2 c hc).1 (by decide)⟩
theorem few_named {p : List Cl} (h : FewP p) : Named p := fun c hc => Nat.le_trans (h.2 c hc).2 (by decide)
attribute [local irreducible] Tri TriL TriP CallT stepV stepW thenQ inQ endQ endN
theorem sp4 (p : List Cl) (S : List (List BV × Nat)) (T : List Nat) (M : List (List (Value × DV))) : CallT Tryz.prog [] [] 4 [vP p] ⟨S, T, M⟩ (fun r s => r = vB true) := by
  have h22 := sp22 p
  refine callT_go [] [] Tryz.func4 rfl Tryz.ntmps4 Tryz.results4 ?_
  repeat' (first | apply triL_nil | (apply V; apply rfl; (first | (apply E_as; apply rfl) | (apply E_lda; (apply tyT; apply rfl); apply rfl; (apply at_; apply rfl; apply rfl); apply rfl) | (apply E_not; apply rfl))) | (apply Vp; apply rfl; apply rfl; apply fnT; apply rfl; apply h22; rintro _ ⟨_ | _, rfl, hb_⟩) | (apply Vc; apply rfl; apply rfl; apply fnT; apply rfl; exact sp10 _ _ _; (intro i_ hi_; cases hi_); (intro i_ hi_; cases hi_); rintro _ _ ⟨rfl, N, rfl⟩) | (apply Vw; apply rfl; (apply W_bxL; apply rfl; apply rfl; apply rfl)) | (apply s_region; apply rfl) | apply tri_seq | apply tri_skip | apply tri_ret | (apply tri_condT; apply rfl) | (apply tri_condF; apply rfl) | apply p_then | apply p_thenR)
  · exact end_m _ (.inr rfl) (List.prefix_append _ _) (R_tmp rfl R_nil) rfl rfl
  have hF := hb_ rfl
  have hs := few_small hF
  have hn := few_named hF
  have h23 := sp23 p hs
  by_cases he : (checkF p).1 = 0
  · rw [he] at h23
    repeat' (first | apply triL_nil | (apply V; apply rfl; (first | (apply E_eqT; apply rfl; apply rfl) | (apply E_beq4; apply rfl; apply rfl) | (apply E_mv; apply rfl) | (apply E_as; apply rfl) | (apply E_lda; (apply tyT; apply rfl); apply rfl; (apply at_; apply rfl; apply rfl); apply rfl) | (apply E_pkT; apply rfl; apply rfl) | (apply E_ex; apply rfl; apply rfl) | (apply E_pn; exact und28; apply rfl))) | (apply Vp; apply rfl; apply rfl; apply fnT; apply rfl; apply h23; rintro _ rfl) | (apply Vc; apply rfl; apply rfl; apply fnT; apply rfl; exact sp10 _ _ _; (intro i_ hi_; cases hi_); (intro i_ hi_; cases hi_); rintro _ _ ⟨rfl, N, rfl⟩) | (apply Vc; apply rfl; apply rfl; apply fnT; apply rfl; exact sp8_good p hs hn he _ _ _; (intro i_ hi_; cases hi_); (intro i_ hi_; cases hi_); rintro _ _ ⟨rfl, rfl⟩) | (apply s_region; apply rfl) | apply tri_ret)
    all_goals exact end_m _ (.inr rfl) (List.prefix_append _ _) (R_tmp rfl R_nil) rfl rfl
  · have h8 := sp8_bad p hs he
    generalize (checkF p).1 = e at *
    generalize (checkF p).2 = i at *
    repeat' (first | apply triL_nil | (apply V; apply rfl; (first | (apply E_beq4; apply rfl; apply rfl) | (apply E_mv; apply rfl) | (apply E_as; apply rfl) | (apply E_lda; (apply tyT; apply rfl); apply rfl; (apply at_; apply rfl; apply rfl); apply rfl) | (apply E_pkT; apply rfl; apply rfl) | (apply E_ex; apply rfl; apply rfl))) | (apply Vp; apply rfl; apply rfl; apply fnT; apply rfl; apply h23; rintro _ rfl) | (apply Vc; apply rfl; apply rfl; apply fnT; apply rfl; exact sp10 _ _ _; (intro i_ hi_; cases hi_); (intro i_ hi_; cases hi_); rintro _ _ ⟨rfl, N, rfl⟩) | (apply Vp; apply rfl; apply rfl; apply fnT; apply rfl; apply h8; rintro _ rfl) | (apply VR; apply rfl; apply opR_bin; apply rfl; apply rfl; apply rfl; exact q28n _ _) | (apply Vd; apply rfl; (apply E_eql; apply rfl; apply rfl); all_goals intro h_) | (apply s_region; apply rfl) | apply tri_ret | (exfalso; contradiction))
    all_goals first | exact end_m _ (.inr rfl) (List.prefix_append _ _) (R_tmp rfl R_nil) rfl rfl | (exfalso; contradiction)
end Go.Proofs.YtinffhimfoicdaaGreat
