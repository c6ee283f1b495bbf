/- A made tree has at most six classes with names out of five; kin.Check tells, and without a fault every chain ends. -/
import Derived.Test.YtddggdhkhfephaaKin
namespace Go.Proofs.Ytddggdhkhfephaa.Pure
open Go Go.RowKit Go.Proofs.Ytddggdhkhfephaa Go.Proofs.Ytddggdhkhfephaa.Q Go.Proofs.YtddggdhkhfephaaW.PrintWords Go.Proofs.YtddggdhkhfephaaW.PrintLast

def N9 : List ByteArray := [(⟨#[65]⟩ : ByteArray), (⟨#[66]⟩ : ByteArray), (⟨#[67]⟩ : ByteArray), (⟨#[68]⟩ : ByteArray), (⟨#[69]⟩ : ByteArray), (⟨#[]⟩ : ByteArray), (⟨#[69, 120, 99, 101, 112, 116, 105, 111, 110]⟩ : ByteArray), (⟨#[90, 101, 114, 111, 70, 97, 117, 108, 116]⟩ : ByteArray), (⟨#[90, 122]⟩ : ByteArray)]
def N5 : List ByteArray := N9.take 5
theorem u64_low (v : Int) : 0 ≤ IntKind.u64.wrap v := by
  rw [IntKind.wrap_u64]; exact Int.emod_nonneg _ (by decide)
theorem tree_go (l0 : List Int) (hl : l0.length ≤ 100000000000000) : ∀ (m i : Nat) (acc : List S34), i + m = 6 → acc.length = i → (∀ x ∈ acc, x.f0 ∈ N5) →
    ∃ t, Ev (fun k => changelinglaw6_Tree.l0 k l0 N9 (i : Int) acc) t ∧ t.length ≤ 6 ∧ ∀ x ∈ t, x.f0 ∈ N5
  | 0, i, acc, hi, ha, hs => by
    refine ⟨acc, Ev.step (f := fun _ => some acc) (fun k => ?_) (Ev.now _), by omega, hs⟩
    simp only [changelinglaw6_Tree.l0]
    rw [if_neg (show ¬ ((i : Int) < 6) by omega)]; split <;> rfl
  | m + 1, i, acc, hi, ha, hs => by
    by_cases hil : i < l0.length
    · have h81a := Int.tmod_nonneg 81 (u64_low (rd l0 (i : Int)))
      have h81b := Int.tmod_lt_of_pos (IntKind.u64.wrap (rd l0 (i : Int))) (show (0 : Int) < 81 by decide)
      have key : ∀ K : Int, 0 ≤ K → K < 81 → ∃ p q : Int, Int.tmod (wrap64 ((i : Int) + (wrap64 (Int.tdiv (wrap64 K) 64)))) 5 = p ∧ Int.tmod (wrap64 K) 9 = q ∧ 0 ≤ p ∧ p < 5 ∧ 0 ≤ q ∧ q < 9 := by
        intro K k0 k1
        have d0 : 0 ≤ Int.tdiv K 64 := Int.tdiv_nonneg k0 (by decide)
        have d1 : Int.tdiv K 64 ≤ 80 := by rw [Int.tdiv_eq_ediv_of_nonneg k0]; omega
        rw [IntWalk.wrap64_in K (by omega), IntWalk.wrap64_in (Int.tdiv K 64) (by omega), IntWalk.wrap64_in ((i : Int) + Int.tdiv K 64) (by omega)]
        exact ⟨_, _, rfl, rfl, Int.tmod_nonneg _ (by omega), Int.tmod_lt_of_pos _ (by decide), Int.tmod_nonneg _ k0, Int.tmod_lt_of_pos _ (by decide)⟩
      obtain ⟨p, q, ep, eq, p0, p1, q0, q1⟩ := key _ h81a h81b
      have hp5 : rdOf ByteArray.empty N9 p ∈ N5 := by
        have : p = 0 ∨ p = 1 ∨ p = 2 ∨ p = 3 ∨ p = 4 := by omega
        rcases this with rfl | rfl | rfl | rfl | rfl <;> decide +kernel
      obtain ⟨t, h1, h2, h3⟩ := tree_go l0 hl m (i + 1) (acc ++ [(⟨rdOf ByteArray.empty N9 p, rdOf ByteArray.empty N9 q, ([] : List S73), ([] : List S77)⟩ : S34)]) (by omega) (by simp [ha]) (fun x hx => by
        rcases List.mem_append.1 hx with h | h
        · exact hs x h
        · simp at h; rw [h]; exact hp5)
      refine ⟨t, Ev.step (f := fun k => changelinglaw6_Tree.l0 k l0 N9 ((i + 1 : Nat) : Int) (acc ++ [(⟨rdOf ByteArray.empty N9 p, rdOf ByteArray.empty N9 q, ([] : List S73), ([] : List S77)⟩ : S34)])) (fun k => ?_) h1, h2, h3⟩
      have hN : (N9.length : Int) = 9 := rfl
      simp only [changelinglaw6_Tree.l0]
      rw [ep, eq, hN, if_pos (by omega), if_pos (by omega), if_pos (by omega), if_pos p0, if_pos (by omega), if_pos q0, if_pos q1, if_pos (by omega), IntWalk.wrap64_in _ (by omega)]; rfl
    · refine ⟨acc, Ev.step (f := fun _ => some acc) (fun k => ?_) (Ev.now _), by omega, hs⟩
      simp only [changelinglaw6_Tree.l0]
      rw [if_neg (by omega)]
theorem tree_ev (l0 : List Int) (hl : l0.length ≤ 100000000000000) : ∃ t, Ev (fun k => changelinglaw6_Tree.f k l0) t ∧ t.length ≤ 6 ∧ ∀ x ∈ t, x.f0 ∈ N5 :=
  tree_go l0 hl 6 0 [] rfl rfl (by simp)

/-! ### Check -/
theorem look_ev {chk : Nat → Int → S34 → Option Int} {P : Int → S34 → Prop} : ∀ (l : List S34) (i : Int), (∀ x ∈ l, ∀ i, ∃ c, Ev (fun k => chk k i x) c ∧ (c = 0 → P i x)) →
    ∃ r, Ev (fun k => lookZ (chk k) l i) r ∧ ((r = none ∧ ∀ (j : Nat) (h : j < l.length), P (i + j) l[j]) ∨ ∃ c z, r = some (c, z) ∧ c ≠ 0)
  | [], i, _ => ⟨none, Ev.now _, .inl ⟨rfl, by simp⟩⟩
  | x :: l, i, h => by
    obtain ⟨c, hc, hP⟩ := h x (by simp) i
    by_cases e : c = 0
    · obtain ⟨r, hr, hq⟩ := look_ev l (i + 1) (fun y hy => h y (by simp [hy]))
      refine ⟨r, Ev.bind (g := fun k => chk k i x) (f := fun k c => if c = 0 then lookZ (chk k) l (i + 1) else some (some (c, i))) hc (Ev.congr (fun k => if_pos e) hr), ?_⟩
      rcases hq with ⟨h1, h2⟩ | h1
      · refine .inl ⟨h1, fun j hj => ?_⟩
        cases j with
        | zero => simpa using hP e
        | succ j =>
          have := h2 j (by simpa using hj)
          rw [show i + ((j + 1 : Nat) : Int) = i + 1 + (j : Int) by omega]; exact this
      · exact .inr h1
    · exact ⟨some (c, i), Ev.bind (g := fun k => chk k i x) (f := fun k c => if c = 0 then lookZ (chk k) l (i + 1) else some (some (c, i))) hc (Ev.congr (fun k => if_neg e) (Ev.now _)), .inr ⟨c, i, rfl, e⟩⟩
def P1 (l : List S34) (i : Int) (x : S34) : Prop := x.f0 ∉ BS ∧ i ≤ fi l x.f0
def P2 (l : List S34) (x : S34) : Prop := x.f1 = NIL ∨ (isB l x.f1 = true ∧ sup l (rdOf ByteArray.empty (ch l x.f0) (((ch l x.f0).length : Int) - 1)) ∉ ch l x.f0)
theorem check1_ev (l : List S34) (hl : SM l) (x : S34) (i : Int) : ∃ c, Ev (fun k => check1 k l i x) c ∧ (c = 0 → P1 l i x) := by
  by_cases hb : x.f0 ∈ BS
  · exact ⟨6, Ev.bind (g := fun k => kin_Base.f k x.f0) (f := fun _ b => if b = true then some 6 else (kin_Find.f l x.f0).bind fun t => if t < i then some 6 else some 0) (base_ev _) (Ev.congr (fun k => if_pos (by simpa using hb)) (Ev.now _)), fun h => absurd h (by decide)⟩
  · refine ⟨if fi l x.f0 < i then 6 else 0, Ev.bind (g := fun k => kin_Base.f k x.f0) (f := fun _ b => if b = true then some 6 else (kin_Find.f l x.f0).bind fun t => if t < i then some 6 else some 0) (base_ev _) (Ev.congr (fun k => ?_) (Ev.now _)), fun h => ⟨hb, ?_⟩⟩
    · rw [if_neg (by simpa using hb), find_eq l _ hl, Option.bind_some]; split <;> rfl
    · split at h
      · cases h
      · omega
theorem ch_room (l : List S34) (a : ByteArray) : (ch l a).length ≤ l.length + 5 := by
  obtain ⟨z, hw, _, hnd⟩ := ch_walk l a
  exact room hnd hw.all
theorem check2_ev (l : List S34) (hl : SM l) (x : S34) (hx : x ∈ l) : ∃ c, Ev (fun k => check2 k l x) c ∧ (c = 0 → P2 l x) := by
  by_cases h0 : x.f1 = NIL
  · exact ⟨0, Ev.congr (fun k => by unfold check2; rw [if_pos (list_nil.2 h0)]) (Ev.now _), fun _ => .inl h0⟩
  have h0' : ¬ x.f1.toList = ([] : List UInt8) := fun e => h0 (list_nil.1 e)
  have hself : x.f0 ∈ ch l x.f0 := ch_self (by unfold isB; rw [Bool.or_eq_true]; exact .inr (by simpa using mem_fi hx))
  have hpos := List.length_pos_of_mem hself
  have hroom := ch_room l x.f0
  have hbig : (ch l x.f0).length ≤ 1000000000 := by unfold SM at hl; omega
  by_cases hi : isB l x.f1 = true
  · obtain ⟨n, hn⟩ : ∃ n, n = rdOf ByteArray.empty (ch l x.f0) (((ch l x.f0).length : Int) - 1) := ⟨_, rfl⟩
    refine ⟨if sup l n ∈ ch l x.f0 then 8 else 0, ?_, fun h => .inr ⟨hi, ?_⟩⟩
    · refine Ev.congr (f := fun k => (kin_Is.f k l x.f1).bind fun is => if is = true then (kin_Chain.f k l x.f0).bind fun ch => if 0 < ch.length ∧ ch.length ≤ 1000000000 then (kin_Super.f k l (rdOf ByteArray.empty ch ((ch.length : Int) - 1))).bind fun s => (slices_Contains_string_string.f k ch s).bind fun b => if b = true then some 8 else some 0 else none else some 7) (fun k => by unfold check2; rw [if_neg h0']) ?_
      refine Ev.bind (f := fun k is => if is = true then (kin_Chain.f k l x.f0).bind fun ch => if 0 < ch.length ∧ ch.length ≤ 1000000000 then (kin_Super.f k l (rdOf ByteArray.empty ch ((ch.length : Int) - 1))).bind fun s => (slices_Contains_string_string.f k ch s).bind fun b => if b = true then some 8 else some 0 else none else some 7) (is_ev l x.f1 hl) ?_
      refine Ev.congr (f := fun k => (kin_Chain.f k l x.f0).bind fun ch => if 0 < ch.length ∧ ch.length ≤ 1000000000 then (kin_Super.f k l (rdOf ByteArray.empty ch ((ch.length : Int) - 1))).bind fun s => (slices_Contains_string_string.f k ch s).bind fun b => if b = true then some 8 else some 0 else none) (fun k => if_pos hi) ?_
      refine Ev.bind (f := fun k ch => if 0 < ch.length ∧ ch.length ≤ 1000000000 then (kin_Super.f k l (rdOf ByteArray.empty ch ((ch.length : Int) - 1))).bind fun s => (slices_Contains_string_string.f k ch s).bind fun b => if b = true then some 8 else some 0 else none) (chain_ev l x.f0 hl) ?_
      refine Ev.congr (f := fun k => (kin_Super.f k l n).bind fun s => (slices_Contains_string_string.f k (ch l x.f0) s).bind fun b => if b = true then some 8 else some 0) (fun k => by rw [if_pos ⟨hpos, hbig⟩, hn]) ?_
      refine Ev.bind (f := fun k s => (slices_Contains_string_string.f k (ch l x.f0) s).bind fun b => if b = true then some 8 else some 0) (super_ev l n hl) ?_
      refine Ev.bind (f := fun k b => if b = true then some 8 else some 0) (contains_ev (ch l x.f0) (sup l n) hbig) ?_
      refine Ev.congr (fun k => ?_) (Ev.now _)
      by_cases hc : sup l n ∈ ch l x.f0 <;> simp [hc]
    · rw [← hn]
      intro hc; rw [if_pos hc] at h; cases h
  · refine ⟨7, ?_, fun h => absurd h (by decide)⟩
    refine Ev.congr (f := fun k => (kin_Is.f k l x.f1).bind fun is => if is = true then (kin_Chain.f k l x.f0).bind fun ch => if 0 < ch.length ∧ ch.length ≤ 1000000000 then (kin_Super.f k l (rdOf ByteArray.empty ch ((ch.length : Int) - 1))).bind fun s => (slices_Contains_string_string.f k ch s).bind fun b => if b = true then some 8 else some 0 else none else some 7) (fun k => by unfold check2; rw [if_neg h0']) ?_
    refine Ev.bind (f := fun k is => if is = true then (kin_Chain.f k l x.f0).bind fun ch => if 0 < ch.length ∧ ch.length ≤ 1000000000 then (kin_Super.f k l (rdOf ByteArray.empty ch ((ch.length : Int) - 1))).bind fun s => (slices_Contains_string_string.f k ch s).bind fun b => if b = true then some 8 else some 0 else none else some 7) (is_ev l x.f1 hl) ?_
    exact Ev.congr (fun k => if_neg hi) (Ev.now _)
/-- No class is a base one, each stands where its name is found, its super is fine. -/
structure Clean (l : List S34) : Prop where
  one : ∀ (j : Nat) (h : j < l.length), P1 l j l[j]
  two : ∀ x ∈ l, P2 l x
theorem Clean.at {l : List S34} (c : Clean l) (j : Nat) (h : j < l.length) : fi l (l[j]).f0 = j := by
  have h1 := (c.one j h).2
  rcases fi_spec l (l[j]).f0 with ⟨h2, _⟩ | ⟨i, hi, h2, h3, h4⟩
  · omega
  · by_cases e : i = j
    · rw [h2, e]
    · exact absurd rfl (h4 j (by omega))
theorem check_ev (l : List S34) (hl : SM l) : ∃ r : Int × Int, Ev (fun k => kin_Check.f k l) r ∧ (r.1 = 0 → Clean l) := by
  have hl' : l.length ≤ 9223372036854775806 := by unfold SM at hl; omega
  obtain ⟨r1, h1, q1⟩ := look_ev (chk := fun k => check1 k l) (P := P1 l) l 0 (fun x _ i => check1_ev l hl x i)
  obtain ⟨r2, h2, q2⟩ := look_ev (chk := fun k _ x => check2 k l x) (P := fun _ x => P2 l x) l 0 (fun x hx _ => check2_ev l hl x hx)
  rcases q1 with ⟨e1, p1⟩ | ⟨c, z, e1, hc⟩
  · have A : Ev (fun k => kin_Check.f k l) (r2.getD (0, 0)) := by
      refine Ev.congr (f := fun k => (lookZ (check1 k l) l 0).bind fun r => match r with | some p => some p | none => (lookZ (fun _ x => check2 k l x) l 0).bind fun r2 => some (r2.getD (0, 0))) (fun k => by unfold kin_Check.f; rw [if_pos hl']; rfl) ?_
      refine Ev.bind (f := fun k r => match r with | some p => some p | none => (lookZ (fun _ x => check2 k l x) l 0).bind fun r2 => some (r2.getD (0, 0))) h1 ?_
      rw [e1]
      exact Ev.bind (f := fun _ r2 => some (r2.getD (0, 0))) h2 (Ev.now _)
    refine ⟨_, A, fun h => ?_⟩
    rcases q2 with ⟨e2, p2⟩ | ⟨c, z, e2, hc⟩
    · refine ⟨fun j hj => by have := p1 j hj; rwa [Int.zero_add] at this, fun x hx => ?_⟩
      obtain ⟨j, hj, e⟩ := List.getElem_of_mem hx
      rw [← e]; exact p2 j hj
    · rw [e2] at h; exact absurd h hc
  · refine ⟨(c, z), ?_, fun h => absurd h hc⟩
    refine Ev.congr (f := fun k => (lookZ (check1 k l) l 0).bind fun r => match r with | some p => some p | none => (lookZ (fun _ x => check2 k l x) l 0).bind fun r2 => some (r2.getD (0, 0))) (fun k => by unfold kin_Check.f; rw [if_pos hl']; rfl) ?_
    refine Ev.bind (f := fun k r => match r with | some p => some p | none => (lookZ (fun _ x => check2 k l x) l 0).bind fun r2 => some (r2.getD (0, 0))) h1 ?_
    rw [e1]
    exact Ev.now _

/-- No class is called nothing. -/
def Named (l : List S34) : Prop := ∀ x ∈ l, x.f0 ∈ N5
theorem five {a : ByteArray} (h : a ∈ N5) : a ≠ NIL ∧ a ≠ NULL ∧ a ∉ BS := by
  have : ∀ x ∈ N5, x ≠ NIL ∧ x ≠ NULL ∧ x ∉ BS := by decide +kernel
  exact this a h
theorem not_is {l : List S34} (hn : Named l) {a : ByteArray} (h1 : a ∉ N5) (h2 : a ∉ BS) : isB l a = false := by
  cases h : isB l a with
  | false => rfl
  | true =>
    rcases List.mem_append.1 (is_name h) with h | h
    · exact absurd h h2
    · obtain ⟨x, hx, e⟩ := List.mem_map.1 h
      exact absurd (e ▸ hn x hx) h1
theorem mem_is {l : List S34} {x : S34} (h : x ∈ l) : isB l x.f0 = true := by unfold isB; rw [Bool.or_eq_true]; exact .inr (by simpa using mem_fi h)
theorem base_is {l : List S34} {a : ByteArray} (h : a ∈ BS) : isB l a = true := by unfold isB; rw [Bool.or_eq_true]; exact .inl (by simpa using h)
theorem sup_at {l : List S34} (c : Clean l) (j : Nat) (h : j < l.length) : sup l (l[j]).f0 = (l[j]).f1 := by
  unfold sup
  rw [if_neg (c.one j h).1, c.at j h, if_neg (by omega)]
  unfold rd_T34
  rw [Int.toNat_natCast, List.getD_eq_getElem?_getD, List.getElem?_eq_getElem h]; rfl
theorem ch_one {l : List S34} {a : ByteArray} (h : isB l a = true) (hs : isB l (sup l a) = false) : ch l a = [a] := by
  unfold ch
  rw [show l.length + 6 = (l.length + 4) + 1 + 1 from rfl, chG, if_pos h, if_neg (by simp), chG, hs]; simp
theorem ch_two {l : List S34} {a : ByteArray} (h : isB l a = true) (hs : isB l (sup l a) = true) (hne : sup l a ≠ a) (ht : isB l (sup l (sup l a)) = false) : ch l a = [a, sup l a] := by
  unfold ch
  rw [show l.length + 6 = (l.length + 3) + 1 + 1 + 1 from rfl, chG, if_pos h, if_neg (by simp), chG, if_pos hs, if_neg (by simpa using hne), chG, ht]; simp
theorem exc_bs : EXC ∈ BS := by decide +kernel
theorem nil_not {l : List S34} (hn : Named l) : isB l NIL = false := not_is hn (by decide +kernel) (by decide +kernel)
theorem null_not {l : List S34} (hn : Named l) : isB l NULL = false := not_is hn (by decide +kernel) (by decide +kernel)
theorem sup_exc (l : List S34) : sup l EXC = NIL := by unfold sup; rw [if_pos exc_bs, if_pos rfl]
theorem sup_bs (l : List S34) {a : ByteArray} (h : a ∈ BS) (hn : a ≠ EXC) : sup l a = EXC := by unfold sup; rw [if_pos h, if_neg hn]
theorem ch_exc {l : List S34} (hn : Named l) : ch l EXC = [EXC] := ch_one (base_is exc_bs) (by rw [sup_exc]; exact nil_not hn)
theorem ch_bs {l : List S34} (hn : Named l) {a : ByteArray} (h : a ∈ BS) (hne : a ≠ EXC) : ch l a = [a, EXC] := by
  have e := sup_bs l h hne
  have := ch_two (l := l) (base_is h) (by rw [e]; exact base_is exc_bs) (by rw [e]; exact fun h => hne h.symm) (by rw [e, sup_exc]; exact nil_not hn)
  rw [this, e]
theorem clean_good {l : List S34} (c : Clean l) (hn : Named l) : Good l := by
  intro x hx
  by_cases hb : x ∈ BS
  · by_cases he : x = EXC
    · subst he
      rw [ch_exc hn]
      exact ⟨NIL, .up (base_is exc_bs) (by rw [sup_exc]; exact .here _), nil_not hn⟩
    · rw [ch_bs hn hb he]
      exact ⟨NIL, .up (base_is hb) (by rw [sup_bs l hb he]; exact .up (base_is exc_bs) (by rw [sup_exc]; exact .here _)), nil_not hn⟩
  · rcases List.mem_append.1 (is_name hx) with h | h
    · exact absurd h hb
    · obtain ⟨y, hy, e⟩ := List.mem_map.1 h
      obtain ⟨j, hj, ej⟩ := List.getElem_of_mem hy
      subst ej
      subst e
      rcases c.two _ hy with h0 | ⟨h1, h2⟩
      · have hs := sup_at c j hj
        rw [h0] at hs
        rw [ch_one hx (by rw [hs]; exact nil_not hn)]
        exact ⟨NIL, .up hx (by rw [hs]; exact .here _), nil_not hn⟩
      · obtain ⟨z, hw, hz, _⟩ := ch_walk l (l[j]).f0
        have hne : ch l (l[j]).f0 ≠ [] := List.ne_nil_of_mem (ch_self hx)
        rw [hw.last hne] at h2
        exact ⟨z, hw, hz.resolve_right h2⟩
theorem rd34 {l : List S34} {i : Nat} (h : i < l.length) : rd_T34 l (i : Int) = l[i] := by
  unfold rd_T34; rw [Int.toNat_natCast, List.getD_eq_getElem?_getD, List.getElem?_eq_getElem h]; rfl
theorem told_ev : Ev (fun k => changelinglaw6_told.f k) true := Ev.of (fun k => changelinglaw6_told.mono k) (k := 40) (by decide +kernel)
end Go.Proofs.Ytddggdhkhfephaa.Pure
