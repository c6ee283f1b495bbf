/- flow.Passes walked: whether one may come behind a row of statements.
   Conditions: rows whose lengths are a number of the machine's; as many rounds as the statements are deep. -/
import Derived.Test.YtigfdkchblhkdaaQx0
import Derived.Lib.Hide
import Derived.WalkSmall
namespace Go.Proofs.Ytigfdkchblhkdaa
open Go.RowKit Go.Proofs.YtigfdkchblhkdaaW.PrintWords Go.Proofs.YtigfdkchblhkdaaW.PrintLast Go.Proofs.YtigfdkchblhkdaaW.PrintMore Go.Proofs.Ytigfdkchblhkdaa.Q

/-- Is an expression true for ever? -/
def everZ : List S27 → Bool
  | [] => false
  | e :: _ => e.f0 == 2 && e.f1 == 1
/-- Do all of a row pass? The first that does not ends it. -/
def allO (p : S29 → Option Bool) : List S29 → Option Bool
  | [] => some true
  | x :: l => (p x).bind fun b => if b = true then allO p l else some false
/-- A choice: either way. -/
def eitherO (p q : Option Bool) : Option Bool := p.bind fun a => if a = true then some true else q
/-- One statement, given what rows do. -/
def stO (P : List S29 → Option Bool) (s : S29) : Option Bool :=
  if s.f0 = 6 then some false else if s.f0 = 9 then some false
  else if s.f0 = 4 then eitherO (P s.f5) (P s.f6)
  else if s.f0 = 5 then some (!everZ s.f4)
  else if s.f0 = 10 then (eitherO (P s.f5) (P s.f6)).bind fun a => if a = true then P s.f7 else some false
  else some true
def flow_Passes.f : Nat → List S29 → Option Bool
  | 0, _ => none
  | k + 1, l => if l.length ≤ 9223372036854775806 then allO (stO (flow_Passes.f k)) l else none
def RetB (b : Bool) (w : World) (e : Ending) (w' : World) : Prop := e = .returned (.bool b) ∧ Below w.heap.size w w'
def RetL (n : Int) (w : World) (e : Ending) (w' : World) : Prop := e = .returned (.int .i64 n) ∧ Below w.heap.size w w'

set_option maxHeartbeats 1000000 in
set_option maxRecDepth 100000 in
theorem ever_calls (A : Option Addr) (c : Nat) (l : List S27) (w : World) (hC : Kd.C k27 w A l.length l) :
    Calls Try.prog 15 #[.slice A l.length c] w (RetB (everZ l) w) := by
  cases l with
  | nil =>
    have h0 : decide ((0 : Int) < (([] : List S27).length : Int)) = false := by decide
    go_enter Try.func15, Try.ntmps15
    go_wp2
    go_ret
    exact ⟨rfl, Below.refl _ _⟩
  | cons e l =>
    have HC := Lib.hid hC
    obtain ⟨ad, A5, c5, e1, h0, h1, _⟩ := at_T27 hC 0 (by decide) (by simp)
    cases e1
    have er : rd_T27 (e :: l) 0 = e := rfl
    rw [er, show ad.add (Int.toNat 0 * 8) = ad from rfl] at h0 h1
    clear hC er
    have hpos : (0 : Int) < ((e :: l).length : Int) := by simp
    have hn : everZ (e :: l) = (e.f0 == 2 && e.f1 == 1) := rfl
    rw [hn]
    clear hn
    generalize (e :: l).length = n at *
    go_enter Try.func15, Try.ntmps15
    by_cases a1 : e.f0 = 2
    · have a1b : (e.f0 == 2) = true := beq_iff_eq.2 a1
      by_cases a2 : e.f1 = 1
      · have a2b : (e.f1 == 1) = true := beq_iff_eq.2 a2
        rw [a1b, a2b]
        rw [a1] at h0
        rw [a2] at h1
        go_wp2
        go_ret
        exact ⟨rfl, Below.refl _ _⟩
      · have a2b : (e.f1 == 1) = false := beq_eq_false_iff_ne.2 a2
        rw [a1b, a2b]
        rw [a1] at h0
        go_wp2
        go_ret
        exact ⟨rfl, Below.refl _ _⟩
    · have a1b : (e.f0 == 2) = false := beq_eq_false_iff_ne.2 a1
      rw [a1b]
      go_wp2
      go_ret
      exact ⟨rfl, Below.refl _ _⟩

/-- What an induction on the rounds knows of Passes. -/
def PassIH (k : Nat) : Prop := ∀ (A : Option Addr) (c : Nat) (l : List S29) (r : Bool) (w : World), Hid (k29.C w A l.length l) → Hid (flow_Passes.f k l = some r) → Calls Try.prog 7 #[.slice A l.length c] w (RetB r w)

theorem ta_ok (v : Value) (w : World) : Sem.run Try.prog (Instr.typeAssert (.iface 29 v) 20 29 true) w = .ok (.tuple #[v, .bool true]) w := by
  simp [Instr.typeAssert, run_underlying Try.underlying29, go_sem, Result.andThen]

set_option maxHeartbeats 4000000 in
set_option maxRecDepth 100000 in
theorem st_calls (k : Nat) (ih : PassIH k) (f0 f1 : Int) (f2 f3 : ByteArray) (f4 : List S27) (f5 f6 f7 : List S29) (f8 : Int) (A4 : Option Addr) (c4 : Nat) (A5 : Option Addr) (c5 : Nat) (A6 : Option Addr) (c6 : Nat) (A7 : Option Addr) (c7 : Nat) (b : Bool) (w : World)
    (H4 : Hid (k27.C w A4 f4.length f4)) (H5 : Hid (k29.C w A5 f5.length f5)) (H6 : Hid (k29.C w A6 f6.length f6)) (H7 : Hid (k29.C w A7 f7.length f7)) (h : Hid (stO (flow_Passes.f k) ⟨f0, f1, f2, f3, f4, f5, f6, f7, f8⟩ = some b)) :
    Calls Try.prog 12 #[.iface 29 (.agg #[.int .i64 f0, .int .i32 f1, .string f2, .string f3, .slice A4 f4.length c4, .slice A5 f5.length c5, .slice A6 f6.length c6, .slice A7 f7.length c7, .int .i64 f8])] w (RetB b w) := by
  have hta := ta_ok (.agg #[.int .i64 f0, .int .i32 f1, .string f2, .string f3, .slice A4 f4.length c4, .slice A5 f5.length c5, .slice A6 f6.length c6, .slice A7 f7.length c7, .int .i64 f8])
  have HB : Below w.heap.size w (w.alloc (.cells #[.int .i64 f0, .int .i32 f1, .string f2, .string f3, .slice A4 f4.length c4, .slice A5 f5.length c5, .slice A6 f6.length c6, .slice A7 f7.length c7, .int .i64 f8] 29)) := (Below.refl _ _).alloc (Nat.le_refl _) _
  have H4' := Lib.hid (Kd.C_below H4.out HB)
  have H5' := Lib.hid (Kd.C_below H5.out HB)
  have H6' := Lib.hid (Kd.C_below H6.out HB)
  have H7' := Lib.hid (Kd.C_below H7.out HB)
  have g5 : (w.alloc (.cells #[.int .i64 f0, .int .i32 f1, .string f2, .string f3, .slice A4 f4.length c4, .slice A5 f5.length c5, .slice A6 f6.length c6, .slice A7 f7.length c7, .int .i64 f8] 29)).cell? ⟨w.heap.size, 5, none⟩ = some (.slice A5 f5.length c5) := (blk_cell (heap_alloc_new _ _) 5).trans rfl
  have g6 : (w.alloc (.cells #[.int .i64 f0, .int .i32 f1, .string f2, .string f3, .slice A4 f4.length c4, .slice A5 f5.length c5, .slice A6 f6.length c6, .slice A7 f7.length c7, .int .i64 f8] 29)).cell? ⟨w.heap.size, 6, none⟩ = some (.slice A6 f6.length c6) := (blk_cell (heap_alloc_new _ _) 6).trans rfl
  have g7 : (w.alloc (.cells #[.int .i64 f0, .int .i32 f1, .string f2, .string f3, .slice A4 f4.length c4, .slice A5 f5.length c5, .slice A6 f6.length c6, .slice A7 f7.length c7, .int .i64 f8] 29)).cell? ⟨w.heap.size, 7, none⟩ = some (.slice A7 f7.length c7) := (blk_cell (heap_alloc_new _ _) 7).trans rfl
  have G6 := Lib.hid g6
  have G7 := Lib.hid g7
  clear g5 g6 g7
  have hs : (if f0 = 6 then some false else if f0 = 9 then some false
    else if f0 = 4 then eitherO (flow_Passes.f k f5) (flow_Passes.f k f6)
    else if f0 = 5 then some (!everZ f4)
    else if f0 = 10 then (eitherO (flow_Passes.f k f5) (flow_Passes.f k f6)).bind fun a => if a = true then flow_Passes.f k f7 else some false
    else some true) = some b := h.out
  clear h H4 H5 H6 H7
  by_cases k6 : f0 = 6
  · rw [if_pos k6] at hs
    obtain rfl := Option.some.inj hs
    subst k6
    clear G6 G7 hs H4' H5' H6' H7'
    go_enter Try.func12, Try.ntmps12
    go_wp2
    go_ret
    exact ⟨rfl, HB⟩
  rw [if_neg k6] at hs
  by_cases k9 : f0 = 9
  · rw [if_pos k9] at hs
    obtain rfl := Option.some.inj hs
    subst k9
    clear G6 G7 hs H4' H5' H6' H7' k6
    go_enter Try.func12, Try.ntmps12
    go_wp2
    go_ret
    exact ⟨rfl, HB⟩
  rw [if_neg k9] at hs
  by_cases k4 : f0 = 4
  · rw [if_pos k4] at hs
    subst k4
    clear k6 k9
    unfold eitherO at hs
    obtain ⟨a, ha, hs⟩ := Option.bind_eq_some_iff.mp hs
    have Ha := Lib.hid ha; clear ha
    have Hs := Lib.hid hs; clear hs
    go_enter Try.func12, Try.ntmps12
    go_wp2_with fail
    refine (ih A5 c5 f5 a _ H5' Ha).mono ?_
    rintro e w1 ⟨rfl, hb1⟩
    have HB1 := HB.trans (hb1.mono (by simp))
    have hs := Hs.out
    cases a with
    | true =>
      rw [if_pos rfl] at hs
      obtain rfl := Option.some.inj hs
      clear G6 G7 hs H4' H5' H6' H7' hb1 Hs
      go_wp2
      go_ret
      exact ⟨rfl, HB1⟩
    | false =>
      rw [if_neg (by decide)] at hs
      have Hs2 := Lib.hid hs
      have g6 := (hb1.cell (p := ⟨w.heap.size, 6, none⟩) (by simp)).trans G6.out
      have H6'' := Lib.hid (Kd.C_below H6'.out hb1)
      clear G6 G7 hs H4' H5' H6' H7' hb1 Hs
      go_wp2_with fail
      refine (ih A6 c6 f6 b _ H6'' Hs2).mono ?_
      rintro e w2 ⟨rfl, hb2⟩
      have HB2 := HB1.trans (hb2.mono HB1.size)
      clear hb2 g6
      go_wp2
      go_ret
      exact ⟨rfl, HB2⟩
  rw [if_neg k4] at hs
  by_cases k5 : f0 = 5
  · rw [if_pos k5] at hs
    obtain rfl := Option.some.inj hs
    subst k5
    clear G6 G7 hs H5' H6' H7' k6 k9 k4
    go_enter Try.func12, Try.ntmps12
    go_wp2_with fail
    refine (ever_calls A4 c4 f4 _ H4'.out).mono ?_
    rintro e w1 ⟨rfl, hb1⟩
    have HB1 := HB.trans (hb1.mono (by simp))
    clear hb1
    go_wp2
    go_ret
    exact ⟨rfl, HB1⟩
  rw [if_neg k5] at hs
  by_cases k10 : f0 = 10
  · rw [if_pos k10] at hs
    subst k10
    clear k6 k9 k4 k5
    obtain ⟨m, hm, hs⟩ := Option.bind_eq_some_iff.mp hs
    unfold eitherO at hm
    obtain ⟨a, ha, hm⟩ := Option.bind_eq_some_iff.mp hm
    have Ha := Lib.hid ha; clear ha
    have Hm := Lib.hid hm; clear hm
    have Hs := Lib.hid hs; clear hs
    go_enter Try.func12, Try.ntmps12
    go_wp2_with fail
    refine (ih A5 c5 f5 a _ H5' Ha).mono ?_
    rintro e w1 ⟨rfl, hb1⟩
    have HB1 := HB.trans (hb1.mono (by simp))
    have g6 := (hb1.cell (p := ⟨w.heap.size, 6, none⟩) (by simp)).trans G6.out
    have g7 := (hb1.cell (p := ⟨w.heap.size, 7, none⟩) (by simp)).trans G7.out
    have hlt : w.heap.size < w1.heap.size := by have := hb1.size; simp at this; omega
    have H6'' := Lib.hid (Kd.C_below H6'.out hb1)
    have H7'' := Lib.hid (Kd.C_below H7'.out hb1)
    have hm := Hm.out
    clear hb1 Hm H4' H5' H6' H7' G6 G7
    have last : ∀ (m : Bool), m = true → True := fun _ _ => trivial
    cases a with
    | true =>
      rw [if_pos rfl] at hm
      obtain rfl := Option.some.inj hm
      have hs := Hs.out
      rw [if_pos rfl] at hs
      have Hs2 := Lib.hid hs
      clear Hs hs hm g6 last
      go_wp2_with fail
      refine (ih A7 c7 f7 b _ H7'' Hs2).mono ?_
      rintro e w2 ⟨rfl, hb2⟩
      have HB2 := HB1.trans (hb2.mono HB1.size)
      clear hb2 g7
      go_wp2
      go_ret
      exact ⟨rfl, HB2⟩
    | false =>
      rw [if_neg (by decide)] at hm
      have Hm2 := Lib.hid hm
      clear hm last
      have G7 := Lib.hid g7; clear g7
      go_wp2_with fail
      refine (ih A6 c6 f6 m _ H6'' Hm2).mono ?_
      rintro e w2 ⟨rfl, hb2⟩
      have HB2 := HB1.trans (hb2.mono HB1.size)
      have g7 := (hb2.cell (p := ⟨w.heap.size, 7, none⟩) hlt).trans G7.out
      have H7x := Lib.hid (Kd.C_below H7''.out hb2)
      clear hb2 g6 G7
      have hs := Hs.out
      cases m with
      | true =>
        rw [if_pos rfl] at hs
        have Hs2 := Lib.hid hs
        clear hs Hs
        go_wp2_with fail
        refine (ih A7 c7 f7 b _ H7x Hs2).mono ?_
        rintro e w3 ⟨rfl, hb3⟩
        have HB3 := HB2.trans (hb3.mono HB2.size)
        clear hb3 g7
        go_wp2
        go_ret
        exact ⟨rfl, HB3⟩
      | false =>
        rw [if_neg (by decide)] at hs
        obtain rfl := Option.some.inj hs
        clear hs Hs g7
        go_wp2
        go_ret
        exact ⟨rfl, HB2⟩
  rw [if_neg k10] at hs
  obtain rfl := Option.some.inj hs
  clear G6 G7 hs H4' H5' H6' H7'
  have b6 : (f0 == 6) = false := beq_eq_false_iff_ne.2 k6
  have b9 : (f0 == 9) = false := beq_eq_false_iff_ne.2 k9
  have b4 : (f0 == 4) = false := beq_eq_false_iff_ne.2 k4
  have b5 : (f0 == 5) = false := beq_eq_false_iff_ne.2 k5
  have b10 : (f0 == 10) = false := beq_eq_false_iff_ne.2 k10
  go_enter Try.func12, Try.ntmps12
  go_wp2
  go_ret
  exact ⟨rfl, HB⟩

set_option maxHeartbeats 1000000 in
set_option maxRecDepth 100000 in
theorem closure_calls (k : Nat) (ih : PassIH k) (f0 f1 : Int) (f2 f3 : ByteArray) (f4 : List S27) (f5 f6 f7 : List S29) (f8 : Int) (A4 : Option Addr) (c4 : Nat) (A5 : Option Addr) (c5 : Nat) (A6 : Option Addr) (c6 : Nat) (A7 : Option Addr) (c7 : Nat) (b : Bool) (w : World)
    (H4 : Hid (k27.C w A4 f4.length f4)) (H5 : Hid (k29.C w A5 f5.length f5)) (H6 : Hid (k29.C w A6 f6.length f6)) (H7 : Hid (k29.C w A7 f7.length f7)) (h : Hid (stO (flow_Passes.f k) ⟨f0, f1, f2, f3, f4, f5, f6, f7, f8⟩ = some b)) :
    Calls Try.prog 11 #[.agg #[.int .i64 f0, .int .i32 f1, .string f2, .string f3, .slice A4 f4.length c4, .slice A5 f5.length c5, .slice A6 f6.length c6, .slice A7 f7.length c7, .int .i64 f8]] w (RetB (!b) w) := by
  have HB : Below w.heap.size w (w.alloc (.cells #[.int .i64 f0, .int .i32 f1, .string f2, .string f3, .slice A4 f4.length c4, .slice A5 f5.length c5, .slice A6 f6.length c6, .slice A7 f7.length c7, .int .i64 f8] 29)) := (Below.refl _ _).alloc (Nat.le_refl _) _
  have H4' := Lib.hid (Kd.C_below H4.out HB)
  have H5' := Lib.hid (Kd.C_below H5.out HB)
  have H6' := Lib.hid (Kd.C_below H6.out HB)
  have H7' := Lib.hid (Kd.C_below H7.out HB)
  clear H4 H5 H6 H7
  go_enter Try.func11, Try.ntmps11
  go_wp2_with fail
  refine (st_calls k ih f0 f1 f2 f3 f4 f5 f6 f7 f8 A4 c4 A5 c5 A6 c6 A7 c7 b _ H4' H5' H6' H7' h).mono ?_
  rintro e w1 ⟨rfl, hb1⟩
  have HB1 := HB.trans (hb1.mono (by simp))
  clear hb1
  go_wp2
  go_ret
  exact ⟨rfl, HB1⟩

/-- The first place whose statement does not pass, from i on; -1. -/
def ixO (p : S29 → Option Bool) : List S29 → Int → Option Int
  | [], _ => some (-1)
  | x :: l, i => (p x).bind fun b => if b = true then ixO p l (i + 1) else some i
theorem allO_ix (p : S29 → Option Bool) : ∀ (l : List S29) (i : Int), 0 ≤ i → allO p l = (ixO p l i).bind fun r => some (!decide (r ≥ 0))
  | [], i, _ => rfl
  | x :: l, i, h => by
    unfold allO ixO
    cases p x with
    | none => rfl
    | some b =>
      cases b with
      | true => exact allO_ix p l (i + 1) (by omega)
      | false =>
        show some false = some (!decide (i ≥ 0))
        rw [decide_eq_true h]; rfl

set_option maxHeartbeats 2000000 in
set_option maxRecDepth 100000 in
theorem index_calls (k : Nat) (ih : PassIH k) (A : Option Addr) (c : Nat) (l : List S29) (r : Int) (w : World) (hC : Hid (k29.C w A l.length l)) (hl : l.length ≤ 9223372036854775806) (h : Hid (ixO (stO (flow_Passes.f k)) l 0 = some r)) :
    Calls Try.prog 14 #[.slice A l.length c, .func (.func 11) #[] #[]] w (RetL r w) := by
  have Hr : Hid (ixO (stO (flow_Passes.f k)) (l.drop 0) ((0 : Nat) : Int) = some r) := Lib.hid h.out
  clear h
  go_enter Try.func14, Try.ntmps14
  go_wp2
  go_loopw [8] (fun vk wr => ∃ j : Nat, j ≤ l.length ∧ vk = .int .i64 j ∧ Hid (ixO (stO (flow_Passes.f k)) (l.drop j) (j : Int) = some r) ∧ Below w.heap.size w wr) (fun vk _ => l.length - (intOf vk).toNat)
  case atStart => exact ⟨0, Nat.zero_le _, rfl, Hr, Below.refl _ _⟩
  case round =>
    obtain ⟨j, hj, rfl, hix, hbw⟩ := hrel
    clear Hr
    by_cases hlt : j < l.length
    · have hC2 := Kd.C_below hC.out hbw
      obtain ⟨ad, A4, c4, A5, c5, A6, c6, A7, c7, e, h0, h1, h2, h3, h4, h5, h6, h7, h8, _, q4, _, q5, _, q6, _, q7⟩ := at_T29 hC2 (j : Int) (by omega) (by omega)
      cases e
      rw [Int.toNat_natCast] at h0 h1 h2 h3 h4 h5 h6 h7 h8
      have hdrop : l.drop j = rd_T29 l (j : Int) :: l.drop (j + 1) := by
        rw [List.drop_eq_getElem_cons hlt]; congr 1
        unfold rd_T29; rw [Int.toNat_natCast, List.getD_eq_getElem?_getD, List.getElem?_eq_getElem hlt]; rfl
      have hst := hix.out
      rw [hdrop, ixO] at hst
      obtain ⟨b, hb, hst⟩ := Option.bind_eq_some_iff.mp hst
      have Hst := Lib.hid hst; clear hst hdrop hix hC2
      have Hb := Lib.hid hb; clear hb
      have Q4 := Lib.hid q4; clear q4
      have Q5 := Lib.hid q5; clear q5
      have Q6 := Lib.hid q6; clear q6
      have Q7 := Lib.hid q7; clear q7
      generalize rd_T29 l (j : Int) = x at *
      obtain ⟨f0, f1, f2, f3, f4, f5, f6, f7, f8⟩ := x
      simp only at h0 h1 h2 h3 h4 h5 h6 h7 h8 Q4 Q5 Q6 Q7
      go_wp2_with fail
      refine (closure_calls k ih f0 f1 f2 f3 f4 f5 f6 f7 f8 A4 c4 A5 c5 A6 c6 A7 c7 b _ Q4 Q5 Q6 Q7 Hb).mono ?_
      rintro e w2 ⟨rfl, hb2⟩
      have HB3 : Below w.heap.size w w2 := hbw.trans (hb2.mono hbw.size)
      clear hb2
      have hst := Hst.out
      cases b with
      | true =>
        rw [if_pos rfl] at hst
        have Hs2 := Lib.hid hst; clear hst Hst
        go_wp2
        go_roundw
        case rel => exact ⟨j + 1, by omega, by go_num, Lib.hid (by rw [← Hs2.out]; rfl), HB3⟩
        case measure => simp [intOf]; omega
      | false =>
        rw [if_neg (by decide)] at hst
        obtain rfl := Option.some.inj hst
        clear hst Hst
        go_wp2
        go_ret
        exact ⟨rfl, HB3⟩
    · obtain rfl : j = l.length := by omega
      have hst := hix.out
      rw [List.drop_length, ixO] at hst
      obtain rfl := Option.some.inj hst
      clear hst hix
      go_wp2
      go_ret
      exact ⟨rfl, hbw⟩

set_option maxHeartbeats 1000000 in
set_option maxRecDepth 100000 in
theorem contains_calls (k : Nat) (ih : PassIH k) (A : Option Addr) (c : Nat) (l : List S29) (r : Int) (w : World) (hC : Hid (k29.C w A l.length l)) (hl : l.length ≤ 9223372036854775806) (h : Hid (ixO (stO (flow_Passes.f k)) l 0 = some r)) :
    Calls Try.prog 10 #[.slice A l.length c, .func (.func 11) #[] #[]] w (RetB (decide (r ≥ 0)) w) := by
  go_enter Try.func10, Try.ntmps10
  go_wp2_with fail
  refine (index_calls k ih A c l r _ hC hl h).mono ?_
  rintro e w1 ⟨rfl, hb1⟩
  go_wp2
  go_ret
  exact ⟨rfl, hb1⟩

set_option maxHeartbeats 1000000 in
set_option maxRecDepth 100000 in
theorem pass_calls : ∀ k, PassIH k
  | 0 => fun A c l r w hC h => by have := h.out; cases this
  | k + 1 => by
    intro A c l r w hC h
    have ih := pass_calls k
    have hh := h.out
    unfold flow_Passes.f at hh
    have hl : l.length ≤ 9223372036854775806 := by
      by_cases hl : l.length ≤ 9223372036854775806
      · exact hl
      · rw [if_neg hl] at hh; cases hh
    rw [if_pos hl, allO_ix _ l 0 (by decide)] at hh
    obtain ⟨n, hn, hh⟩ := Option.bind_eq_some_iff.mp hh
    obtain rfl := Option.some.inj hh
    have Hn := Lib.hid hn
    clear hn hh h
    go_enter Try.func7, Try.ntmps7
    go_wp2_with fail
    refine (contains_calls k ih A c l n _ hC hl Hn).mono ?_
    rintro e w1 ⟨rfl, hb1⟩
    go_wp2
    go_ret
    exact ⟨rfl, hb1⟩
theorem flow_Passes.calls (k : Nat) (A0 : Option Addr) (c0 : Nat) (l0 : List S29) (r : Bool) (w : World) (hr0 : Kd.C k29 w A0 l0.length l0) (_hc0 : l0.length ≤ c0) (h : flow_Passes.f k l0 = some r) :
    Calls Try.prog 7 #[.slice A0 l0.length c0] w fun e w' => e = .returned (.bool r) ∧ Below w.heap.size w w' := pass_calls k A0 c0 l0 r w (Lib.hid hr0) (Lib.hid h)

theorem allO_mono {p q : S29 → Option Bool} (h : ∀ x, LeO (p x) (q x)) : ∀ l, LeO (allO p l) (allO q l)
  | [] => LeO.refl _
  | x :: l => by unfold allO; exact LeO.bind (h x) fun _ => LeO.ite (allO_mono h l) (LeO.refl _)
theorem eitherO_mono {a a' b b' : Option Bool} (h : LeO a a') (k : LeO b b') : LeO (eitherO a b) (eitherO a' b') := by
  unfold eitherO; exact LeO.bind h fun _ => LeO.ite (LeO.refl _) k
theorem stO_mono {P Q : List S29 → Option Bool} (h : ∀ l, LeO (P l) (Q l)) (x : S29) : LeO (stO P x) (stO Q x) := by
  unfold stO
  exact LeO.ite (LeO.refl _) (LeO.ite (LeO.refl _) (LeO.ite (eitherO_mono (h _) (h _)) (LeO.ite (LeO.refl _) (LeO.ite (LeO.bind (eitherO_mono (h _) (h _)) fun _ => LeO.ite (h _) (LeO.refl _)) (LeO.refl _)))))
theorem pass_mono : ∀ k l, LeO (flow_Passes.f k l) (flow_Passes.f (k + 1) l)
  | 0, l => LeO.none _
  | k + 1, l => by
    unfold flow_Passes.f
    exact LeO.ite (allO_mono (stO_mono (pass_mono k)) l) (LeO.refl _)
theorem flow_Passes.mono : ∀ a0 k, LeO (flow_Passes.f k a0) (flow_Passes.f (k + 1) a0) := fun l k => pass_mono k l
end Go.Proofs.Ytigfdkchblhkdaa
