import Derived.Test.YtddggdhkhfephaaLook
namespace Go.Proofs.Ytddggdhkhfephaa
open Go.RowKit Go.Proofs.YtddggdhkhfephaaW.PrintWords Go.Proofs.YtddggdhkhfephaaW.PrintLast Go.Proofs.YtddggdhkhfephaaW.PrintMore Go.Proofs.Ytddggdhkhfephaa.Q

theorem ta_ok (v : Value) (w : World) : Sem.run Try.prog (Instr.typeAssert (.iface 46 v) 20 46 true) w = .ok (.tuple #[v, .bool true]) w := by
  simp [Instr.typeAssert, run_underlying Try.underlying46, go_sem, Result.andThen]
theorem ta_nil (w : World) : Sem.run Try.prog (Instr.typeAssert .nilIface 20 46 true) w = .ok (.tuple #[.agg #[.int .i64 0, .int .i64 0], .bool false]) w := by
  simp [Instr.typeAssert, run_underlying Try.underlying46, go_sem, Result.andThen]

set_option maxHeartbeats 2000000 in
set_option maxRecDepth 100000 in
theorem kin_Check.calls (k : Nat) (A0_0 : Option Addr) (c0_0 : Nat) (l0_0 : List S34) (r1 r2 : Int) (w : World) (hr0_0 : Kd.C k34 w A0_0 l0_0.length l0_0) (hc0_0 : l0_0.length ≤ c0_0) (h : kin_Check.f k l0_0 = some (r1, r2)) :
    Calls Try.prog 7 #[.agg #[.slice A0_0 l0_0.length c0_0]] w fun e w' => e = .returned (.tuple #[.int .i64 r1, .int .i64 r2]) ∧ Below w.heap.size w w' := by
  unfold kin_Check.f at h
  have hl : l0_0.length ≤ 9223372036854775806 := by
    by_cases hl : l0_0.length ≤ 9223372036854775806
    · exact hl
    · rw [if_neg hl] at h; cases h
  rw [if_pos hl] at h
  obtain ⟨q, hq, h⟩ := Option.bind_eq_some_iff.mp h
  have Hq := Lib.hid hq; clear hq
  have HR := Lib.hid hr0_0; clear hr0_0
  have Hc := Lib.hid hc0_0; clear hc0_0
  have Hh := Lib.hid h
  have HB : Below w.heap.size w (w.alloc (.cells #[.slice A0_0 l0_0.length c0_0] 25)) := (Below.refl _ _).alloc (Nat.le_refl _) _
  have hcl : (w.alloc (.cells #[.slice A0_0 l0_0.length c0_0] 25)).cell? ⟨w.heap.size, 0, none⟩ = some (.slice A0_0 l0_0.length c0_0) := (blk_cell (heap_alloc_new _ _) 0).trans rfl
  go_enter Try.func7, Try.ntmps7
  go_wp2_with fail
  have HC1 := Lib.hid (Kd.C_below HR.out HB)
  have Hcl := Lib.hid hcl
  have hn1 := fun (i : Int) (x : S34) (v3 v4 : Value) (w' : World) (r : Int) a b d => check1_calls k A0_0 c0_0 l0_0 w.heap.size i x v3 v4 w' r a Hc b d
  have Hn1 := Lib.hid hn1
  have h1 := look17_calls (check1 k l0_0) A0_0 c0_0 l0_0 w.heap.size (w.alloc (.cells #[.slice A0_0 l0_0.length c0_0] 25)) q HC1 Hc Hcl hl Hn1 Hq
  refine h1.mono ?_
  rintro e w1 ⟨rfl, hb1⟩
  have HB1 := HB.trans (hb1.mono HB.size)
  clear h1
  have h2 := Hh.out
  cases q with
  | some p =>
    obtain ⟨z1, z2⟩ := p
    obtain ⟨rfl, rfl⟩ := Prod.mk.inj (Option.some.inj h2)
    clear hb1 Hn1 hn1 HC1 Hcl hcl h
    simp only [lookV]
    have hta := ta_ok (.agg #[.int .i64 z1, .int .i64 z2])
    have HB2 := below_drew1 (HB1.alloc HB1.size (.cells #[.int .i64 z1, .int .i64 z2] 46))
    go_wp2_with fail
    go_region
    all_goals (try go_wp2)
    all_goals go_ret2
    all_goals exact ⟨rfl, HB2⟩
  | none =>
    have hcl2 : w1.cell? ⟨w.heap.size, 0, none⟩ = some (.slice A0_0 l0_0.length c0_0) := (hb1.cell (p := ⟨w.heap.size, 0, none⟩) (by simp)).trans hcl
    have hlt1 : w.heap.size < w1.heap.size := by have := hb1.size; simp at this; omega
    clear hb1 Hn1 hn1 HC1 Hcl hcl h
    obtain ⟨q2, hq2, h3⟩ := Option.bind_eq_some_iff.mp h2
    have Hq2 := Lib.hid hq2
    have H3 := Lib.hid h3
    clear hq2 h3 h2
    have hcl3 : (w1.alloc (.cells #[.int .i64 0, .int .i64 0] 46)).cell? ⟨w.heap.size, 0, none⟩ = some (.slice A0_0 l0_0.length c0_0) := (World.cell?_alloc_lt _ _ _ hlt1).trans hcl2
    have HB2 := HB1.alloc HB1.size (.cells #[.int .i64 0, .int .i64 0] 46)
    have hlt2 : w.heap.size < (w1.alloc (.cells #[.int .i64 0, .int .i64 0] 46)).heap.size := by simp; omega
    have HC3 := Lib.hid (Kd.C_below HR.out HB2)
    simp only [lookV]
    have hta := ta_nil
    go_wp2_with fail
    generalize w1.alloc (.cells #[.int .i64 0, .int .i64 0] 46) = w2 at *
    have Hcl := Lib.hid hcl3
    have hn1 := fun (i : Int) (x : S34) (v3 v4 : Value) (w' : World) (r : Int) a b d => check2_calls k A0_0 c0_0 l0_0 w.heap.size i x v3 v4 w' r a Hc b d
    have Hn1 := Lib.hid hn1
    have h1 := look19_calls (fun _ x => check2 k l0_0 x) A0_0 c0_0 l0_0 w.heap.size w2 q2 HC3 Hc Hcl hl Hn1 Hq2
    refine h1.mono ?_
    rintro e w3 ⟨rfl, hb3⟩
    have HB3 := HB2.trans (hb3.mono HB2.size)
    have h4 := H3.out
    clear hb3 Hn1 hn1 Hcl hcl3 h1
    cases q2 with
    | some p =>
      obtain ⟨z1, z2⟩ := p
      obtain ⟨rfl, rfl⟩ := Prod.mk.inj (Option.some.inj h4)
      simp only [lookV]
      have hta2 := ta_ok (.agg #[.int .i64 z1, .int .i64 z2])
      have HB4 := below_drew1 (HB3.alloc HB3.size (.cells #[.int .i64 z1, .int .i64 z2] 46))
      go_wp2_with fail
      go_region
      all_goals (try go_wp2)
      all_goals go_ret2
      all_goals exact ⟨rfl, HB4⟩
    | none =>
      obtain ⟨rfl, rfl⟩ := Prod.mk.inj (Option.some.inj h4)
      simp only [lookV]
      have HB4 := HB3.alloc HB3.size (.cells #[.int .i64 0, .int .i64 0] 46)
      go_wp2
      go_ret2
      exact ⟨rfl, HB4⟩

theorem LeO_look {c d : Int → S34 → Option Int} (h : ∀ i x, LeO (c i x) (d i x)) : ∀ l i, LeO (lookZ c l i) (lookZ d l i)
  | [], _ => LeO.refl _
  | x :: l, i => by
    unfold lookZ
    refine LeO.bind (h i x) fun _ => LeO.ite (LeO_look h l _) (LeO.refl _)
theorem check1_mono (k : Nat) (l : List S34) (i : Int) (x : S34) : LeO (check1 k l i x) (check1 (k + 1) l i x) := by
  unfold check1
  exact LeO.bind (kin_Base.mono _ _) fun _ => LeO.refl _
theorem check2_mono (k : Nat) (l : List S34) (x : S34) : LeO (check2 k l x) (check2 (k + 1) l x) := by
  unfold check2
  refine LeO.ite (LeO.refl _) (LeO.bind (kin_Is.mono _ _ _) fun _ => LeO.ite (LeO.bind (kin_Chain.mono _ _ _) fun _ => LeO.ite (LeO.bind (kin_Super.mono _ _ _) fun _ => LeO.bind (slices_Contains_string_string.mono _ _ _) fun _ => LeO.refl _) (LeO.refl _)) (LeO.refl _))
theorem kin_Check.mono : ∀ a0 k, LeO (kin_Check.f k a0) (kin_Check.f (k + 1) a0) := by
  intro l k
  unfold kin_Check.f
  refine LeO.ite (LeO.bind (LeO_look (check1_mono k l) _ _) fun r => ?_) (LeO.refl _)
  cases r with
  | some p => exact LeO.refl _
  | none => exact LeO.bind (LeO_look (fun _ => check2_mono k l) _ _) fun _ => LeO.refl _
end Go.Proofs.Ytddggdhkhfephaa
