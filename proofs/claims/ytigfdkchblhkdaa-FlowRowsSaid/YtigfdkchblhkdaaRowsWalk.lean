/- FlowRows walked: it answers true, of few rows by what Passes tells of them, of others by told. Conditions: both rows read as rows of statements; what Passes tells is given. -/
import Derived.Test.YtigfdkchblhkdaaTold
import Derived.Test.YtigfdkchblhkdaaOpens
namespace Go.Proofs.Ytigfdkchblhkdaa
open Go.RowKit Go.Proofs.YtigfdkchblhkdaaW.PrintWords Go.Proofs.YtigfdkchblhkdaaW.PrintLast Go.Proofs.YtigfdkchblhkdaaW.PrintMore Go.Proofs.Ytigfdkchblhkdaa.Q

theorem k27_heap : Kd.Heap k27 := Kd.heap_fix (fun _ h_ => Kd.heap_iso _ (Kd.heap_pair (Kd.heap_int .i64) (Kd.heap_pair (Kd.heap_int .i32) (Kd.heap_pair Kd.heap_string (Kd.heap_pair Kd.heap_string (Kd.heap_pair Kd.heap_string (Kd.heap_pair (Kd.heap_slice 27 h_) (Kd.heap_pair Kd.heap_string (Kd.heap_int .i64)))))))))
theorem k29_heap : Kd.Heap k29 := Kd.heap_fix (fun _ h_ => Kd.heap_iso _ (Kd.heap_pair (Kd.heap_int .i64) (Kd.heap_pair (Kd.heap_int .i32) (Kd.heap_pair Kd.heap_string (Kd.heap_pair Kd.heap_string (Kd.heap_pair (Kd.heap_slice 27 k27_heap) (Kd.heap_pair (Kd.heap_slice 29 h_) (Kd.heap_pair (Kd.heap_slice 29 h_) (Kd.heap_pair (Kd.heap_slice 29 h_) (Kd.heap_int .i64))))))))))
theorem info29 : (Try.prog.info? 29).map (fun i => (i.zero, i.size, i.bytes)) = some (some (.agg #[.int .i64 0, .int .i32 0, .string ⟨#[]⟩, .string ⟨#[]⟩, .slice none 0 0, .slice none 0 0, .slice none 0 0, .slice none 0 0, .int .i64 0]), 9, 152) := by kernel_rfl
theorem ne_kept {w6 : World} {v1 : Value} (h : v1.ownBlock = (Value.slice (some ⟨w6.heap.size, 0, none⟩) 0 0).ownBlock ∨ ∃ b, v1.ownBlock = some b ∧ (w6.alloc (.cells #[] 29)).heap.size ≤ b) : ∀ k, k < w6.heap.size → some k ≠ v1.ownBlock := by
  intro k hk he
  rcases h with h | ⟨b, h, hb⟩
  · rw [h] at he
    have : k = w6.heap.size := by simpa [Value.ownBlock] using he
    omega
  · rw [h] at he
    injection he with he
    simp at hb
    omega
def qE : S27 := ⟨6, 0, EM, ⟨#[113]⟩, EM, [], EM, 0⟩
set_option maxHeartbeats 8000000 in
set_option maxRecDepth 100000 in
theorem rows_few (k : Nat) (A B : Option Addr) (ca cb : Nat) (a b : List S29) (x y : Bool) (w : World) (hA : Hid (k29.C w A a.length a)) (hB : Hid (k29.C w B b.length b)) (hca : Hid (a.length ≤ ca)) (hcb : Hid (b.length ≤ cb)) (la : Hid (a.length ≤ 400)) (lb : Hid (b.length ≤ 400))
    (fa : Hid (changelinglaw3_FewStmts.f k a = some true)) (fb : Hid (changelinglaw3_FewStmts.f k b = some true)) (pa : Hid (flow_Passes.f k a = some x)) (pb : Hid (flow_Passes.f k b = some y))
    (pab : Hid (flow_Passes.f k (a ++ b) = some (x && y))) (pif : Hid (flow_Passes.f k [⟨4, 0, EM, EM, [qE], a, b, [], 0⟩] = some (x || y))) (pwh : Hid (flow_Passes.f k [⟨5, 0, EM, EM, [qE], a, [], [], 0⟩] = some true)) (ptr : Hid (flow_Passes.f k [⟨10, 0, EM, EM, [], a, a, b, 0⟩] = some (x && y))) :
    Calls Try.prog 3 #[.slice A a.length ca, .slice B b.length cb] w (RetB true w) := by
  have hu27 := Try.underlying27
  have hu29 := Try.underlying29
  go_enter Try.func3, Try.ntmps3
  go_wp2_with fail
  refine (changelinglaw3_FewStmts.calls k A ca a true _ hA.out hca.out fa.out).mono ?_
  rintro e w1 ⟨rfl, hb1⟩
  have HB1 := Lib.hid hb1
  clear hb1
  go_wp2_with fail
  refine (changelinglaw3_FewStmts.calls k B cb b true _ (Kd.C_below hB.out HB1.out) hcb.out fb.out).mono ?_
  rintro e w2 ⟨rfl, hb2⟩
  have HB2 := Lib.hid (HB1.out.trans (hb2.mono HB1.out.size))
  clear hb2 HB1
  go_wp2_with fail
  refine (flow_Passes.calls k A ca a x _ (Kd.C_below hA.out HB2.out) hca.out pa.out).mono ?_
  rintro e w3 ⟨rfl, hb3⟩
  have HB3 := Lib.hid (HB2.out.trans (hb3.mono HB2.out.size))
  clear hb3 HB2
  go_wp2_with fail
  refine (flow_Passes.calls k B cb b y _ (Kd.C_below hB.out HB3.out) hcb.out pb.out).mono ?_
  rintro e w4 ⟨rfl, hb4⟩
  have HB4 := Lib.hid (HB3.out.trans (hb4.mono HB3.out.size))
  clear hb4 HB3
  go_wp2_with fail
  have HB5 := Lib.hid (HB4.out.alloc HB4.out.size (.cells #[.int .i64 6, .int .i32 0, .string { data := #[] }, .string { data := #[113] }, .string { data := #[] }, .slice none 0 0, .string { data := #[] }, .int .i64 0] 27))
  have hE := Lib.hid (C_one (w := w4.alloc (.cells #[.int .i64 6, .int .i32 0, .string { data := #[] }, .string { data := #[113] }, .string { data := #[] }, .slice none 0 0, .string { data := #[] }, .int .i64 0] 27)) k27 (k27_mk _ qE (A5 := none) (c5 := 0) (Nat.le_refl _) (Kd.C_nil _ _)) (cells_of (heap_alloc_new _ _) rfl))
  refine (told_calls _).mono ?_
  generalize w4.alloc (.cells #[.int .i64 6, .int .i32 0, .string { data := #[] }, .string { data := #[113] }, .string { data := #[] }, .slice none 0 0, .string { data := #[] }, .int .i64 0] 27) = w5 at *
  rintro e w6 ⟨rfl, hb6⟩
  have HB6 := Lib.hid (HB5.out.trans (hb6.mono HB5.out.size))
  have hE6 := Lib.hid (Kd.C_below hE.out hb6)
  clear hb6 HB5 HB4 hE
  have hW6 : Below w.heap.size w (w6.alloc (.cells #[] 29)) := HB6.out.alloc HB6.out.size _
  have hN0 := Lib.hid (Kd.R_N (d := k29) (e := 29) (w := w6.alloc (.cells #[] 29)) (base := w.heap.size) (ok := fun _ => True) (v := .slice (some ⟨w6.heap.size, 0, none⟩) 0 0) (xs := []) ⟨fun _ _ => trivial, [], by have h2 := World.ownsRow_lit (base := w.heap.size) (e := 29) (size := 9) w6 #[] 0 HB6.out.size (by decide) (by simp); exact h2, Reps.none _ _⟩)
  have hFa := Lib.hid (Kd.F_step (Kd.C_F k29_heap hA.out) (W1 := w6.alloc (.cells #[] 29)) (fun k hk _ => hW6.block k hk))
  have hlt6 : w.heap.size ≤ w6.heap.size := HB6.out.size
  have HW6 := Lib.hid hW6
  clear hW6
  go_wp2_with (first
    | (at_builtin; refine gate_guard (by rfl) ?_; refine Kd.N_append_rows k29 (w0 := w) w.heap.size rfl (.tmp 25) (.tmp 26) 22 29 _ 152 rfl Try.underlying22 info29 rfl (by decide) (by decide) (.slice (some ⟨w6.heap.size, 0, none⟩) 0 0) [] a A a.length ca (fun _ => True) (fun k => k < w.heap.size) rfl rfl hN0.out hFa.out (fun k hk => ⟨trivial, fun he => by have hq : k = w6.heap.size := (by simpa [Value.ownBlock] using he); omega⟩) (fun _ _ => trivial) HW6.out HW6.out.size (by have := la.out; simp only [List.length_nil]; omega) ?_
       intro v1 w7 hv1 hb7 hg7 hat7
       have hFb := Lib.hid (Kd.F_step (Kd.C_F k29_heap hB.out) (W1 := w7) (fun k hk _ => hb7.block k hk))
       have HB7 := Lib.hid hb7
       have hv1' := Lib.hid hv1
       have hE7 := Lib.hid (Kd.F_grown (Kd.F_alloc (Kd.C_F k27_heap hE6.out) _) hg7 (fun k hk => ne_kept (v1 := .slice (some ⟨w6.heap.size, 0, none⟩) 0 0) (.inl rfl) k hk))
       have hne7 := Lib.hid (ne_kept hat7)
       clear hb7 hg7 hat7 hv1 hN0 hFa HW6 HB6 hlt6 hE6)
    | (at_builtin; refine gate_guard (by rfl) ?_; refine Kd.N_append_rows k29 (w0 := w) w.heap.size rfl (.tmp 27) (.tmp 28) 22 29 _ 152 rfl Try.underlying22 info29 rfl (by decide) (by decide) v1 ([] ++ a) b B b.length cb (fun _ => True) (fun k => k < w.heap.size) rfl rfl hv1'.out hFb.out (fun k hk => ⟨trivial, fun he => by have hq := Kd.N_base hv1'.out k he.symm; omega⟩) (fun _ _ => trivial) HB7.out HB7.out.size (by have := la.out; have := lb.out; simp only [List.nil_append]; omega) ?_
       intro v2 w8 hv2 hb8 hg8 hat8))
  obtain ⟨A2, c2, rfl, hc2, hC2⟩ := Kd.N_reads hv2
  have hE8 := Lib.hid (Kd.F_now (Kd.F_grown hE7.out hg8 hne7.out))
  have HB8 := Lib.hid hb8
  clear hE7 hne7 hg8 hat8 hv2 HB7 hFb hv1' hb8
  refine (flow_Passes.calls k A2 c2 (a ++ b) (x && y) _ hC2 hc2 pab.out).mono ?_
  rintro e w9 ⟨rfl, hb⟩
  have HB9 := Lib.hid (HB8.out.trans (hb.mono HB8.out.size))
  have hE9 := Lib.hid (Kd.C_below hE8.out hb)
  clear hb HB8 hE8 hC2 hc2
  clear fa fb pa pb pab
  cases x <;> cases y
  all_goals
    go_wp2_with fail
    have hal : Below w9.heap.size w9 (w9.alloc (.cells #[.int .i64 4, .int .i32 0, .string { data := #[] }, .string { data := #[] }, Value.slice (some { block := w4.heap.size, off := 0 }) 1 1, Value.slice A a.length ca, Value.slice B b.length cb, Value.slice none 0 0, .int .i64 0] 29)) := below_alloc (Below.refl _ _) _
    have HL := Lib.hid (C_one (w := w9.alloc (.cells #[.int .i64 4, .int .i32 0, .string { data := #[] }, .string { data := #[] }, Value.slice (some { block := w4.heap.size, off := 0 }) 1 1, Value.slice A a.length ca, Value.slice B b.length cb, Value.slice none 0 0, .int .i64 0] 29)) k29 (k29_mk _ ⟨4, 0, EM, EM, [qE], a, b, [], 0⟩ (A4 := some _) (c4 := 1) (Nat.le_refl _) (Kd.C_below hE9.out hal) (A5 := A) (c5 := ca) hca.out (Kd.C_below hA.out (HB9.out.trans (hal.mono HB9.out.size))) (A6 := B) (c6 := cb) hcb.out (Kd.C_below hB.out (HB9.out.trans (hal.mono HB9.out.size))) (A7 := none) (c7 := 0) (Nat.le_refl _) (Kd.C_nil _ _)) (cells_of (heap_alloc_new _ _) rfl))
    have hE9x := Lib.hid (Kd.C_below hE9.out hal)
    have HB9x := Lib.hid (HB9.out.trans (hal.mono HB9.out.size))
    clear hE9 HB9 hal
    refine (flow_Passes.calls k _ 1 [⟨4, 0, EM, EM, [qE], a, b, [], 0⟩] _ _ HL.out (Nat.le_refl _) pif.out).mono ?_
    clear HL
    generalize w9.alloc (.cells #[.int .i64 4, .int .i32 0, .string { data := #[] }, .string { data := #[] }, Value.slice (some { block := w4.heap.size, off := 0 }) 1 1, Value.slice A a.length ca, Value.slice B b.length cb, Value.slice none 0 0, .int .i64 0] 29) = wx9 at *
    rintro e w10 ⟨rfl, hb⟩
    have HB10 := Lib.hid (HB9x.out.trans (hb.mono HB9x.out.size))
    have hE10 := Lib.hid (Kd.C_below hE9x.out hb)
    clear hb HB9x hE9x
    go_wp2_with fail
    have hal : Below w10.heap.size w10 (w10.alloc (.cells #[.int .i64 5, .int .i32 0, .string { data := #[] }, .string { data := #[] }, Value.slice (some { block := w4.heap.size, off := 0 }) 1 1, Value.slice A a.length ca, Value.slice none 0 0, Value.slice none 0 0, .int .i64 0] 29)) := below_alloc (Below.refl _ _) _
    have HL := Lib.hid (C_one (w := w10.alloc (.cells #[.int .i64 5, .int .i32 0, .string { data := #[] }, .string { data := #[] }, Value.slice (some { block := w4.heap.size, off := 0 }) 1 1, Value.slice A a.length ca, Value.slice none 0 0, Value.slice none 0 0, .int .i64 0] 29)) k29 (k29_mk _ ⟨5, 0, EM, EM, [qE], a, [], [], 0⟩ (A4 := some _) (c4 := 1) (Nat.le_refl _) (Kd.C_below hE10.out hal) (A5 := A) (c5 := ca) hca.out (Kd.C_below hA.out (HB10.out.trans (hal.mono HB10.out.size))) (A6 := none) (c6 := 0) (Nat.le_refl _) (Kd.C_nil _ _) (A7 := none) (c7 := 0) (Nat.le_refl _) (Kd.C_nil _ _)) (cells_of (heap_alloc_new _ _) rfl))
    have hE10x := Lib.hid (Kd.C_below hE10.out hal)
    have HB10x := Lib.hid (HB10.out.trans (hal.mono HB10.out.size))
    clear hE10 HB10 hal
    refine (flow_Passes.calls k _ 1 [⟨5, 0, EM, EM, [qE], a, [], [], 0⟩] _ _ HL.out (Nat.le_refl _) pwh.out).mono ?_
    clear HL
    generalize w10.alloc (.cells #[.int .i64 5, .int .i32 0, .string { data := #[] }, .string { data := #[] }, Value.slice (some { block := w4.heap.size, off := 0 }) 1 1, Value.slice A a.length ca, Value.slice none 0 0, Value.slice none 0 0, .int .i64 0] 29) = wx10 at *
    rintro e w11 ⟨rfl, hb⟩
    have HB11 := Lib.hid (HB10x.out.trans (hb.mono HB10x.out.size))
    have hE11 := Lib.hid (Kd.C_below hE10x.out hb)
    clear hb HB10x hE10x
    go_wp2_with fail
    have hal : Below w11.heap.size w11 (w11.alloc (.cells #[.int .i64 10, .int .i32 0, .string { data := #[] }, .string { data := #[] }, Value.slice none 0 0, Value.slice A a.length ca, Value.slice A a.length ca, Value.slice B b.length cb, .int .i64 0] 29)) := below_alloc (Below.refl _ _) _
    have HL := Lib.hid (C_one (w := w11.alloc (.cells #[.int .i64 10, .int .i32 0, .string { data := #[] }, .string { data := #[] }, Value.slice none 0 0, Value.slice A a.length ca, Value.slice A a.length ca, Value.slice B b.length cb, .int .i64 0] 29)) k29 (k29_mk _ ⟨10, 0, EM, EM, [], a, a, b, 0⟩ (A4 := none) (c4 := 0) (Nat.le_refl _) (Kd.C_nil _ _) (A5 := A) (c5 := ca) hca.out (Kd.C_below hA.out (HB11.out.trans (hal.mono HB11.out.size))) (A6 := A) (c6 := ca) hca.out (Kd.C_below hA.out (HB11.out.trans (hal.mono HB11.out.size))) (A7 := B) (c7 := cb) hcb.out (Kd.C_below hB.out (HB11.out.trans (hal.mono HB11.out.size)))) (cells_of (heap_alloc_new _ _) rfl))
    have hE11x := Lib.hid (Kd.C_below hE11.out hal)
    have HB11x := Lib.hid (HB11.out.trans (hal.mono HB11.out.size))
    clear hE11 HB11 hal
    refine (flow_Passes.calls k _ 1 [⟨10, 0, EM, EM, [], a, a, b, 0⟩] _ _ HL.out (Nat.le_refl _) ptr.out).mono ?_
    clear HL
    generalize w11.alloc (.cells #[.int .i64 10, .int .i32 0, .string { data := #[] }, .string { data := #[] }, Value.slice none 0 0, Value.slice A a.length ca, Value.slice A a.length ca, Value.slice B b.length cb, .int .i64 0] 29) = wx11 at *
    rintro e w12 ⟨rfl, hb⟩
    have HB12 := Lib.hid (HB11x.out.trans (hb.mono HB11x.out.size))
    have hE12 := Lib.hid (Kd.C_below hE11x.out hb)
    clear hb HB11x hE11x
    go_wp2
    go_ret
    exact ⟨rfl, HB12.out⟩
set_option maxHeartbeats 4000000 in
set_option maxRecDepth 100000 in
/-- Of rows that are not both few it answers what told says. -/
theorem rows_other (k : Nat) (A B : Option Addr) (ca cb : Nat) (a b : List S29) (x y : Bool) (w : World) (hA : Hid (k29.C w A a.length a)) (hB : Hid (k29.C w B b.length b)) (hca : Hid (a.length ≤ ca)) (hcb : Hid (b.length ≤ cb))
    (fa : Hid (changelinglaw3_FewStmts.f k a = some x)) (fb : Hid (changelinglaw3_FewStmts.f k b = some y)) (hxy : (x && y) = false) :
    Calls Try.prog 3 #[.slice A a.length ca, .slice B b.length cb] w (RetB true w) := by
  go_enter Try.func3, Try.ntmps3
  go_wp2_with fail
  refine (changelinglaw3_FewStmts.calls k A ca a x _ hA.out hca.out fa.out).mono ?_
  rintro e w1 ⟨rfl, hb1⟩
  have HB1 := Lib.hid hb1
  clear hb1
  cases x with
  | false =>
    go_wp2_with fail
    refine (told_calls _).mono ?_
    rintro e w6 ⟨rfl, hb6⟩
    have HB6 := Lib.hid (HB1.out.trans (hb6.mono HB1.out.size))
    clear hb6 HB1
    go_wp2
    go_ret
    exact ⟨rfl, HB6.out⟩
  | true =>
    obtain rfl : y = false := by simpa using hxy
    go_wp2_with fail
    refine (changelinglaw3_FewStmts.calls k B cb b false _ (Kd.C_below hB.out HB1.out) hcb.out fb.out).mono ?_
    rintro e w2 ⟨rfl, hb2⟩
    have HB2 := Lib.hid (HB1.out.trans (hb2.mono HB1.out.size))
    clear hb2 HB1
    go_wp2_with fail
    refine (told_calls _).mono ?_
    rintro e w6 ⟨rfl, hb6⟩
    have HB6 := Lib.hid (HB2.out.trans (hb6.mono HB2.out.size))
    clear hb6 HB2
    go_wp2
    go_ret
    exact ⟨rfl, HB6.out⟩
end Go.Proofs.Ytigfdkchblhkdaa
