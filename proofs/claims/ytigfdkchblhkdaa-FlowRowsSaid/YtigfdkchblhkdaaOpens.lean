/- Rows of structs that came in, laid open out of a claim's own reading: each is of its kind. No conditions. -/
import Derived.Test.YtigfdkchblhkdaaRows
import Derived.Test.YtigfdkchblhkdaaQx0
import Derived.ProofKit
import Derived.ChangeOld
import Derived.Lib.SmallJoins
namespace Go.Proofs.Ytigfdkchblhkdaa
open Go Go.RowKit Go.Proofs.YtigfdkchblhkdaaW.PrintWords Go.Proofs.YtigfdkchblhkdaaW.PrintLast Go.Proofs.YtigfdkchblhkdaaW.PrintMore Go.Proofs.Ytigfdkchblhkdaa.Q
section
variable {H : Type} {enc : TypeId × Value → H} {w : World} {spare : Nat → Bool} {held : Bool}
/-- What is read as data of a type is of a kind. -/
def Opens {α : Type} (enc : TypeId × Value → H) (w : World) (spare : Nat → Bool) (held : Bool) (n t : Nat) (d : Kd α) : Prop := ∀ cs x, DataW.trod enc Try.prog w 0 spare held n t cs = some x → ∃ v, d.K w v cs
theorem opens_slice {α : Type} (z : α) {d : Kd α} {n t e : Nat} (ht : Try.prog.underlying t = some (.slice e)) (hc : Try.prog.cellsOf e = d.sz) (h : ∀ m, m < n → Opens enc w spare held m e d) : Opens enc w spare held n t (Kd.slice e d) := by
  intro cs x hx
  rcases DataW.trod_slice ht hx with ⟨rfl, _⟩ | ⟨a, len, cap, elems, rest, m, rfl, rfl, _, _, hl, hm, hlen, hel, _, _⟩
  · exact ⟨[], none, 0, rfl, Nat.le_refl _, Kd.C_nil _ _⟩
  have hE : ∀ i, i < len → ∃ v, ∃ cs', w.cells? 0 (a.add (i * d.sz)) d.sz = some cs' ∧ d.K w v cs' := by
    intro i hi
    have h1 := hel i hi
    rw [List.getElem?_eq_getElem (by omega), hc] at h1
    obtain ⟨cs', h2, h3⟩ := Option.bind_eq_some_iff.1 h1
    obtain ⟨v, hv⟩ := h m (by omega) cs' _ h3
    exact ⟨v, cs', h2, hv⟩
  have hV : ∀ i, ∃ v, i < len → ∃ cs', w.cells? 0 (a.add (i * d.sz)) d.sz = some cs' ∧ d.K w v cs' := by
    intro i
    by_cases hi : i < len
    · obtain ⟨v, hv⟩ := hE i hi
      exact ⟨v, fun _ => hv⟩
    · exact ⟨z, fun h => absurd h hi⟩
  obtain ⟨V, hV⟩ := Classical.axiomOfChoice hV
  refine ⟨(List.range len).map V, some a, cap, by simp, by simpa using hl, by simp, ?_, fun _ => ⟨a, rfl, fun j p hp => ?_⟩⟩
  · have : ((List.range len).map V).length = len := by simp
    rw [this]
    have := hm
    simp only [maxLen] at this
    omega
  have hj : j < len := by have := (List.getElem?_eq_some_iff.1 hp).1; simpa using this
  obtain rfl : V j = p := by simpa [List.getElem?_map, hj] using hp
  obtain ⟨cs', h1, h2⟩ := hV j hj
  obtain ⟨_, h3, h4⟩ := World.cells?_some h1
  refine ⟨cs', h3, h2, fun i u hu => ?_⟩
  have hi : i < d.sz := by rw [← h3]; exact (List.getElem?_eq_some_iff.1 hu).1
  rw [← add_add, h4 i hi, hu]
theorem opens_27 : ∀ n, Opens enc w spare held n 27 k27 := by
  intro n
  induction n using Nat.strongRecOn with
  | _ n ih =>
  intro cs x h
  obtain ⟨xs, m, rfl, _, hl, hlen, hf⟩ := DataW.trod_struct Try.underlying27 h
  have hl8 : cs.length = 8 := hl.trans (by kernel_rfl)
  obtain ⟨c0, c1, c2, c3, c4, c5, c6, c7, rfl⟩ : ∃ c0 c1 c2 c3 c4 c5 c6 c7, cs = [c0, c1, c2, c3, c4, c5, c6, c7] := by
    match cs, hl8 with
    | [c0, c1, c2, c3, c4, c5, c6, c7], _ => exact ⟨_, _, _, _, _, _, _, _, rfl⟩
  have h0 := hf 0 _ rfl
  rw [List.getElem?_eq_getElem (by rw [hlen]; decide)] at h0
  replace h0 : DataW.trod enc Try.prog w 0 spare held m 3 [c0] = some _ := h0
  obtain ⟨n0, e0, _⟩ := DataW.trod_int Try.underlying3 h0
  have h1 := hf 1 _ rfl
  rw [List.getElem?_eq_getElem (by rw [hlen]; decide)] at h1
  replace h1 : DataW.trod enc Try.prog w 0 spare held m 21 [c1] = some _ := h1
  obtain ⟨n1, e1, _⟩ := DataW.trod_int Try.underlying21 h1
  have h2 := hf 2 _ rfl
  rw [List.getElem?_eq_getElem (by rw [hlen]; decide)] at h2
  replace h2 : DataW.trod enc Try.prog w 0 spare held m 9 [c2] = some _ := h2
  obtain ⟨n2, e2, _⟩ := DataW.trod_string Try.underlying9 h2
  have h3 := hf 3 _ rfl
  rw [List.getElem?_eq_getElem (by rw [hlen]; decide)] at h3
  replace h3 : DataW.trod enc Try.prog w 0 spare held m 9 [c3] = some _ := h3
  obtain ⟨n3, e3, _⟩ := DataW.trod_string Try.underlying9 h3
  have h4 := hf 4 _ rfl
  rw [List.getElem?_eq_getElem (by rw [hlen]; decide)] at h4
  replace h4 : DataW.trod enc Try.prog w 0 spare held m 9 [c4] = some _ := h4
  obtain ⟨n4, e4, _⟩ := DataW.trod_string Try.underlying9 h4
  have h5 := hf 5 _ rfl
  rw [List.getElem?_eq_getElem (by rw [hlen]; decide)] at h5
  replace h5 : DataW.trod enc Try.prog w 0 spare held m 25 [c5] = some _ := h5
  obtain ⟨n5, A5, p5, e5, l5, g5⟩ := opens_slice z27 (d := k27) Try.underlying25 (by kernel_rfl) (fun q hq => ih q (by omega)) _ _ h5
  have h6 := hf 6 _ rfl
  rw [List.getElem?_eq_getElem (by rw [hlen]; decide)] at h6
  replace h6 : DataW.trod enc Try.prog w 0 spare held m 9 [c6] = some _ := h6
  obtain ⟨n6, e6, _⟩ := DataW.trod_string Try.underlying9 h6
  have h7 := hf 7 _ rfl
  rw [List.getElem?_eq_getElem (by rw [hlen]; decide)] at h7
  replace h7 : DataW.trod enc Try.prog w 0 spare held m 3 [c7] = some _ := h7
  obtain ⟨n7, e7, _⟩ := DataW.trod_int Try.underlying3 h7
  simp only [List.cons.injEq, and_true] at e0 e1 e2 e3 e4 e5 e6 e7
  subst e0 e1 e2 e3 e4 e5 e6 e7
  exact ⟨⟨n0, n1, n2, n3, n4, n5, n6, n7⟩, k27_mk w ⟨n0, n1, n2, n3, n4, n5, n6, n7⟩ l5 g5⟩
theorem opens_29 : ∀ n, Opens enc w spare held n 29 k29 := by
  intro n
  induction n using Nat.strongRecOn with
  | _ n ih =>
  intro cs x h
  obtain ⟨xs, m, rfl, _, hl, hlen, hf⟩ := DataW.trod_struct Try.underlying29 h
  have hl8 : cs.length = 9 := hl.trans (by kernel_rfl)
  obtain ⟨c0, c1, c2, c3, c4, c5, c6, c7, c8, rfl⟩ : ∃ c0 c1 c2 c3 c4 c5 c6 c7 c8, cs = [c0, c1, c2, c3, c4, c5, c6, c7, c8] := by
    match cs, hl8 with
    | [c0, c1, c2, c3, c4, c5, c6, c7, c8], _ => exact ⟨_, _, _, _, _, _, _, _, _, rfl⟩
  have h0 := hf 0 _ rfl
  rw [List.getElem?_eq_getElem (by rw [hlen]; decide)] at h0
  replace h0 : DataW.trod enc Try.prog w 0 spare held m 3 [c0] = some _ := h0
  obtain ⟨n0, e0, _⟩ := DataW.trod_int Try.underlying3 h0
  have h1 := hf 1 _ rfl
  rw [List.getElem?_eq_getElem (by rw [hlen]; decide)] at h1
  replace h1 : DataW.trod enc Try.prog w 0 spare held m 21 [c1] = some _ := h1
  obtain ⟨n1, e1, _⟩ := DataW.trod_int Try.underlying21 h1
  have h2 := hf 2 _ rfl
  rw [List.getElem?_eq_getElem (by rw [hlen]; decide)] at h2
  replace h2 : DataW.trod enc Try.prog w 0 spare held m 9 [c2] = some _ := h2
  obtain ⟨n2, e2, _⟩ := DataW.trod_string Try.underlying9 h2
  have h3 := hf 3 _ rfl
  rw [List.getElem?_eq_getElem (by rw [hlen]; decide)] at h3
  replace h3 : DataW.trod enc Try.prog w 0 spare held m 9 [c3] = some _ := h3
  obtain ⟨n3, e3, _⟩ := DataW.trod_string Try.underlying9 h3
  have h4 := hf 4 _ rfl
  rw [List.getElem?_eq_getElem (by rw [hlen]; decide)] at h4
  replace h4 : DataW.trod enc Try.prog w 0 spare held m 25 [c4] = some _ := h4
  obtain ⟨n4, A4, p4, e4, l4, g4⟩ := opens_slice z27 (d := k27) Try.underlying25 (by kernel_rfl) (fun q _ => opens_27 q) _ _ h4
  have h5 := hf 5 _ rfl
  rw [List.getElem?_eq_getElem (by rw [hlen]; decide)] at h5
  replace h5 : DataW.trod enc Try.prog w 0 spare held m 22 [c5] = some _ := h5
  obtain ⟨n5, A5, p5, e5, l5, g5⟩ := opens_slice z29 (d := k29) Try.underlying22 (by kernel_rfl) (fun q hq => ih q (by omega)) _ _ h5
  have h6 := hf 6 _ rfl
  rw [List.getElem?_eq_getElem (by rw [hlen]; decide)] at h6
  replace h6 : DataW.trod enc Try.prog w 0 spare held m 22 [c6] = some _ := h6
  obtain ⟨n6, A6, p6, e6, l6, g6⟩ := opens_slice z29 (d := k29) Try.underlying22 (by kernel_rfl) (fun q hq => ih q (by omega)) _ _ h6
  have h7 := hf 7 _ rfl
  rw [List.getElem?_eq_getElem (by rw [hlen]; decide)] at h7
  replace h7 : DataW.trod enc Try.prog w 0 spare held m 22 [c7] = some _ := h7
  obtain ⟨n7, A7, p7, e7, l7, g7⟩ := opens_slice z29 (d := k29) Try.underlying22 (by kernel_rfl) (fun q hq => ih q (by omega)) _ _ h7
  have h8 := hf 8 _ rfl
  rw [List.getElem?_eq_getElem (by rw [hlen]; decide)] at h8
  replace h8 : DataW.trod enc Try.prog w 0 spare held m 3 [c8] = some _ := h8
  obtain ⟨n8, e8, _⟩ := DataW.trod_int Try.underlying3 h8
  simp only [List.cons.injEq, and_true] at e0 e1 e2 e3 e4 e5 e6 e7 e8
  subst e0 e1 e2 e3 e4 e5 e6 e7 e8
  exact ⟨⟨n0, n1, n2, n3, n4, n5, n6, n7, n8⟩, k29_mk w ⟨n0, n1, n2, n3, n4, n5, n6, n7, n8⟩ l4 g4 l5 g5 l6 g6 l7 g7⟩
end
end Go.Proofs.Ytigfdkchblhkdaa
