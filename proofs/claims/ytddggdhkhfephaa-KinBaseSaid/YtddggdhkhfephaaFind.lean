import Derived.Test.YtddggdhkhfephaaQx0
import Derived.Lib.Hide
import Derived.WalkSmall
namespace Go.Proofs.Ytddggdhkhfephaa
open Go.RowKit Go.Proofs.YtddggdhkhfephaaW.PrintWords Go.Proofs.YtddggdhkhfephaaW.PrintLast Go.Proofs.YtddggdhkhfephaaW.PrintMore Go.Proofs.Ytddggdhkhfephaa.Q

/-- The first place of a row at which a predicate holds, counted from k on; -1. -/
def ixZ (p : S34 → Bool) : List S34 → Int → Int
  | [], _ => -1
  | x :: l, k => if p x = true then k else ixZ p l (k + 1)
def RetB (b : Bool) (w : World) (e : Ending) (w' : World) : Prop := e = .returned (.bool b) ∧ Below w.heap.size w w'
def RetL (n : Int) (w : World) (e : Ending) (w' : World) : Prop := e = .returned (.int .i64 n) ∧ Below w.heap.size w w'

set_option maxHeartbeats 1000000 in
set_option maxRecDepth 100000 in
/-- Find's closure: is it the class's name? -/
theorem findf (B : Nat) (name n1 n2 : ByteArray) (v3 v4 : Value) (w : World) (hB : w.cell? ⟨B, 0, none⟩ = some (.string name)) :
    Calls Try.prog 24 #[.agg #[.string n1, .string n2, v3, v4], .pointer (some ⟨B, 0, none⟩)] w (RetB (n1.toList == name.toList) w) := by
  have hlt : B < w.heap.size := World.block_lt_of_cell? _ _ hB
  have hB2 : ∀ o, (w.alloc o).cell? ⟨B, 0, none⟩ = some (.string name) := fun o => (World.cell?_alloc_lt _ _ _ hlt).trans hB
  go_enter Try.func24, Try.ntmps24
  go_wp2
  go_ret
  exact ⟨rfl, (Below.refl _ _).alloc (Nat.le_refl _) _⟩

set_option maxHeartbeats 2000000 in
set_option maxRecDepth 100000 in
/-- IndexFunc with Find's closure. -/
theorem index_name (A : Option Addr) (c : Nat) (l : List S34) (B : Nat) (name : ByteArray) (w : World) (hC : Hid (k34.C w A l.length l)) (hB : Hid (w.cell? ⟨B, 0, none⟩ = some (.string name))) (hl : l.length ≤ 9223372036854775806) :
    Calls Try.prog 23 #[.slice A l.length c, .func (.func 24) #[] #[.pointer (some ⟨B, 0, none⟩)]] w (RetL (ixZ (fun x => x.f0.toList == name.toList) l 0) w) := by
  obtain ⟨r, hr⟩ : ∃ r, ixZ (fun x => x.f0.toList == name.toList) l 0 = r := ⟨_, rfl⟩
  rw [hr]
  have Hr : Hid (ixZ (fun x => x.f0.toList == name.toList) (l.drop 0) ((0 : Nat) : Int) = r) := Lib.hid hr
  clear hr
  go_enter Try.func23, Try.ntmps23
  go_wp2
  go_loopw [8] (fun vk wr => ∃ k : Nat, k ≤ l.length ∧ vk = .int .i64 k ∧ Hid (ixZ (fun x => x.f0.toList == name.toList) (l.drop k) (k : Int) = r) ∧ Below w.heap.size w wr) (fun vk _ => l.length - (intOf vk).toNat)
  case atStart => exact ⟨0, Nat.zero_le _, rfl, Hr, Below.refl _ _⟩
  case round =>
    obtain ⟨k, hk, rfl, hix, hbw⟩ := hrel
    clear Hr
    by_cases hlt : k < l.length
    · have hC2 := Kd.C_below hC.out hbw
      obtain ⟨ad, A2, c2, A3, c3, e, h0, h1, h2, h3, _⟩ := at_T34 hC2 (k : Int) (by omega) (by omega)
      cases e
      rw [Int.toNat_natCast] at h0 h1 h2 h3
      have hlb : B < w.heap.size := World.block_lt_of_cell? _ _ hB.out
      have hB2 : wr.cell? ⟨B, 0, none⟩ = some (.string name) := (hbw.cell (p := ⟨B, 0, none⟩) hlb).trans hB.out
      have HB2 := Lib.hid hB2; clear hB2
      clear hC2
      have hdrop : l.drop k = rd_T34 l (k : Int) :: l.drop (k + 1) := by
        rw [List.drop_eq_getElem_cons hlt]; congr 1
        unfold rd_T34; rw [Int.toNat_natCast, List.getD_eq_getElem?_getD, List.getElem?_eq_getElem hlt]; rfl
      have hst := hix.out
      rw [hdrop, ixZ] at hst
      have Hst := Lib.hid hst; clear hst hdrop
      generalize rd_T34 l (k : Int) = x at *
      go_wp2_with fail
      refine (findf B name _ _ _ _ _ HB2.out).mono ?_
      rintro e w2 ⟨rfl, hb2⟩
      have HB3 : Below w.heap.size w w2 := hbw.trans (hb2.mono hbw.size)
      clear hb2
      cases hp : (x.f0.toList == name.toList) with
      | true =>
        have Hp := Lib.hid hp; clear hp
        go_wp2
        go_ret
        exact ⟨by have := Hst.out; simp only [Hp.out, if_true] at this; rw [← this]; rfl, HB3⟩
      | false =>
        have Hp := Lib.hid hp; clear hp
        go_wp2
        go_roundw
        case rel => exact ⟨k + 1, by omega, by go_num, Lib.hid (by have := Hst.out; simp only [Hp.out, Bool.false_eq_true, if_false] at this; rw [← this]; rfl), HB3⟩
        case measure => simp [intOf]; omega
    · obtain rfl : k = l.length := by omega
      have hst := hix.out
      rw [List.drop_length, ixZ] at hst
      have Hst := Lib.hid hst; clear hst
      go_wp2
      go_ret
      exact ⟨by rw [← Hst.out]; rfl, hbw⟩

def kin_Find.f (l : List S34) (name : ByteArray) : Option Int := if l.length ≤ 9223372036854775806 then some (ixZ (fun x => x.f0.toList == name.toList) l 0) else none

set_option maxHeartbeats 1000000 in
set_option maxRecDepth 100000 in
theorem kin_Find.calls (A0_0 : Option Addr) (c0_0 : Nat) (l0_0 : List S34) (a1 : ByteArray) (r : Int) (w : World) (hr0_0 : Kd.C k34 w A0_0 l0_0.length l0_0) (_hc0_0 : l0_0.length ≤ c0_0) (h : kin_Find.f l0_0 a1 = some r) :
    Calls Try.prog 18 #[.agg #[.slice A0_0 l0_0.length c0_0], .string a1] w fun e w' => e = .returned (.int .i64 r) ∧ Below w.heap.size w w' := by
  unfold kin_Find.f at h
  have hl : l0_0.length ≤ 9223372036854775806 := by
    by_cases hl : l0_0.length ≤ 9223372036854775806
    · exact hl
    · rw [if_neg hl] at h; cases h
  rw [if_pos hl] at h
  have Hr := Lib.hid (Option.some.inj h); clear h
  have HR := Lib.hid hr0_0; clear hr0_0
  go_enter Try.func18, Try.ntmps18
  go_wp2_with fail
  have HB : Below w.heap.size w ((w.alloc (.cells #[.slice A0_0 l0_0.length c0_0] 25)).alloc (.cells #[.string a1] 9)) := ((Below.refl _ _).alloc (Nat.le_refl _) _).alloc (by simp) _
  have hc : ((w.alloc (.cells #[.slice A0_0 l0_0.length c0_0] 25)).alloc (.cells #[.string a1] 9)).cell? ⟨w.heap.size + 1, 0, none⟩ = some (.string a1) := by
    have e : (w.alloc (.cells #[.slice A0_0 l0_0.length c0_0] 25)).heap.size = w.heap.size + 1 := by simp
    rw [← e]; exact (blk_cell (heap_alloc_new _ _) 0).trans rfl
  have HR2 := Lib.hid (Kd.C_below HR.out HB)
  have Hc := Lib.hid hc
  clear hc
  refine (index_name A0_0 c0_0 l0_0 (w.heap.size + 1) a1 _ HR2 Hc hl).mono ?_
  rintro e w2 ⟨rfl, hb2⟩
  have HB2 : Below w.heap.size w w2 := HB.trans (hb2.mono HB.size)
  clear hb2
  go_wp2
  go_ret
  exact ⟨by rw [← Hr.out]; rfl, HB2⟩
end Go.Proofs.Ytddggdhkhfephaa
