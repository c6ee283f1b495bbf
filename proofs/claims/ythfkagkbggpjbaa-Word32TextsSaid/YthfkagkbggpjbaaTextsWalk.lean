import Derived.Test.YthfkagkbggpjbaaQx2
import Derived.Lib.OthersKept
import Derived.Lib.Hide
import Derived.WalkSmall
import Derived.Lib.RuneCount
namespace Go.Proofs.Ythfkagkbggpjbaa
open Go.RowKit Go.Proofs.YthfkagkbggpjbaaW.PrintWords Go.Proofs.YthfkagkbggpjbaaW.PrintLast

def RetTrue (w : World) (e : Ending) (w' : World) : Prop := e = .returned (.bool true) ∧ Below w.heap.size w w'
def RetStr (s : ByteArray) (w : World) (e : Ending) (w' : World) : Prop := e = .returned (.string s) ∧ Below w.heap.size w w'

set_option maxHeartbeats 1000000 in
set_option maxRecDepth 100000 in
theorem texts_walk (a b : Int) (s t : ByteArray) (acc : Nat → Int) (w : World) (ha : -2147483648 ≤ a ∧ a ≤ 2147483647)
    (hs : Hid (∀ W, Calls Try.prog 14 #[.int .i32 a] W (RetStr s W)))
    (ht : Hid (∀ W, Calls Try.prog 14 #[.int .i32 b] W (RetStr t W)))
    (htold : Hid (∀ W, Calls Try.prog 7 #[] W (RetTrue W)))
    (h0 : Hid (acc 0 = 0))
    (hstep : Hid (∀ p (h : p < s.size), (p = 0 ∧ (s[p]'h).toNat = 45 ∧ acc 1 = 0) ∨ (48 ≤ (s[p]'h).toNat ∧ (s[p]'h).toNat ≤ 57 ∧ acc (p + 1) = acc p * 10 + (((s[p]'h).toNat : Int) - 48))))
    (hbd : Hid (∀ p, p ≤ s.size → 0 ≤ acc p ∧ acc p ≤ 2147483648)) (hne : 0 < s.size)
    (hneg : Hid (((s[0]'hne).toNat = 45 ∧ -(acc s.size) = a) ∨ ((s[0]'hne).toNat ≠ 45 ∧ acc s.size = a)))
    (heq : Hid ((s.toList == t.toList) = (a == b))) (hsz : s.size ≤ 9223372036854775807) :
    Calls Try.prog 5 #[.int .i32 a, .int .i32 b] w (RetTrue w) := by
  go_enter Try.func5, Try.ntmps5
  go_wp2_with fail
  refine (hs.out _).mono ?_
  rintro e w1 ⟨rfl, hb1⟩
  go_wp2_with fail
  refine (ht.out _).mono ?_
  rintro e w2 ⟨rfl, hb2⟩
  have HB : Below w.heap.size w w2 := hb1.trans (hb2.mono hb1.size)
  clear hb1 hb2
  go_wp2
  go_loopw [7] (fun v wr => ∃ pos : Nat, pos ≤ s.size ∧ v = .int .i64 (acc pos) ∧ wr.heap[w2.heap.size]? = some (.stringIter s pos) ∧ Below w.heap.size w wr) (fun _ wr => s.size - wr.iterPos w2.heap.size)
  case atStart =>
    refine ⟨0, Nat.zero_le _, by rw [h0.out], World.iter_heap w2 s 0, HB.alloc HB.size _⟩
  case round =>
    obtain ⟨pos, hpos, rfl, hit, hbw⟩ := hrel
    have hsz2 : w2.heap.size < wr.heap.size := (Array.getElem?_eq_some_iff.1 hit).1
    have hd := hbd.out pos hpos
    by_cases hp : pos < s.size
    · have hst := hstep.out pos hp
      have hlt : (s[pos]'hp).toNat < 128 := by omega
      have hnx : ∀ ty, (Instr.next (.pointer (some ⟨w2.heap.size, 0, none⟩)) true ty).run Try.prog wr = .ok (.tuple #[.bool true, .int .i64 pos, .int .i32 (s[pos]'hp).toNat]) (wr.iterAt w2.heap.size s (pos + 1)) := fun ty => by
        have := Lib.run_next_any_at (P := Try.prog) wr w2.heap.size s pos ty hit hp
        rw [decode_ascii s pos hp hlt] at this; exact this
      have hit2 := Lib.iterAt_heap wr w2.heap.size s pos (pos + 1) hit
      have hbw2 := Lib.below_iterAt hbw (k := w2.heap.size) HB.size s (pos + 1)
      obtain ⟨c, hc⟩ : ∃ c : Int, ((s[pos]'hp).toNat : Int) = c := ⟨_, rfl⟩
      rw [hc] at hnx
      have hst' : (pos = 0 ∧ c = 45 ∧ acc 1 = 0) ∨ (48 ≤ c ∧ c ≤ 57 ∧ acc (pos + 1) = acc pos * 10 + (c - 48)) := by
        rcases hst with ⟨h1, h2, h3⟩ | ⟨h1, h2, h3⟩
        · exact .inl ⟨h1, by omega, h3⟩
        · exact .inr ⟨by omega, by omega, by rw [← hc]; exact h3⟩
      have hd2 := hbd.out (pos + 1) (by omega)
      have Hit := Lib.hid hit; clear hit
      have Hit2 := Lib.hid hit2; clear hit2
      have Hc := Lib.hid hc; clear hc hst
      rcases hst' with ⟨rfl, rfl, h3⟩ | ⟨h1, h2, h3⟩
      · have H3 := Lib.hid h3; clear h3
        go_wp2
        go_roundw
        case rel => exact ⟨1, by omega, by rw [H3.out, h0.out], Hit2.out, hbw2⟩
        case measure =>
          simp only [World.iterPos, Hit.out, Hit2.out]
          omega
      · have H3 := Lib.hid h3; clear h3
        obtain ⟨m, hm⟩ : ∃ m, acc pos = m := ⟨_, rfl⟩
        rw [hm] at hd ⊢
        have H3' := H3.out; rw [hm] at H3'
        have hd2' := hd2; rw [H3'] at hd2'
        have Hm := Lib.hid hm; clear hm
        clear H3'
        have hc1 : ¬ (c < 48) := by omega
        have hc2 : ¬ (57 < c) := by omega
        have hc3 : (c == 45) = false := beq_eq_false_iff_ne.2 (by omega)
        by_cases hp0 : pos = 0
        all_goals
          go_wp2
          go_roundw
          case rel => exact ⟨pos + 1, by omega, by rw [H3.out, Hm.out], by first | exact Hit2.out | (rw [hp0] at Hit2 ⊢; exact Hit2.out) | (subst hp0; exact Hit2.out), by first | exact hbw2 | (subst hp0; exact hbw2)⟩
          case measure =>
            have h_ := Hit.out
            have h2_ := Hit2.out
            clear Hit Hit2
            first
            | (simp only [World.iterPos, h_, h2_]; omega)
            | (subst hp0; simp only [World.iterPos, h_, h2_]; omega)
    · have hnx : ∀ ty, (Instr.next (.pointer (some ⟨w2.heap.size, 0, none⟩)) true ty).run Try.prog wr = _ := fun ty => Lib.run_next_end_at wr w2.heap.size s pos ty hit hp
      obtain rfl : pos = s.size := by omega
      have Hit := Lib.hid hit; clear hit
      have hne1 : ((s.size : Int) == 0) = false := beq_eq_false_iff_ne.2 (by omega)
      obtain ⟨m, hm⟩ : ∃ m, acc s.size = m := ⟨_, rfl⟩
      have hng := hneg.out
      rw [hm] at hd hng ⊢
      clear hm
      rcases hng with ⟨h1, h2⟩ | ⟨h1, h2⟩
      · have b1 : (((s[0]'hne).toNat : Int) == 45) = true := beq_iff_eq.2 (by omega)
        have b2 : (-m == a) = true := beq_iff_eq.2 h2
        clear h1 h2
        go_wp2_with fail
        refine (htold.out _).mono ?_
        rintro e w3 ⟨rfl, hb3⟩
        go_wp2
        go_ret
        exact ⟨by rw [heq.out, beq_self_eq_true]; rfl, hbw.trans (hb3.mono hbw.size)⟩
      · have b1 : (((s[0]'hne).toNat : Int) == 45) = false := beq_eq_false_iff_ne.2 (by omega)
        have b2 : (m == a) = true := beq_iff_eq.2 h2
        clear h1 h2
        go_wp2_with fail
        refine (htold.out _).mono ?_
        rintro e w3 ⟨rfl, hb3⟩
        go_wp2
        go_ret
        exact ⟨by rw [heq.out, beq_self_eq_true]; rfl, hbw.trans (hb3.mono hbw.size)⟩
end Go.Proofs.Ythfkagkbggpjbaa
