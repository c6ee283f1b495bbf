import Derived.Test.YtfhoaakgpkgnfaaBad
import Derived.Lib.OthersKept
import Derived.Lib.Hide
import Derived.WalkSmall
namespace Go.Proofs.Ytfhoaakgpkgnfaa
open Go.RowKit Go.Proofs.YtfhoaakgpkgnfaaW.PrintWords Go.Proofs.YtfhoaakgpkgnfaaW.PrintLast

def RetTrue (w : World) (e : Ending) (w' : World) : Prop := e = .returned (.bool true) ∧ Below w.heap.size w w'
def RetI (n : Int) (w : World) (e : Ending) (w' : World) : Prop := e = .returned (.int .i32 n) ∧ Below w.heap.size w w'
def RetL (n : Int) (w : World) (e : Ending) (w' : World) : Prop := e = .returned (.int .i64 n) ∧ Below w.heap.size w w'
def RetSB (s : ByteArray) (b : Bool) (w : World) (e : Ending) (w' : World) : Prop := e = .returned (.tuple #[.string s, .bool b]) ∧ Below w.heap.size w w'

set_option maxHeartbeats 2000000 in
set_option maxRecDepth 100000 in
theorem runes_walk (s : ByteArray) (L : Nat) (E O : Nat → ByteArray) (bad : Int) (w : World) (hs : s.size ≤ 200) (hL : L ≤ s.size)
    (hlen : Hid (∀ W, Calls Try.prog 14 #[.string s] W (RetI L W)))
    (hE : Hid (∀ k : Nat, k < L → ∀ W, Calls Try.prog 10 #[.string s, .int .i32 k] W (RetSB (E k) true W)))
    (hE1 : Hid (∀ k : Nat, k < L → ∀ W, Calls Try.prog 14 #[.string (E k)] W (RetI 1 W)))
    (hO0 : Hid (O 0 = ⟨#[]⟩)) (hO : Hid (∀ k : Nat, k < L → O (k + 1) = O k ++ E k)) (hOs : Hid (∀ k : Nat, k < L → (O k).size + (E k).size ≤ 9223372036854775807))
    (hN : Hid (∀ W, Calls Try.prog 10 #[.string s, .int .i32 L] W (RetSB ⟨#[]⟩ false W)))
    (hM : Hid (∀ W, Calls Try.prog 10 #[.string s, .int .i32 (-1)] W (RetSB ⟨#[]⟩ false W)))
    (hOut : Hid (∀ W, Calls Try.prog 14 #[.string (O L)] W (RetI L W)))
    (hBad : Hid (∀ W, Calls Try.prog 18 #[.string s] W (RetL bad W)))
    (hEnd : Hid (0 ≤ bad ∨ (bad = -1 ∧ O L = s)))
    (hcnt : Hid (lenL (rest s 0) 0 = L))
    (htold : Hid (∀ W, Calls Try.prog 7 #[] W (RetTrue W))) :
    Calls Try.prog 4 #[.string s] w (RetTrue w) := by
  have d0 : decide (200 < (s.size : Int)) = false := decide_eq_false (by omega)
  have d1 : decide (200 < s.size) = false := decide_eq_false (by omega)
  have d2 : decide ((L : Int) < 0) = false := decide_eq_false (by omega)
  have d3 : decide ((s.size : Int) < (L : Int)) = false := decide_eq_false (by omega)
  have d4 : decide (s.size < L) = false := decide_eq_false (by omega)
  go_enter Try.func4, Try.ntmps4
  go_wp2_with fail
  refine (hlen.out _).mono ?_
  rintro e w1 ⟨rfl, hb1⟩
  have HB1 : Below w.heap.size w w1 := hb1
  clear hb1
  go_wp2
  go_loopw [4, 5] (fun vo vk wr => ∃ k : Nat, k ≤ L ∧ vk = .int .i32 k ∧ vo = .string (O k) ∧ Below w.heap.size w wr) (fun _ vk _ => L - (intOf vk).toNat)
  case atStart => exact ⟨0, Nat.zero_le _, rfl, by rw [hO0.out], HB1⟩
  case round =>
    obtain ⟨k, hk, rfl, rfl, hbw⟩ := hrel
    by_cases hlt : k < L
    · have hsz := hOs.out k hlt
      have hsz1 : decide ((O k).size + (E k).size ≤ 9223372036854775807) = true := decide_eq_true hsz
      have hnx := hO.out k hlt
      have Hnx := Lib.hid hnx; clear hnx
      go_wp2_with fail
      refine (hE.out k hlt _).mono ?_
      rintro e w2 ⟨rfl, hb2⟩
      go_wp2_with fail
      refine (hE1.out k hlt _).mono ?_
      rintro e w3 ⟨rfl, hb3⟩
      have HB3 : Below w.heap.size w w3 := (hbw.trans (hb2.mono hbw.size)).trans (hb3.mono (Nat.le_trans hbw.size hb2.size))
      clear hb2 hb3
      go_wp2
      go_roundw
      case rel => exact ⟨k + 1, by omega, by go_num, by rw [Hnx.out], HB3⟩
      case measure => simp [intOf]; omega
    · obtain rfl : k = L := by omega
      go_wp2_with fail
      refine (hN.out _).mono ?_
      rintro e w2 ⟨rfl, hb2⟩
      go_wp2_with fail
      refine (hM.out _).mono ?_
      rintro e w3 ⟨rfl, hb3⟩
      have HB3 : Below w.heap.size w w3 := (hbw.trans (hb2.mono hbw.size)).trans (hb3.mono (Nat.le_trans hbw.size hb2.size))
      clear hb2 hb3
      go_wp2
      go_loopw [12] (fun v wr => ∃ (pos : Nat) (n : Int), v = .int .i32 n ∧ Hid (lenL (rest s pos) n = k) ∧ wr.heap[w3.heap.size]? = some (.stringIter s pos) ∧ Below w.heap.size w wr) (fun _ wr => s.size - wr.iterPos w3.heap.size)
      case atStart => exact ⟨0, 0, rfl, hcnt, World.iter_heap w3 s 0, HB3.alloc HB3.size _⟩
      case round =>
        obtain ⟨pos, n, rfl, hn, hit, hbr⟩ := hrel
        have hsz2 : w3.heap.size < wr.heap.size := (Array.getElem?_eq_some_iff.1 hit).1
        by_cases hp : pos < s.size
        · have hnx : ∀ ty, (Instr.next (.pointer (some ⟨w3.heap.size, 0, none⟩)) true ty).run Try.prog wr = _ := fun ty => Lib.run_next_any_at wr w3.heap.size s pos ty hit hp
          have hwd := Lib.decode_width_pos s pos hp
          have hrc := rest_cons s pos hp
          have hit2 := Lib.iterAt_heap wr w3.heap.size s pos (pos + (Utf8.decode s pos).2) hit
          have hbr2 := Lib.below_iterAt hbr (k := w3.heap.size) HB3.size s (pos + (Utf8.decode s pos).2)
          have hn2 : Hid (lenL (rest s (pos + (Utf8.decode s pos).2)) (wrap32 (n + 1)) = k) := Lib.hid (by rw [← hn.out, hrc]; rfl)
          generalize Utf8.decode s pos = d at *
          have Hit := Lib.hid hit; clear hit
          have Hit2 := Lib.hid hit2; clear hit2
          clear hrc hn
          go_wp2
          go_roundw
          case rel => exact ⟨pos + d.2, wrap32 (n + 1), rfl, hn2, Hit2.out, hbr2⟩
          case measure =>
            simp only [World.iterPos, Hit.out, Hit2.out]
            omega
        · have hnx : ∀ ty, (Instr.next (.pointer (some ⟨w3.heap.size, 0, none⟩)) true ty).run Try.prog wr = _ := fun ty => Lib.run_next_end_at wr w3.heap.size s pos ty hit hp
          clear hit
          have hn2 : n = k := by have := hn.out; rw [rest_end s pos hp] at this; exact this
          subst hn2
          clear hn
          go_wp2_with fail
          refine (htold.out _).mono ?_
          rintro e w4 ⟨rfl, hb4⟩
          have HB4 : Below w.heap.size w w4 := hbr.trans (hb4.mono hbr.size)
          clear hb4
          go_wp2_with fail
          refine (hBad.out _).mono ?_
          rintro e w5 ⟨rfl, hb5⟩
          have HB5 : Below w.heap.size w w5 := HB4.trans (hb5.mono HB4.size)
          clear hb5
          rcases hEnd.out with hq | ⟨hq, hq2⟩
          · have hq1 : decide (0 ≤ bad) = true := decide_eq_true hq
            go_wp2_with fail
            refine (hOut.out _).mono ?_
            rintro e w6 ⟨rfl, hb6⟩
            go_wp2
            go_ret
            exact ⟨by first | rfl | simp, HB5.trans (hb6.mono HB5.size)⟩
          · have hq1 : decide (0 ≤ bad) = false := decide_eq_false (by omega)
            have hq3 : ((O k).toList == s.toList) = true := by rw [hq2]; exact beq_self_eq_true _
            clear hq hq2
            go_wp2_with fail
            refine (hOut.out _).mono ?_
            rintro e w6 ⟨rfl, hb6⟩
            go_wp2
            go_ret
            exact ⟨by first | rfl | simp, HB5.trans (hb6.mono HB5.size)⟩
end Go.Proofs.Ytfhoaakgpkgnfaa
