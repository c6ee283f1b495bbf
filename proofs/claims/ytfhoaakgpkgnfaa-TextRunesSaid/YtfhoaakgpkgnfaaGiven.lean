import Derived.Test.YtfhoaakgpkgnfaaMore
import Derived.Lib.OthersKept
import Derived.Lib.Hide
import Derived.WalkSmall
import Derived.Lib.RuneCount
import Derived.WalkKit
import Derived.Deep.LoopGhost
namespace Go.Proofs.Ytfhoaakgpkgnfaa
open Go.RowKit Go.Proofs.YtfhoaakgpkgnfaaW.PrintWords

/-- The runes of a text from a place on, as range tells them. -/
def runesFrom (s : ByteArray) : Nat → Nat → List Int
  | 0, _ => []
  | f + 1, pos => if pos < s.size then ((Utf8.decode s pos).1 : Int) :: runesFrom s f (pos + (Utf8.decode s pos).2) else []
theorem runesFrom_end (s : ByteArray) (f pos : Nat) (h : ¬ pos < s.size) : runesFrom s f pos = [] := by cases f <;> simp [runesFrom, h]
theorem runesFrom_cons (s : ByteArray) (f pos : Nat) (h : pos < s.size) : runesFrom s (f + 1) pos = ((Utf8.decode s pos).1 : Int) :: runesFrom s f (pos + (Utf8.decode s pos).2) := if_pos h
theorem runesFrom_more (s : ByteArray) : ∀ (f pos : Nat), s.size ≤ pos + f → runesFrom s (f + 1) pos = runesFrom s f pos := by
  intro f
  induction f with
  | zero => intro pos h; rw [runesFrom_end s _ _ (by omega), runesFrom_end s _ _ (by omega)]
  | succ f ih =>
    intro pos h
    by_cases hp : pos < s.size
    · have hw := Lib.decode_width_pos s pos hp
      rw [runesFrom_cons s (f + 1) pos hp, runesFrom_cons s f pos hp, ih _ (by omega)]
    · rw [runesFrom_end s _ _ hp, runesFrom_end s _ _ hp]
def runes (s : ByteArray) : List Int := runesFrom s s.size 0
/-- The runes from a place on. -/
def rest (s : ByteArray) (pos : Nat) : List Int := runesFrom s (s.size - pos) pos
theorem rest_cons (s : ByteArray) (pos : Nat) (h : pos < s.size) : rest s pos = ((Utf8.decode s pos).1 : Int) :: rest s (pos + (Utf8.decode s pos).2) := by
  have hw := Lib.decode_width_pos s pos h
  unfold rest
  obtain ⟨f, hf⟩ : ∃ f, s.size - pos = f + 1 := ⟨s.size - pos - 1, by omega⟩
  rw [hf, runesFrom, if_pos h]
  congr 1
  have : ∀ d f', f' + d = f → s.size ≤ pos + (Utf8.decode s pos).2 + f' → runesFrom s f (pos + (Utf8.decode s pos).2) = runesFrom s f' (pos + (Utf8.decode s pos).2) := by
    intro d
    induction d with
    | zero => intro f' h1 _; rw [show f = f' by omega]
    | succ d ih => intro f' h1 h2; rw [ih (f' + 1) (by omega) (by omega), runesFrom_more s f' _ h2]
  exact this (f - (s.size - (pos + (Utf8.decode s pos).2))) _ (by omega) (by omega)
theorem rest_end (s : ByteArray) (pos : Nat) (h : ¬ pos < s.size) : rest s pos = [] := runesFrom_end s _ _ h
theorem rest_zero (s : ByteArray) : rest s 0 = runes s := rfl

/-- What Len counts: from n on, round the word. -/
def lenL : List Int → Int → Int
  | [], n => n
  | _ :: l, n => lenL l (wrap32 (n + 1))
/-- What At finds. -/
def atL : List Int → Int → ByteArray × Bool
  | [], _ => (⟨#[]⟩, false)
  | r :: l, k => if k = 0 then (Utf8.encode r, true) else atL l (wrap32 (k - 1))

def text_Len.f (s : ByteArray) : Option Int := some (lenL (runes s) 0)
def text_At.f (s : ByteArray) (k : Int) : Option (ByteArray × Bool) := some (atL (runes s) k)

set_option maxHeartbeats 1000000 in
set_option maxRecDepth 100000 in
theorem text_Len.calls (a0 : ByteArray) (r : Int) (w : World) (h : text_Len.f a0 = some r) :
    Calls Try.prog 14 #[.string a0] w fun e w' => e = .returned (.int .i32 r) ∧ Below w.heap.size w w' := by
  have H : lenL (rest a0 0) 0 = r := Option.some.inj h
  clear h
  have H' := Lib.hid H
  clear H
  go_enter Try.func14, Try.ntmps14
  go_wp2
  go_loopw [3] (fun v wr => ∃ (pos : Nat) (n : Int), v = .int .i32 n ∧ Hid (lenL (rest a0 pos) n = r) ∧ wr.heap[w.heap.size]? = some (.stringIter a0 pos) ∧ Below w.heap.size w wr) (fun _ wr => a0.size - wr.iterPos w.heap.size)
  case atStart => exact ⟨0, 0, rfl, H', World.iter_heap w a0 0, (Below.refl _ w).alloc (Nat.le_refl _) _⟩
  case round =>
    obtain ⟨pos, n, rfl, hn, hit, hbw⟩ := hrel
    clear H'
    have hsz2 : w.heap.size < wr.heap.size := (Array.getElem?_eq_some_iff.1 hit).1
    by_cases hp : pos < a0.size
    · have hnx : ∀ ty, (Instr.next (.pointer (some ⟨w.heap.size, 0, none⟩)) true ty).run Try.prog wr = _ := fun ty => Lib.run_next_any_at wr w.heap.size a0 pos ty hit hp
      have hwd := Lib.decode_width_pos a0 pos hp
      have hrc := rest_cons a0 pos hp
      have hit2 := Lib.iterAt_heap wr w.heap.size a0 pos (pos + (Utf8.decode a0 pos).2) hit
      have hbw2 := Lib.below_iterAt hbw (k := w.heap.size) (Nat.le_refl _) a0 (pos + (Utf8.decode a0 pos).2)
      have hn2 : Hid (lenL (rest a0 (pos + (Utf8.decode a0 pos).2)) (wrap32 (n + 1)) = r) := Lib.hid (by rw [← hn.out, hrc]; rfl)
      generalize Utf8.decode a0 pos = d at *
      have Hit := Lib.hid hit; clear hit
      have Hit2 := Lib.hid hit2; clear hit2
      clear hrc hn
      go_wp2
      go_roundw
      case rel => exact ⟨pos + d.2, wrap32 (n + 1), rfl, hn2, Hit2.out, hbw2⟩
      case measure =>
        simp only [World.iterPos, Hit.out, Hit2.out]
        omega
    · have hnx : ∀ ty, (Instr.next (.pointer (some ⟨w.heap.size, 0, none⟩)) true ty).run Try.prog wr = _ := fun ty => Lib.run_next_end_at wr w.heap.size a0 pos ty hit hp
      clear hit
      have hn2 : Hid (n = r) := Lib.hid (by have := hn.out; rw [rest_end a0 pos hp] at this; exact this)
      clear hn
      go_wp2
      go_ret
      exact ⟨by rw [hn2.out]; rfl, hbw⟩

set_option maxHeartbeats 1000000 in
set_option maxRecDepth 100000 in
theorem text_At.calls (a0 : ByteArray) (a1 : Int) (r1 : ByteArray) (r2 : Bool) (w : World) (h : text_At.f a0 a1 = some (r1, r2)) :
    Calls Try.prog 10 #[.string a0, .int .i32 a1] w fun e w' => e = .returned (.tuple #[.string r1, .bool r2]) ∧ Below w.heap.size w w' := by
  have H : atL (rest a0 0) a1 = (r1, r2) := Option.some.inj h
  clear h
  have H' := Lib.hid H
  clear H
  have hcv : ∀ (n : Int) (wx : World), (convert 21 9 (.int .i32 n)).run Try.prog wx = .ok (.string (Utf8.encode n)) wx := fun n wx => own_rune_string Try.underlying21 Try.underlying9
  go_enter Try.func10, Try.ntmps10
  go_wp2
  go_loopw [1] (fun v wr => ∃ (pos : Nat) (k : Int), v = .int .i32 k ∧ Hid (atL (rest a0 pos) k = (r1, r2)) ∧ wr.heap[w.heap.size]? = some (.stringIter a0 pos) ∧ Below w.heap.size w wr) (fun _ wr => a0.size - wr.iterPos w.heap.size)
  case atStart => exact ⟨0, a1, rfl, H', World.iter_heap w a0 0, (Below.refl _ w).alloc (Nat.le_refl _) _⟩
  case round =>
    obtain ⟨pos, k, rfl, hn, hit, hbw⟩ := hrel
    clear H'
    have hsz2 : w.heap.size < wr.heap.size := (Array.getElem?_eq_some_iff.1 hit).1
    by_cases hp : pos < a0.size
    · have hnx : ∀ ty, (Instr.next (.pointer (some ⟨w.heap.size, 0, none⟩)) true ty).run Try.prog wr = _ := fun ty => Lib.run_next_any_at wr w.heap.size a0 pos ty hit hp
      have hwd := Lib.decode_width_pos a0 pos hp
      have hrc := rest_cons a0 pos hp
      have hit2 := Lib.iterAt_heap wr w.heap.size a0 pos (pos + (Utf8.decode a0 pos).2) hit
      have hbw2 := Lib.below_iterAt hbw (k := w.heap.size) (Nat.le_refl _) a0 (pos + (Utf8.decode a0 pos).2)
      by_cases hk : k = 0
      · have hn2 : Utf8.encode ((Utf8.decode a0 pos).1 : Int) = r1 ∧ true = r2 := by
          have := hn.out; rw [hrc, atL, if_pos hk] at this; exact Prod.mk.inj this
        obtain ⟨h1, h2⟩ := hn2
        subst h2
        have H1 := Lib.hid h1; clear h1
        subst hk
        generalize Utf8.decode a0 pos = d at *
        clear hit hit2 hrc hn
        go_wp2
        go_ret2
        exact ⟨by rw [← H1.out]; rfl, hbw2⟩
      · have hn2 : Hid (atL (rest a0 (pos + (Utf8.decode a0 pos).2)) (wrap32 (k - 1)) = (r1, r2)) := Lib.hid (by have := hn.out; rw [hrc, atL, if_neg hk] at this; exact this)
        generalize Utf8.decode a0 pos = d at *
        have Hit := Lib.hid hit; clear hit
        have Hit2 := Lib.hid hit2; clear hit2
        have hkb : (k == 0) = false := beq_eq_false_iff_ne.2 hk
        clear hrc hn hk
        go_wp2
        go_roundw
        case rel => exact ⟨pos + d.2, wrap32 (k - 1), rfl, hn2, Hit2.out, hbw2⟩
        case measure =>
          simp only [World.iterPos, Hit.out, Hit2.out]
          omega
    · have hnx : ∀ ty, (Instr.next (.pointer (some ⟨w.heap.size, 0, none⟩)) true ty).run Try.prog wr = _ := fun ty => Lib.run_next_end_at wr w.heap.size a0 pos ty hit hp
      clear hit
      have hn2 : (⟨#[]⟩ : ByteArray) = r1 ∧ false = r2 := by have := hn.out; rw [rest_end a0 pos hp] at this; exact Prod.mk.inj this
      obtain ⟨h1, h2⟩ := hn2
      subst h1
      subst h2
      clear hn
      go_wp2
      go_ret2
      exact ⟨rfl, hbw⟩
end Go.Proofs.Ytfhoaakgpkgnfaa
