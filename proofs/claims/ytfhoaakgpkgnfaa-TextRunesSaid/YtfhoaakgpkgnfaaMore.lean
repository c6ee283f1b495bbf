import Derived.Test.YtfhoaakgpkgnfaaProg
import Derived.Test.YtfhoaakgpkgnfaaWWords
import Derived.Laws.Cover4
namespace Go.Proofs.Ytfhoaakgpkgnfaa
open Go.RowKit Go.Proofs.YtfhoaakgpkgnfaaW.PrintWords

/-- A string made of a row of runes of the call's own. -/
theorem own_runes_string {P : Program} {w : World} {base n : Nat} {e' src dst e : TypeId} {v : Value} {xs : List Int} (hs : P.underlying src = some (.slice e)) (he : P.underlying e = some (.int .i32)) (hd : P.underlying dst = some .string)
    (h : w.ownsRow base e' 1 v n (nums .i32 xs)) : (convert src dst v).run P w = .ok (.string (runesBytes xs)) w := by
  have hl : xs.length = n := by have := h.1; simp [nums] at this; exact this
  rcases h.2 with ⟨rfl, rfl⟩ | ⟨g, cap, cur, rfl, _⟩
  · obtain rfl : xs = [] := List.eq_nil_of_length_eq_zero hl
    exact run_convert_runes_nil w src dst e 0 0 hs he hd
  · have hc := run_convert_runes w src dst e ⟨g, 0, none⟩ n cap xs (by omega) hs he hd (fun j hj => by
      have hc := h.cells (g := g) rfl j (.int .i32 (xs.getD j 0)) (by simp [nums, List.getElem?_eq_getElem hj, List.getD_eq_getElem?_getD])
      have ha : (⟨g, 0, none⟩ : Addr).add j = ⟨g, 0 + j, none⟩ := by unfold Addr.add; split <;> simp_all
      rw [ha]; rwa [ha] at hc)
    rwa [List.take_of_length_le (by omega)] at hc

theorem own_rune_string {P : Program} {w : World} {src dst : TypeId} {n : Int} {k : IntKind} (hs : P.underlying src = some (.int k)) (hd : P.underlying dst = some .string) :
    (convert src dst (.int k n)).run P w = .ok (.string (Utf8.encode n)) w := by
  simp [convert, run_underlying hs, run_underlying hd, Conv.intToString]
end Go.Proofs.Ytfhoaakgpkgnfaa
