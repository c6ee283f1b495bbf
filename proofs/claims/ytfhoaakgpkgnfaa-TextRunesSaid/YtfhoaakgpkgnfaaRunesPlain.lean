/- TextRunes: for any text the call returns true: its runes, one by one, are the text, if it is UTF-8. No condition. -/
import Derived.Test.YtfhoaakgpkgnfaaRunesWalk
import Derived.Test.YtfhoaakgpkgnfaaPureTextJoins
namespace Go.Proofs.Ytfhoaakgpkgnfaa.Pure
open Go.RowKit Go.Proofs.Ytfhoaakgpkgnfaa.Q Go.Proofs.YtfhoaakgpkgnfaaW.PrintWords Go.Proofs.YtfhoaakgpkgnfaaW.PrintLast

set_option maxHeartbeats 1000000 in
set_option maxRecDepth 100000 in
theorem runes_big (s : ByteArray) (w : World) (hs : ¬ s.size ≤ 200) (htold : Hid (∀ W, Calls Try.prog 7 #[] W (RetTrue W))) : Calls Try.prog 4 #[.string s] w (RetTrue w) := by
  have d0 : decide (200 < (s.size : Int)) = true := decide_eq_true (by omega)
  have d1 : decide (200 < s.size) = true := decide_eq_true (by omega)
  go_enter Try.func4, Try.ntmps4
  go_wp2_with fail
  refine (htold.out _).mono ?_
  rintro e w1 ⟨rfl, hb1⟩
  go_wp2
  go_ret
  exact ⟨rfl, hb1⟩

theorem runes_holds (s : ByteArray) (w : World) : Calls Try.prog 4 #[.string s] w fun e w' => e = .returned (.bool true) ∧ Below w.heap.size w w' := by
  obtain ⟨k0, h0⟩ := told_ev.rounds
  have htold : Hid (∀ W, Calls Try.prog 7 #[] W (RetTrue W)) := Lib.hid fun W => changelinglaw14_told.calls k0 true W h0
  by_cases hs : s.size ≤ 200
  · have hl := runes_len s
    obtain ⟨bad, hb, hg⟩ := badF_ev s (by omega)
    obtain ⟨k1, h1⟩ := hb.rounds
    have hsz : ∀ k : Nat, (runesBytes ((runes s).take k)).size ≤ 800 := by
      intro k
      have := runesBytes_size_le ((runes s).take k)
      have := List.length_take_le k (runes s)
      have : ((runes s).take k).length ≤ (runes s).length := by simp; omega
      omega
    have hone : ∀ k : Nat, k < (runes s).length → ∃ c : Nat, (runes s).getD k 0 = (c : Int) ∧ vr c := by
      intro k hk
      have hm := List.getElem_mem hk
      rw [List.getD_eq_getElem?_getD, List.getElem?_eq_getElem hk]
      exact runes_valid s _ hm
    refine runes_walk s (runes s).length (fun k => Utf8.encode ((runes s).getD k 0)) (fun k => runesBytes ((runes s).take k)) bad w hs hl (Lib.hid fun W => ?_) (Lib.hid fun k hk W => ?_) (Lib.hid fun k hk W => ?_) (Lib.hid rfl) (Lib.hid fun k hk => ?_) (Lib.hid fun k hk => ?_) (Lib.hid fun W => ?_) (Lib.hid fun W => ?_) (Lib.hid fun W => ?_) (Lib.hid fun W => changelingref1_Bad.calls k1 s bad W h1) (Lib.hid ?_) (Lib.hid ?_) htold
    · exact text_Len.calls s _ W (len_small s (by omega))
    · refine text_At.calls s k _ true W ?_
      rw [at_small s k (by omega) (by omega) (by omega)]
      unfold pick; rw [if_pos (by omega), Int.toNat_natCast]
    · obtain ⟨c, hc, hv⟩ := hone k hk
      refine text_Len.calls _ 1 W ?_
      unfold text_Len.f
      have := runes_encode c hv ByteArray.empty
      rw [ByteArray.append_empty, runes_empty] at this
      rw [hc, this, lenL, lenL, show wrap32 (0 + 1) = 1 by decide +kernel]
    · show runesBytes ((runes s).take (k + 1)) = runesBytes ((runes s).take k) ++ Utf8.encode ((runes s).getD k 0)
      rw [List.take_succ_eq_append_getElem hk, runesBytes_append, runesBytes_cons, runesBytes_nil, ByteArray.append_empty, List.getD_eq_getElem?_getD, List.getElem?_eq_getElem hk]; rfl
    · show (runesBytes ((runes s).take k)).size + (Utf8.encode ((runes s).getD k 0)).size ≤ _
      have := hsz k
      have := encode_size_le ((runes s).getD k 0)
      omega
    · refine text_At.calls s _ _ false W ?_
      rw [at_small s _ (by omega) (by omega) (by omega)]
      unfold pick; rw [if_neg (by omega)]
    · refine text_At.calls s _ _ false W ?_
      rw [at_small s _ (by omega) (by omega) (by omega)]
      unfold pick; rw [if_neg (by omega)]
    · refine text_Len.calls _ _ W ?_
      have e := runes_all (runes s) (runes_valid s) ByteArray.empty
      rw [ByteArray.append_empty, runes_empty, List.append_nil] at e
      show text_Len.f (runesBytes ((runes s).take (runes s).length)) = _
      rw [List.take_length, len_small _ (by have := hsz (runes s).length; rw [List.take_length] at this; omega), e]
    · rcases hg with hg | ⟨hg, hg2⟩
      · exact .inl hg
      · refine .inr ⟨hg, ?_⟩
        show runesBytes ((runes s).take (runes s).length) = s
        rw [List.take_length, ← good_all s hg2]
    · rw [rest_zero, lenL_eq _ _ (by omega) (by omega)]; omega
  · exact runes_big s w hs htold
end Go.Proofs.Ytfhoaakgpkgnfaa.Pure
