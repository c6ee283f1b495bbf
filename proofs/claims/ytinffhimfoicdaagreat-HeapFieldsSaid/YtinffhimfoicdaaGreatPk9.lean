/- Texts of the claim, merged: HS, HT, Calc21, Calc22, HU, RD, Calc23, HV, TL, HF, HX. No conditions. -/
import Derived.Test.YtinffhimfoicdaaGreatPk8
import Derived.Test.YtinffhimfoicdaaGreatPk6
import Derived.Test.YtinffhimfoicdaaGreatPk7
/- The heap's New. No conditions. -/
namespace Go.Proofs.YtinffhimfoicdaaGreat
open Go Go.RowKit Go.Proofs.YtinffhimfoicdaaGreat.Calc
set_option linter.unusedVariables false
set_option linter.unusedSimpArgs false
set_option maxRecDepth 100000
set_option maxHeartbeats 8000000
attribute [local irreducible] Tri TriL TriP CallT stepV stepW thenQ inQ endQ endN
theorem sp8_bad (p : List Cl) (hp : Small p) (he : (checkF p).1 ≠ 0) : PC 8 [vP p] (fun r => r = .d (.flat (.pointer none))) := by
  have h27 := sp27 p hp
  generalize checkF p = c at *
  obtain ⟨e, i⟩ := c
  dsimp only at *
  intro S T M
  refine callT_go [] [] Tryz.func8 rfl Tryz.ntmps8 Tryz.results8 ?_
  repeat' (first | apply triL_nil | (apply V; apply rfl; (first | (apply E_mv; apply rfl) | (apply E_as; apply rfl) | (apply E_lda; (apply tyT; apply rfl); apply rfl; (apply at_; apply rfl; apply rfl); apply rfl) | (apply E_ex; apply rfl; apply rfl))) | (apply Vp; apply rfl; apply rfl; apply fnT; apply rfl; apply h27; rintro _ rfl) | (apply Vd; apply rfl; (apply E_neq; apply rfl; apply rfl); all_goals intro h_) | (apply Vw; apply rfl; (apply W_bxL; apply rfl; apply rfl; apply rfl)) | (apply s_region; apply rfl) | apply tri_seq | apply tri_skip | apply tri_ret | (apply tri_condT; apply rfl) | (apply tri_condF; apply rfl) | (apply end_q _ (.inr rfl); (exact List.prefix_append _ _); (focus repeat (first | apply R_nil | (apply R_tmp; apply rfl))); apply rfl) | apply p_then | apply p_thenR | (exfalso; contradiction))
  all_goals first | rfl | contradiction
theorem sp8_good (p : List Cl) (hp : Small p) (hn : Named p) (he : (checkF p).1 = 0) (S : List (List BV × Nat)) (T : List Nat) (M : List (List (Value × DV))) : CallT Tryz.prog [] [] 8 [vP p] ⟨S, T, M⟩ (fun r s => r = .ptr (S.length + 1) 0 ∧ s = ⟨S ++ [([.d (encL encCl p)], 26), ([.d (encL encCl p), .tight [] 0, .d (.map M.length)], 73)], T, M ++ [encM (statT p [])]⟩) := by
  have h27 := sp27 p hp
  generalize checkF p = c at *
  obtain ⟨e, i⟩ := c
  dsimp only at he
  subst he
  refine callT_goN [] [] Tryz.func8 rfl Tryz.ntmps8 Tryz.results8 ?_
  repeat' (first | apply triL_nil | (apply V; apply rfl; (first | (apply E_mv; apply rfl) | (apply E_as; apply rfl) | (apply E_fa; (apply plT; apply rfl); apply rfl; apply rfl; decide) | (apply E_lda; (apply tyT; apply rfl); apply rfl; (apply at_; apply rfl; apply rfl); apply rfl) | (apply E_ld; (apply tyT; apply rfl); apply rfl; (apply at_; apply rfl; apply rfl); apply rfl) | (apply E_len; (apply elT; apply rfl); apply rfl; apply rfl) | (apply E_ex; apply rfl; apply rfl) | (apply E_bd; (apply plT; apply rfl); apply rfl))) | (apply Vp; apply rfl; apply rfl; apply fnT; apply rfl; apply h27; rintro _ rfl) | (apply VR; apply rfl; apply opR_mk; apply rfl) | (apply Vd; apply rfl; (apply E_neq; apply rfl; apply rfl); all_goals intro h_) | (apply Vw; apply rfl; (apply W_bxL; apply rfl; apply rfl; apply rfl)) | (apply s_region; apply rfl) | apply tri_seq | apply tri_block | apply tri_skip | apply tri_ret | (apply tri_condT; apply rfl) | (apply tri_condF; apply rfl) | apply p_then | apply p_thenR)
  · exact absurd rfl h_
  have hp1 := hp.1
  have okm : okM ⟨Tryz.prog, 52, [], [], S.length, M.length⟩ M.length = true := by simp [okM]
  refine tri_growM (fun k : Nat => p.length - k) (fun k => [(5, .ptr (S.length + 1) 0), (22, .d (encL encCl p)), (23, vI p.length), (24, vI k)]) (fun k S1 T1 M1 => k ≤ p.length ∧ S.length + 2 ≤ S1.length ∧ T <+: T1 ∧ S1[S.length + 0]? = some ([.d (encL encCl p)], 26) ∧ S1[S.length + 1]? = some ([.d (encL encCl p), .tight [] 0, .d (.map M.length)], 73) ∧ ∃ t, OKM t ∧ M1 = M ++ [encM t] ∧ statT p [] = statT (p.drop k) t) 0 ⟨Nat.zero_le _, by simp, by simp, at_ rfl rfl, at_ rfl rfl, [], OKM.nil, rfl, by rw [List.drop_zero]⟩ ⟨rfl, rfl, rfl, rfl, trivial⟩ ?_
  rintro k S1 T1 M1 ⟨hk, hS, hT, hb0, hb1, t, hO, rfl, hst⟩
  repeat' (first | apply triL_nil | (apply V; apply rfl; (first | (apply E_mv; apply rfl) | (apply E_as; apply rfl))) | (apply Vd; apply rfl; (apply E_lss; apply rfl; apply rfl); all_goals intro h_) | (apply s_region; apply rfl) | apply tri_seq | apply tri_block | apply tri_skip | apply tri_exit | apply tri_ret | (apply tri_condT; apply rfl) | (apply tri_condF; apply rfl) | apply p_then | apply p_in | apply p_thenE)
  · obtain ⟨c, hc⟩ : ∃ c, p[k]? = some c := ⟨_, List.getElem?_eq_getElem (by omega)⟩
    rw [drop_at hc, statT] at hst
    have hfl := hp.2 c (List.mem_of_getElem? hc)
    have hnm := hn c (List.mem_of_getElem? hc)
    repeat' (first | apply triL_nil | (apply V; apply rfl; (first | (apply E_mv; apply rfl) | (apply E_fa; (apply plT; apply rfl); apply rfl; apply rfl; decide) | (apply E_ld; (apply tyT; apply rfl); apply rfl; (apply at_; apply rfl; apply rfl); apply rfl) | (apply E_lea; (apply tyT; apply rfl); apply rfl; (first | apply rfl | apply encEx_len | apply encSm_len)) | (apply E_len; (apply elT; apply rfl); apply rfl; apply rfl) | (apply E_ial (c := c); apply elT; apply rfl; apply rfl; apply rfl; apply rfl; exact encCl_len; omega; simpa using hc))) | (apply Vw; apply rfl; (apply W_alL; apply rfl; (apply tyT; apply rfl))) | (apply Vs; apply rfl; (apply W_stL; apply rfl; (apply tyT; apply rfl); apply rfl; apply rfl; apply rfl; (first | apply okC_new | (apply okC_ge; omega)); apply rfl; apply rfl; (first | decide | (apply Nat.le_of_ble_eq_true; rfl)))) | (apply s_region; apply rfl) | apply tri_block)
    refine tri_growM (fun j : Nat => c.fields.length - j) (fun j => [(5, .ptr (S.length + 1) 0), (7, .ptr (S1.length + 0) 0), (22, .d (encL encCl p)), (23, vI p.length), (24, vI k), (29, .d (encL encFi c.fields)), (30, vI c.fields.length), (31, vI j)]) (fun j S2 T2 M2 => j ≤ c.fields.length ∧ S1.length ≤ S2.length ∧ T <+: T2 ∧ S2[S.length + 0]? = some ([.d (encL encCl p)], 26) ∧ S2[S.length + 1]? = some ([.d (encL encCl p), .tight [] 0, .d (.map M.length)], 73) ∧ S2[S1.length + 0]? = some ((encCl c).map .d, 37) ∧ ∃ t', OKM t' ∧ M2 = M ++ [encM t'] ∧ putF true c.name c.fields 0 t = putF true c.name (c.fields.drop j) j t') 0 ⟨Nat.zero_le _, by simp, pre_app hT, at_old hb0, at_old hb1, at_ rfl rfl, t, hO, rfl, by rw [List.drop_zero]⟩ ⟨rfl, rfl, rfl, rfl, rfl, rfl, rfl, rfl, trivial⟩ ?_
    rintro j S2 T2 M2 ⟨hj, hS2, hT2, hb02, hb12, hcb, t', hO', rfl, hpf⟩
    repeat' (first | apply triL_nil | (apply V; apply rfl; (first | (apply E_mv; apply rfl) | (apply E_add64; apply rfl; apply rfl; apply rfl; omega))) | (apply Vd; apply rfl; (apply E_lss; apply rfl; apply rfl); all_goals intro h_) | (apply s_region; apply rfl) | apply tri_seq | (apply tri_region; apply rfl) | apply tri_block | apply tri_skip | apply tri_exit | (apply tri_condT; apply rfl) | (apply tri_condF; apply rfl) | apply p_then | apply p_in | apply p_inN | apply p_thenE)
    · obtain ⟨f, hf⟩ : ∃ f, c.fields[j]? = some f := ⟨_, List.getElem?_eq_getElem (by omega)⟩
      rw [drop_at hf, putF] at hpf
      have h20 := sp20 f.typ
      have hkT : okT ⟨c.name, (j : Int)⟩ := okT_of hnm (by omega)
      have hMg : (M ++ [encM t'])[M.length]? = some (encM t') := by simp
      obtain ⟨fs, fty, fnm, fin⟩ := f
      dsimp only at hpf h20
      cases fs
      · rw [if_neg (by decide)] at hpf
        repeat' (first | apply triL_nil | (apply V; apply rfl; (first | (apply E_mv; apply rfl) | (apply E_as; apply rfl) | (apply E_fa; (apply plT; apply rfl); apply rfl; apply rfl; decide) | (apply E_ld; (apply tyT; apply rfl); apply rfl; (apply at_; apply rfl; apply rfl); apply rfl) | (apply E_lea; (apply tyT; apply rfl); apply rfl; (first | apply rfl | apply encEx_len | apply encSm_len)) | (apply E_add64; apply rfl; apply rfl; apply rfl; omega) | (apply E_ial (c := (⟨_, fty, fnm, fin⟩ : Fi)); apply elT; apply rfl; apply rfl; apply rfl; apply rfl; exact encFi_len; omega; simpa using hf))) | (apply Vw; apply rfl; (apply W_alL; apply rfl; (apply tyT; apply rfl))) | (apply Vs; apply rfl; (apply W_stL; apply rfl; (apply tyT; apply rfl); apply rfl; apply rfl; apply rfl; (first | apply okC_new | (apply okC_ge; omega)); apply rfl; apply rfl; (first | decide | (apply Nat.le_of_ble_eq_true; rfl)))) | (apply s_region; apply rfl) | (apply tri_region; apply rfl) | apply tri_skip | (apply tri_condF; apply rfl) | apply p_then | apply p_inN)
        exact ⟨j + 1, _, _, _, by omega, ⟨by omega, by simp only [List.length_append]; omega, pre_app hT2, at_old hb02, at_old hb12, at_old hcb, t', hO', rfl, hpf⟩, ⟨rfl, rfl, rfl, rfl, rfl, rfl, rfl, vI_of (by omega), trivial⟩, rfl⟩
      · rw [if_pos rfl] at hpf
        repeat' (first | apply triL_nil | (apply V; apply rfl; (first | (apply E_mv; apply rfl) | (apply E_as; apply rfl) | (apply E_fa; (apply plT; apply rfl); apply rfl; apply rfl; decide) | (apply E_ld; (apply tyT; apply rfl); apply rfl; (first | (apply at_; apply rfl; apply rfl) | (apply at_old; assumption)); apply rfl) | (apply E_lea; (apply tyT; apply rfl); apply rfl; (first | apply rfl | apply encEx_len | apply encSm_len)) | (apply E_ncp; apply rfl) | (apply E_bd; (apply plT; apply rfl); apply rfl) | (apply E_add64; apply rfl; apply rfl; apply rfl; omega) | (apply E_ial (c := (⟨_, fty, fnm, fin⟩ : Fi)); apply elT; apply rfl; apply rfl; apply rfl; apply rfl; exact encFi_len; omega; simpa using hf) | (apply E_ld; exact ty70; apply rfl; (first | (apply at_; apply rfl; apply rfl) | (apply at_old; assumption) | assumption); apply rfl))) | (apply t_drawn (nt := 52) (.take 0 (.take 1 (.take 2 (.take 3 (.take 4 (.take 5 (.take 6 (.take 7 (.take 8 (.take 9 (.one 10 (.one 11 .nil)))))))))))) [] [11]; exact mixed; rfl; decide +kernel) | (apply oP; apply rfl; apply rfl; apply rfl; apply fnT; apply rfl; apply h20; rintro _ rfl) | (apply oR; apply rfl; apply rfl; apply opR_setT (k := ⟨c.name, (j : Int)⟩) (tbl := t') (w := zeroT fty); apply rfl; apply rfl; apply rfl; apply rfl; exact hkT; exact hMg; exact hO'; exact okm) | (apply Vw; apply rfl; (apply W_alL; apply rfl; (apply tyT; apply rfl))) | (apply Vs; apply rfl; (apply W_stL; apply rfl; (apply tyT; apply rfl); apply rfl; apply rfl; apply rfl; (first | apply okC_new | (apply okC_ge; omega)); apply rfl; apply rfl; (first | decide | (apply Nat.le_of_ble_eq_true; rfl)))) | (apply s_region; apply rfl) | (apply tri_region; apply rfl) | (apply tri_condT; apply rfl) | apply p_then | apply p_inN | apply d_nil | (apply tV; apply rfl; apply rfl; (first | (apply E_mv; apply rfl) | (apply E_as; apply rfl) | (apply E_fa; (apply plT; apply rfl); apply rfl; apply rfl; decide) | (apply E_ld; (apply tyT; apply rfl); apply rfl; (first | (apply at_; apply rfl; apply rfl) | (apply at_old; assumption)); apply rfl) | (apply E_lea; (apply tyT; apply rfl); apply rfl; (first | apply rfl | apply encEx_len | apply encSm_len)) | (apply E_ncp; apply rfl) | (apply E_bd; (apply plT; apply rfl); apply rfl) | (apply E_add64; apply rfl; apply rfl; apply rfl; omega) | (apply E_ial (c := (⟨_, fty, fnm, fin⟩ : Fi)); apply elT; apply rfl; apply rfl; apply rfl; apply rfl; exact encFi_len; omega; simpa using hf) | (apply E_ld; exact ty70; apply rfl; (first | (apply at_; apply rfl; apply rfl) | (apply at_old; assumption) | assumption); apply rfl)); apply rfl))
        exact ⟨j + 1, _, _, _, by omega, ⟨by omega, by simp only [List.length_append]; omega, pre_app hT2, at_old hb02, at_old hb12, at_old hcb, _, hO'.put hkT _, set_end, hpf⟩, ⟨rfl, rfl, rfl, rfl, rfl, rfl, rfl, vI_of (by omega), trivial⟩, rfl⟩
    · rw [List.drop_of_length_le (by omega), putF] at hpf
      rw [hpf] at hst
      exact ⟨k + 1, _, _, _, by omega, ⟨by omega, by simp only [List.length_append]; omega, pre_app hT2, at_old hb02, at_old hb12, t', hO', rfl, hst⟩, ⟨rfl, rfl, rfl, vI_of (by omega), trivial⟩, rfl⟩
  · rw [List.drop_of_length_le (by omega), statT] at hst
    rw [hst]
    exact end_n2 (l' := [.ptr (S.length + 1) 0]) _ (.inr rfl) (pre_app hT) (R_tmp rfl R_nil) (by simp [lows, low]) (at_old hb0) (at_old hb1) rfl rfl ⟨rfl, rfl⟩
end Go.Proofs.YtinffhimfoicdaaGreat

/- The heap's Make. No conditions. -/
namespace Go.Proofs.YtinffhimfoicdaaGreat
open Go Go.RowKit Go.Proofs.YtinffhimfoicdaaGreat.Calc
set_option linter.unusedVariables false
set_option linter.unusedSimpArgs false
set_option maxRecDepth 100000
set_option maxHeartbeats 8000000
theorem end_k {P : Program} {rs : List ResultVar} {S S1 : List (List BV × Nat)} {T T' T1 : List Nat} {M M1 : List (List (Value × DV))} {Q : BV → St → Prop} {ρ : Rg} {l l' cs cs' : List BV} {id ty : Nat} (ex : AX) (hex : ex = .normal ∨ ex = .ret) (hT : T' <+: T1) (hTl : T.length ≤ T'.length) (h1 : resB P ρ ⟨S1, T1, M1⟩ rs = some l) (h2 : lows S.length T'.length (wks l) = some l')
    (hS : S1[id]? = some (cs, ty)) (h3 : lows S.length T'.length cs = some cs') (h : Q (retB l') ⟨S.set id (cs', ty), T', M1⟩) : endQ P rs [id] ⟨S, T, M⟩ Q ex ρ ⟨S1, T1, M1⟩ :=
  ⟨hex, wks l, l', S.set id (cs', ty), T', .inr (by rw [h1]; rfl), h2, by simp only [popS, hS, h3], hT, hTl, h⟩
theorem pre_both {T T1 : List Nat} (h : T <+: T1) {tg n : Nat} (ht : tg < T.length) : T.set tg n <+: T1.set tg n := by
  obtain ⟨X, rfl⟩ := h
  rw [List.set_append_left _ _ ht]
  exact List.prefix_append _ _
attribute [local irreducible] Tri TriL TriP CallT stepV stepW thenQ inQ endQ endN
theorem sp11_bad (p : List Cl) (hp : p.length ≤ 1000000) (tg sid : Nat) (l : List (ByteArray × Nat)) (cls : ByteArray) (hl : l.length ≤ 1000) (hb : l.length = 200 ∨ isC p cls = false) : HC p (.own 79 2 tg (l.flatMap encOb) l.length) sid 11 (fun id => [.ptr id 0, vS cls]) (fun r => r = .tup [vVl vl0, vB false]) := by
  have h28 := sp28 p cls hp
  intro S T M id hid
  refine callT_go [] [] Tryz.func11 rfl Tryz.ntmps11 Tryz.results11 ?_
  cases hc : isC p cls
  · rw [hc] at h28
    repeat' (first | apply triL_nil | (apply V; apply rfl; (first | (apply E_mv; apply rfl) | (apply E_as; apply rfl) | (apply E_fa; (apply plT; apply rfl); apply rfl; apply rfl; decide) | (apply E_ld; (apply tyT; apply rfl); apply rfl; (apply at_old; assumption); apply rfl) | (apply E_len; (apply elT; apply rfl); apply rfl; apply rfl) | (apply E_ncp; apply rfl) | (apply E_pkT; apply rfl; apply rfl) | (apply E_pkF; apply rfl; apply rfl) | (apply E_not; apply rfl) | (apply E_bd; (apply plT; apply rfl); apply rfl) | (apply E_pe; exact und28; apply rfl))) | (apply Vp; apply rfl; apply rfl; apply fnT; apply rfl; apply h28; rintro _ rfl) | (apply Vd; apply rfl; (apply E_eql; apply rfl; apply rfl); all_goals intro h_) | (apply Vo; apply rfl) | (apply Vw; apply rfl; (apply W_alL; apply rfl; (apply tyT; apply rfl))) | (apply Vs; apply rfl; (apply W_stL; apply rfl; (apply tyT; apply rfl); apply rfl; apply rfl; apply rfl; (first | apply okC_new | (apply okC_ge; omega)); apply rfl; apply rfl; (first | decide | (apply Nat.le_of_ble_eq_true; rfl)))) | (apply s_region; apply rfl) | apply tri_seq | apply tri_ret | (apply tri_condT; apply rfl) | (apply end_q _ (.inr rfl); (exact List.prefix_append _ _); (focus repeat (first | apply R_nil | (apply R_tmp; apply rfl) | (apply R_cell; apply rfl; apply rfl; apply tyT; apply rfl; apply rfl; apply rfl))); apply rfl) | apply p_thenR)
    all_goals first | rfl | contradiction
  · rw [hc] at h28 hb
    have h200 : l.length = 200 := by simpa using hb
    repeat' (first | apply triL_nil | (apply V; apply rfl; (first | (apply E_mv; apply rfl) | (apply E_as; apply rfl) | (apply E_fa; (apply plT; apply rfl); apply rfl; apply rfl; decide) | (apply E_ld; (apply tyT; apply rfl); apply rfl; (apply at_old; assumption); apply rfl) | (apply E_len; (apply elT; apply rfl); apply rfl; apply rfl) | (apply E_ncp; apply rfl) | (apply E_pkT; apply rfl; apply rfl) | (apply E_pkF; apply rfl; apply rfl) | (apply E_not; apply rfl) | (apply E_bd; (apply plT; apply rfl); apply rfl) | (apply E_pe; exact und28; apply rfl))) | (apply Vp; apply rfl; apply rfl; apply fnT; apply rfl; apply h28; rintro _ rfl) | (apply Vd; apply rfl; (apply E_eql; apply rfl; apply rfl); all_goals intro h_) | (apply Vo; apply rfl) | (apply Vw; apply rfl; (apply W_alL; apply rfl; (apply tyT; apply rfl))) | (apply Vs; apply rfl; (apply W_stL; apply rfl; (apply tyT; apply rfl); apply rfl; apply rfl; apply rfl; (first | apply okC_new | (apply okC_ge; omega)); apply rfl; apply rfl; (first | decide | (apply Nat.le_of_ble_eq_true; rfl)))) | (apply s_region; apply rfl) | apply tri_seq | apply tri_skip | apply tri_ret | (apply tri_condT; apply rfl) | (apply tri_condF; apply rfl) | (apply end_q _ (.inr rfl); (exact List.prefix_append _ _); (focus repeat (first | apply R_nil | (apply R_tmp; apply rfl) | (apply R_cell; apply rfl; apply rfl; apply tyT; apply rfl; apply rfl; apply rfl))); apply rfl) | apply p_then | apply p_thenR | (exfalso; omega))
    all_goals first | rfl | contradiction | (exfalso; omega)
/-- What stands in an object's fields at first. -/
def instT (p : List Cl) : List ByteArray → Tbl → Tbl
  | [], t => t
  | c :: L, t => instT p L (if 0 ≤ findI p c then putF false c (clAt p (findI p c)).fields 0 t else t)
theorem sp11_good (p : List Cl) (hp : Small p) (tg sid : Nat) (l : List (ByteArray × Nat)) (cls : ByteArray) (hl : l.length < 200) (hc : isC p cls = true) (hN : ∀ c ∈ chC p cls, c.size ≤ 1000000) (S : List (List BV × Nat)) (T : List Nat) (M : List (List (Value × DV))) (id : Nat)
    (hid : S[id]? = some ([.d (encL encCl p), .own 79 2 tg (l.flatMap encOb) l.length, .d (.map sid)], 73)) (hT : T[tg]? = some (l.flatMap encOb).length) :
    CallT Tryz.prog [id] [] 11 [.ptr id 0, vS cls] ⟨S, T, M⟩ (fun r s => r = .tup [vVl ⟨4, l.length + 1, ⟨#[]⟩⟩, vB true] ∧
      s = ⟨S.set id ([.d (encL encCl p), .own 79 2 tg ((l ++ [(cls, M.length)]).flatMap encOb) (l ++ [(cls, M.length)]).length, .d (.map sid)], 73), T.set tg ((l ++ [(cls, M.length)]).flatMap encOb).length, M ++ [encM (instT p (chC p cls) [])]⟩) := by
  have hp1 := hp.1
  have h28 := sp28 p cls hp1
  have h29 := sp29 p cls hp1
  have hcl := ch_len p cls
  rw [hc] at h28
  refine callT_go [id] [] Tryz.func11 rfl Tryz.ntmps11 Tryz.results11 ?_
  have okm : okM ⟨Tryz.prog, 99, [id], [], S.length, M.length⟩ M.length = true := by simp [okM]
  generalize hL : chC p cls = L at *
  repeat' (first | apply triL_nil | (apply V; apply rfl; (first | (apply E_mv; apply rfl) | (apply E_as; apply rfl) | (apply E_fa; (apply plT; apply rfl); apply rfl; apply rfl; decide) | (apply E_ld; (apply tyT; apply rfl); apply rfl; (apply at_old; assumption); apply rfl) | (apply E_len; (apply elT; apply rfl); apply rfl; apply rfl) | (apply E_ncp; apply rfl) | (apply E_pkT; apply rfl; apply rfl) | (apply E_pkF; apply rfl; apply rfl) | (apply E_not; apply rfl) | (apply E_bd; (apply plT; apply rfl); apply rfl) | (apply E_pe; exact und28; apply rfl))) | (apply Vp; apply rfl; apply rfl; apply fnT; apply rfl; apply h28; rintro _ rfl) | (apply Vp; apply rfl; apply rfl; apply fnT; apply rfl; apply h29; rintro _ rfl) | (apply VR; apply rfl; apply opR_mk; apply rfl) | (apply Vd; apply rfl; (apply E_eql; apply rfl; apply rfl); all_goals intro h_) | (apply Vo; apply rfl) | (apply Vw; apply rfl; (apply W_alL; apply rfl; (apply tyT; apply rfl))) | (apply Vs; apply rfl; (apply W_stL; apply rfl; (apply tyT; apply rfl); apply rfl; apply rfl; apply rfl; (first | apply okC_new | (apply okC_ge; omega)); apply rfl; apply rfl; (first | decide | (apply Nat.le_of_ble_eq_true; rfl)))) | (apply s_region; apply rfl) | apply tri_seq | apply tri_block | apply tri_skip | apply tri_ret | (apply tri_condT; apply rfl) | (apply tri_condF; apply rfl) | apply p_then | apply p_thenR | (exfalso; omega))
  refine tri_growM (fun k : Nat => L.length - k) (fun k => [(0, .ptr id 0), (4, .ptr (S.length + 0) 0), (6, .ptr (S.length + 1) 0), (40, .d (encL encStr L)), (41, vI L.length), (42, vI k)]) (fun k S1 T1 M1 => k ≤ L.length ∧ S.length + 2 ≤ S1.length ∧ T <+: T1 ∧ S1[id]? = some ([.d (encL encCl p), .own 79 2 tg (l.flatMap encOb) l.length, .d (.map sid)], 73) ∧ S1[S.length + 0]? = some ([.d (.flat (.int .i64 0)), .d (.flat (.int .i32 0)), .d (.flat (.string ⟨#[]⟩))], 39) ∧ S1[S.length + 1]? = some ([.d (.flat (.string cls)), .d (.map M.length)], 79) ∧ ∃ t, OKM t ∧ M1 = M ++ [encM t] ∧ instT p L [] = instT p (L.drop k) t) 0 ⟨Nat.zero_le _, by simp, by simp, at_old hid, at_ rfl rfl, at_ rfl rfl, [], OKM.nil, rfl, by rw [List.drop_zero]⟩ ⟨rfl, rfl, rfl, rfl, rfl, rfl, trivial⟩ ?_
  rintro k S1 T1 M1 ⟨hk, hS, hT1, hb, hb0, hb1, t, hO, rfl, hst⟩
  repeat' (first | apply triL_nil | (apply Vd; apply rfl; (apply E_lss; apply rfl; apply rfl); all_goals intro h_) | (apply s_region; apply rfl) | apply tri_seq | apply tri_block | apply tri_skip | apply tri_exit | (apply tri_condT; apply rfl) | (apply tri_condF; apply rfl) | apply p_then | apply p_in | apply p_thenE)
  · obtain ⟨c, hcc⟩ : ∃ c, L[k]? = some c := ⟨_, List.getElem?_eq_getElem (by omega)⟩
    rw [drop_at hcc, instT] at hst
    have hcs := hN c (List.mem_of_getElem? hcc)
    have h30 := sp30 p c hp1
    rcases findI_spec p c with ⟨hf, _⟩ | ⟨jc, hj, hf, _, _⟩
    · rw [hf] at h30 hst
      rw [if_neg (by decide)] at hst
      repeat' (first | apply triL_nil | (apply V; apply rfl; (first | (apply E_mv; apply rfl) | (apply E_as; apply rfl) | (apply E_fa; (apply plT; apply rfl); apply rfl; apply rfl; decide) | (apply E_ld; (apply tyT; apply rfl); apply rfl; (apply at_old; assumption); apply rfl) | (apply E_le; (apply tyT; apply rfl); apply rfl; apply rfl) | (apply E_ncp; apply rfl) | (apply E_add64; apply rfl; apply rfl; apply rfl; omega) | (apply E_ial (c := c); apply elT; apply rfl; apply rfl; apply rfl; apply rfl; exact encStr_len; omega; simpa using hcc))) | (apply Vp; apply rfl; apply rfl; apply fnT; apply rfl; apply h30; rintro _ rfl) | (apply Vd; apply rfl; (apply E_geq; apply rfl; apply rfl); all_goals intro h_) | (apply s_region; apply rfl) | (apply tri_region; apply rfl) | apply tri_skip | (apply tri_condT; apply rfl) | (apply tri_condF; apply rfl) | apply p_then | apply p_inN)
      all_goals first | contradiction | exact ⟨k + 1, _, _, _, by omega, ⟨by omega, by simp only [List.length_append]; omega, pre_app hT1, at_old hb, at_old hb0, at_old hb1, t, hO, rfl, hst⟩, ⟨rfl, rfl, rfl, rfl, rfl, vI_of (by omega), trivial⟩, rfl⟩
    · obtain ⟨c0, hc0⟩ : ∃ c0, p[jc]? = some c0 := ⟨_, List.getElem?_eq_getElem hj⟩
      have hcl0 : clAt p (jc : Int) = c0 := by
        unfold clAt
        rw [show ((jc : Int)).toNat = jc from rfl, hc0]
        rfl
      have hfl := hp.2 c0 (List.mem_of_getElem? hc0)
      rw [hf] at h30 hst
      rw [if_pos (by omega), hcl0] at hst
      repeat' (first | apply triL_nil | (apply V; apply rfl; (first | (apply E_mv; apply rfl) | (apply E_as; apply rfl) | (apply E_fa; (apply plT; apply rfl); apply rfl; apply rfl; decide) | (apply E_fe; (apply plT; apply rfl); apply rfl; apply rfl; decide) | (apply E_ld; (apply tyT; apply rfl); apply rfl; (apply at_old; assumption); apply rfl) | (apply E_le; (apply tyT; apply rfl); apply rfl; apply rfl) | (apply E_len; (apply elT; apply rfl); apply rfl; apply rfl) | (apply E_ncp; apply rfl) | (apply E_add64; apply rfl; apply rfl; apply rfl; omega) | (apply E_ial (c := c); apply elT; apply rfl; apply rfl; apply rfl; apply rfl; exact encStr_len; omega; simpa using hcc) | (apply E_ial (c := c0); apply elT; apply rfl; apply rfl; apply rfl; apply rfl; exact encCl_len; omega; simpa using hc0))) | (apply Vp; apply rfl; apply rfl; apply fnT; apply rfl; apply h30; rintro _ rfl) | (apply Vd; apply rfl; (apply E_geq; apply rfl; apply rfl); all_goals intro h_) | (apply s_region; apply rfl) | (apply tri_region; apply rfl) | apply tri_block | apply tri_skip | (apply tri_condT; apply rfl) | (apply tri_condF; apply rfl) | apply p_then | apply p_inN | (exfalso; omega))
      refine tri_growM (fun j : Nat => c0.fields.length - j) (fun j => [(0, .ptr id 0), (4, .ptr (S.length + 0) 0), (6, .ptr (S.length + 1) 0), (8, vS c), (40, .d (encL encStr L)), (41, vI L.length), (42, vI k), (62, .d (encL encFi c0.fields)), (63, vI c0.fields.length), (64, vI j)]) (fun j S2 T2 M2 => j ≤ c0.fields.length ∧ S.length + 2 ≤ S2.length ∧ T <+: T2 ∧ S2[id]? = some ([.d (encL encCl p), .own 79 2 tg (l.flatMap encOb) l.length, .d (.map sid)], 73) ∧ S2[S.length + 0]? = some ([.d (.flat (.int .i64 0)), .d (.flat (.int .i32 0)), .d (.flat (.string ⟨#[]⟩))], 39) ∧ S2[S.length + 1]? = some ([.d (.flat (.string cls)), .d (.map M.length)], 79) ∧ ∃ t', OKM t' ∧ M2 = M ++ [encM t'] ∧ putF false c c0.fields 0 t = putF false c (c0.fields.drop j) j t') 0 ⟨Nat.zero_le _, by simp only [List.length_append]; omega, pre_app hT1, at_old hb, at_old hb0, at_old hb1, t, hO, rfl, by rw [List.drop_zero]⟩ ⟨rfl, rfl, rfl, rfl, rfl, rfl, rfl, rfl, rfl, rfl, trivial⟩ ?_
      rintro j S2 T2 M2 ⟨hj', hS2, hT2, hb', hb0', hb1', t', hO', rfl, hpf⟩
      repeat' (first | apply triL_nil | (apply V; apply rfl; (first | (apply E_mv; apply rfl) | (apply E_add64; apply rfl; apply rfl; apply rfl; omega))) | (apply Vd; apply rfl; (apply E_lss; apply rfl; apply rfl); all_goals intro h_) | (apply s_region; apply rfl) | apply tri_seq | (apply tri_region; apply rfl) | apply tri_block | apply tri_skip | apply tri_exit | (apply tri_condT; apply rfl) | (apply tri_condF; apply rfl) | apply p_then | apply p_in | apply p_inN | apply p_thenE)
      · obtain ⟨f, hff⟩ : ∃ f, c0.fields[j]? = some f := ⟨_, List.getElem?_eq_getElem (by omega)⟩
        rw [drop_at hff, putF] at hpf
        have h20 := sp20 f.typ
        have hkT : okT ⟨c, (j : Int)⟩ := okT_of hcs (by omega)
        have hMg : (M ++ [encM t'])[M.length]? = some (encM t') := by simp
        obtain ⟨fs, fty, fnm, fin⟩ := f
        dsimp only at hpf h20
        cases fs
        · rw [if_pos rfl] at hpf
          repeat' (first | apply triL_nil | (apply V; apply rfl; (first | (apply E_mv; apply rfl) | (apply E_as; apply rfl) | (apply E_fa; (apply plT; apply rfl); apply rfl; apply rfl; decide) | (apply E_ld; (apply tyT; apply rfl); apply rfl; (apply at_; apply rfl; apply rfl); apply rfl) | (apply E_lea; (apply tyT; apply rfl); apply rfl; (first | apply rfl | apply encEx_len | apply encSm_len)) | (apply E_not; apply rfl) | (apply E_bd; (apply plT; apply rfl); apply rfl) | (apply E_add64; apply rfl; apply rfl; apply rfl; omega) | (apply E_ial (c := (⟨_, fty, fnm, fin⟩ : Fi)); apply elT; apply rfl; apply rfl; apply rfl; apply rfl; exact encFi_len; omega; simpa using hff) | (apply E_ld; exact ty70; apply rfl; (first | (apply at_; apply rfl; apply rfl) | (apply at_old; assumption) | assumption); apply rfl))) | (apply t_drawn (nt := 99) (.take 0 (.take 1 (.take 2 (.take 3 (.take 4 (.take 5 (.take 6 (.one 7 (.one 8 .nil))))))))) [] [8]; exact mixed; rfl; decide +kernel) | (apply oP; apply rfl; apply rfl; apply rfl; apply fnT; apply rfl; apply h20; rintro _ rfl) | (apply oR; apply rfl; apply rfl; apply opR_setT (k := ⟨c, (j : Int)⟩) (tbl := t') (w := zeroT fty); apply rfl; apply rfl; apply rfl; apply rfl; exact hkT; exact hMg; exact hO'; exact okm) | (apply Vw; apply rfl; (apply W_alL; apply rfl; (apply tyT; apply rfl))) | (apply Vs; apply rfl; (apply W_stL; apply rfl; (apply tyT; apply rfl); apply rfl; apply rfl; apply rfl; (first | apply okC_new | (apply okC_ge; omega)); apply rfl; apply rfl; (first | decide | (apply Nat.le_of_ble_eq_true; rfl)))) | (apply s_region; apply rfl) | (apply tri_region; apply rfl) | (apply tri_condT; apply rfl) | apply p_then | apply p_inN | apply d_nil | (apply tV; apply rfl; apply rfl; (first | (apply E_mv; apply rfl) | (apply E_as; apply rfl) | (apply E_fa; (apply plT; apply rfl); apply rfl; apply rfl; decide) | (apply E_ld; (apply tyT; apply rfl); apply rfl; (apply at_; apply rfl; apply rfl); apply rfl) | (apply E_lea; (apply tyT; apply rfl); apply rfl; (first | apply rfl | apply encEx_len | apply encSm_len)) | (apply E_not; apply rfl) | (apply E_bd; (apply plT; apply rfl); apply rfl) | (apply E_add64; apply rfl; apply rfl; apply rfl; omega) | (apply E_ial (c := (⟨_, fty, fnm, fin⟩ : Fi)); apply elT; apply rfl; apply rfl; apply rfl; apply rfl; exact encFi_len; omega; simpa using hff) | (apply E_ld; exact ty70; apply rfl; (first | (apply at_; apply rfl; apply rfl) | (apply at_old; assumption) | assumption); apply rfl)); apply rfl))
          exact ⟨j + 1, _, _, _, by omega, ⟨by omega, by simp only [List.length_append]; omega, pre_app hT2, at_old hb', at_old hb0', at_old hb1', _, hO'.put hkT _, set_end, hpf⟩, ⟨rfl, rfl, rfl, rfl, rfl, rfl, rfl, rfl, rfl, vI_of (by omega), trivial⟩, rfl⟩
        · rw [if_neg (by decide)] at hpf
          repeat' (first | apply triL_nil | (apply V; apply rfl; (first | (apply E_mv; apply rfl) | (apply E_as; apply rfl) | (apply E_fa; (apply plT; apply rfl); apply rfl; apply rfl; decide) | (apply E_ld; (apply tyT; apply rfl); apply rfl; (apply at_; apply rfl; apply rfl); apply rfl) | (apply E_lea; (apply tyT; apply rfl); apply rfl; (first | apply rfl | apply encEx_len | apply encSm_len)) | (apply E_not; apply rfl) | (apply E_add64; apply rfl; apply rfl; apply rfl; omega) | (apply E_ial (c := (⟨_, fty, fnm, fin⟩ : Fi)); apply elT; apply rfl; apply rfl; apply rfl; apply rfl; exact encFi_len; omega; simpa using hff))) | (apply Vw; apply rfl; (apply W_alL; apply rfl; (apply tyT; apply rfl))) | (apply Vs; apply rfl; (apply W_stL; apply rfl; (apply tyT; apply rfl); apply rfl; apply rfl; apply rfl; (first | apply okC_new | (apply okC_ge; omega)); apply rfl; apply rfl; (first | decide | (apply Nat.le_of_ble_eq_true; rfl)))) | (apply s_region; apply rfl) | (apply tri_region; apply rfl) | apply tri_skip | (apply tri_condF; apply rfl) | apply p_then | apply p_inN)
          exact ⟨j + 1, _, _, _, by omega, ⟨by omega, by simp only [List.length_append]; omega, pre_app hT2, at_old hb', at_old hb0', at_old hb1', t', hO', rfl, hpf⟩, ⟨rfl, rfl, rfl, rfl, rfl, rfl, rfl, rfl, rfl, vI_of (by omega), trivial⟩, rfl⟩
      · rw [List.drop_of_length_le (by omega), putF] at hpf
        rw [hpf] at hst
        exact ⟨k + 1, _, _, _, by omega, ⟨by omega, by simp only [List.length_append]; omega, pre_app hT2, at_old hb', at_old hb0', at_old hb1', t', hO', rfl, hst⟩, ⟨rfl, rfl, rfl, rfl, rfl, vI_of (by omega), trivial⟩, rfl⟩
  · rw [List.drop_of_length_le (by omega), instT] at hst
    rw [hst]
    have htl := (List.getElem?_eq_some_iff.1 hT).1
    have hidl := (List.getElem?_eq_some_iff.1 hid).1
    have hTg : T1[tg]? = some (l.flatMap encOb).length := by
      obtain ⟨X, rfl⟩ := hT1
      rw [List.getElem?_append_left htl]
      exact hT
    have hid1 : id < S1.length := (List.getElem?_eq_some_iff.1 hb).1
    have hb03 : (S1.set id (putL (0 + 1) (cellsOfB (BV.own 79 2 tg ((l ++ [(cls, M.length)]).flatMap encOb) (l ++ [(cls, M.length)]).length)) [.d (encL encCl p), .own 79 2 tg (l.flatMap encOb) l.length, .d (.map sid)], 73))[S.length + 0]? = some ([.d (.flat (.int .i64 0)), .d (.flat (.int .i32 0)), .d (.flat (.string ⟨#[]⟩))], 39) := by
      rw [List.getElem?_set_ne (by omega)]
      exact hb0
    have hll : (l ++ [(cls, M.length)]).length = l.length + 1 := by simp
    repeat' (first | apply triL_nil | (apply V; apply rfl; (first | (apply E_cv64; apply rfl; apply udT; apply rfl; apply udT; apply rfl; omega) | (apply E_mv; apply rfl) | (apply E_as; apply rfl) | (apply E_fa; (apply plT; apply rfl); apply rfl; apply rfl; decide) | (apply E_lda; (apply tyT; apply rfl); apply rfl; (first | (apply at_old; assumption) | (apply at_set; assumption)); apply rfl) | (apply E_ld; (apply tyT; apply rfl); apply rfl; (first | (apply at_old; assumption) | (apply at_set; assumption)); apply rfl) | (apply E_len; (apply elT; apply rfl); apply rfl; apply rfl) | (apply E_ncp; apply rfl) | (apply E_bd; (apply plT; apply rfl); apply rfl))) | (apply t_drawn (nt := 99) (.take 0 (.take 1 (.take 2 (.take 3 (.take 4 (.take 5 (.one 6 (.one 7 (.take 8 (.take 9 (.one 10 .nil))))))))))) [] [10]; exact mixed; rfl; decide +kernel) | (apply Vs; apply rfl; (apply W_stO; (apply tyT; apply rfl); apply rfl; apply rfl; assumption; (apply okC_ge; omega); apply rfl; apply rfl; (first | decide | (apply Nat.le_of_ble_eq_true; rfl)))) | (apply s_region; apply rfl) | apply tri_ret | apply p_then | apply d_nil | (apply tV; apply rfl; apply rfl; (first | (apply E_cv64; apply rfl; apply udT; apply rfl; apply udT; apply rfl; omega) | (apply E_mv; apply rfl) | (apply E_as; apply rfl) | (apply E_fa; (apply plT; apply rfl); apply rfl; apply rfl; decide) | (apply E_lda; (apply tyT; apply rfl); apply rfl; (first | (apply at_old; assumption) | (apply at_set; assumption)); apply rfl) | (apply E_ld; (apply tyT; apply rfl); apply rfl; (first | (apply at_old; assumption) | (apply at_set; assumption)); apply rfl) | (apply E_len; (apply elT; apply rfl); apply rfl; apply rfl) | (apply E_ncp; apply rfl) | (apply E_bd; (apply plT; apply rfl); apply rfl)); apply rfl) | (apply oW; apply rfl; apply rfl; (first | (apply W_bsL; apply rfl; (apply elT; apply rfl); (apply tyT; apply rfl); apply rfl; decide; apply rfl; apply rfl) | (apply W_ap; (apply elT; apply rfl); (apply tyT; apply rfl); (apply byT; apply rfl); apply rfl; apply rfl; apply rfl; decide; apply rfl; (apply A_ownLO (c := (cls, M.length)); omega; omega; assumption)))) | (apply oS; apply rfl; apply rfl; (apply W_stO; (apply tyT; apply rfl); apply rfl; apply rfl; assumption; (apply okD_in <;> simp); apply rfl; apply rfl; (first | decide | (apply Nat.le_of_ble_eq_true; rfl)))))
    have hx : ∀ X, (((S1.set id X).set (S.length + 0) (putL 0 (cellsOfB (.agg [.d (.flat (.int .i64 4)), .d (.flat (.int .i32 ((l ++ [(cls, M.length)]).length : Nat))), .d (.flat (.string ⟨#[]⟩))])) [.d (.flat (.int .i64 0)), .d (.flat (.int .i32 0)), .d (.flat (.string ⟨#[]⟩))], 39)) ++ ([] : List (List BV × Nat)))[id]? = some X := fun X => by
      rw [List.append_nil, List.getElem?_set_ne (by omega)]
      exact List.getElem?_set_self hid1
    refine end_k (T' := T.set tg ((l ++ [(cls, M.length)]).flatMap encOb).length) (l' := [.agg [.d (.flat (.int .i64 4)), .d (.flat (.int .i32 ((l ++ [(cls, M.length)]).length : Nat))), .d (.flat (.string ⟨#[]⟩))], vB true]) _ (.inr rfl) (pre_app (pre_both hT1 htl)) (by simp) (R_cellO rfl (tyT rfl) (List.getElem?_set_self (by rw [List.length_set]; omega)) rfl (R_tmp rfl R_nil)) (by simp [wks, wk, lows, low]; rfl) (at_old (by rw [List.getElem?_set_ne (by omega)]; exact List.getElem?_set_self hid1)) (cs' := [.d (encL encCl p), .own 79 2 tg ((l ++ [(cls, M.length)]).flatMap encOb) (l ++ [(cls, M.length)]).length, .d (.map sid)]) ?_ ⟨?_, rfl⟩
    · show lows S.length (T.set tg _).length [.d (encL encCl p), .own 79 2 tg ((l ++ [(cls, M.length)]).flatMap encOb) (l ++ [(cls, M.length)]).length, .d (.map sid)] = _
      simp [lows, low, htl]
    · rw [hll]
      rfl
end Go.Proofs.YtinffhimfoicdaaGreat

/- A calculus over the model's wp rules, part 21: a look into no map. No conditions. -/
namespace Go.Proofs.YtinffhimfoicdaaGreat.Calc
open Go Go.RowKit
set_option linter.unusedVariables false

section
variable {P : Program} {ok okm : Nat → Bool} {o : Oper} {ρ : Rg} {st : St} {Q : Rg → St → Prop} {t : Nat} {k e : TypeId} {x i v : Operand} {b : Bool}
theorem opR_lookZ {sz : Nat} {z : List BV} {kv : Value} (ho : o.op = .lookup t x i b) (hm : P.underlying t = some (.map k e)) (K : WideMaps.KeyLaw P k) (ht : tyOf P e = some (true, sz, z)) (hx : evB ρ x = some (.d (.flat (.map none))))
    (hi : (evB ρ i).bind keyB = some kv) (hkv : KeyV P k kv) (hq : Q (updO ρ o.dst (lkB b (.agg z) false)) st) : OpR P ok okm o ρ st Q := by
  intro nt y a Kx h1 h2 h3 h4
  subst h1
  obtain ⟨bi, hb1, hb2⟩ := Option.bind_eq_some_iff.1 hi
  have hik := keyB_rep (h3.ev hb1) hb2
  have hrx := h3.ev hx
  generalize hw : a.eval x = vx at hrx
  obtain ⟨l, hl⟩ := hkv
  obtain ⟨dd, ii, zz, g1, g2, g3, _, _, g6, g7⟩ := tyOf_some ht
  obtain ⟨cz, rfl⟩ : ∃ c : Array Value, zz = .agg c := by
    cases zz <;> simp [aggV] at g7
    exact ⟨_, rfl⟩
  have hz : RepB y (.agg z) (.agg cz) := by
    have := RepB.agg _ _ (cellsB_rep (x := y) g6)
    simpa [Value.cells] using this
  have hvx : vx = .map none := keyB_rep hrx rfl
  subst hvx
  have hfind : (Instr.findKey k kv []).run P y.w = .ok none y.w := by
    rcases K.find y.w hl [] (fun e he => by cases he) with ⟨q, _⟩ | ⟨j, e, _, q, _⟩
    · exact q
    · simp at q
  have hrun : (execOp a.eval o).run P y.w = .ok (.value (if b = true then .tuple #[.agg cz, .bool false] else .agg cz)) y.w := by
    obtain ⟨dst, op, type, pos, after, guard⟩ := o
    subst ho
    simp only [execOp, hw, hik]
    simp [Instr.lookup, run_underlying hm, K.check y.w _ hl, hfind, run_zero g2 g3, Result.andThen]
  unfold Oper.wp
  rw [hrun]
  exact ⟨_, y, [], [], rfl, hq, h2, Step.refl _ _ _, by simp, by simp, h3.put h4 (lkB_rep hz b false)⟩
end
end Go.Proofs.YtinffhimfoicdaaGreat.Calc

/- A calculus over the model's wp rules, part 22: an empty list in a box gets the right to append. No conditions. -/
namespace Go.Proofs.YtinffhimfoicdaaGreat.Calc
open Go Go.RowKit
set_option linter.unusedVariables false
theorem RepBs.setAt {x : Full} : ∀ {l : List BV} {vs : List Value}, RepBs x l vs → ∀ {j : Nat} {b : BV}, (∀ v, vs[j]? = some v → RepB x b v) → RepBs x (l.set j b) vs
  | _, _, .nil, j, b, h => .nil
  | _, _, .cons y v l vs h hs, 0, b, hb => .cons _ _ _ _ (hb v rfl) hs
  | _, _, .cons y v l vs h hs, j + 1, b, hb => .cons _ _ _ _ h (RepBs.setAt hs fun v hv => hb v (by simpa using hv))
def boxSet (y : Full) (id : Nat) (c : List BV × Nat) : Full := { y with st := ⟨y.st.S.set id c, y.st.T, y.st.M⟩ }
theorem boxSet_le (y : Full) (id : Nat) (c : List BV × Nat) : Step [] [] y (boxSet y id c) where
  os := rfl
  tape := rfl
  output := rfl
  size := Nat.le_refl _
  frame := fun _ _ _ _ _ => rfl
  keep := Keep.refl _ _
  slen := by simp [boxSet]
  ids := fun _ _ => rfl
  fresh := fun i h1 h2 => by simp only [boxSet, List.length_set] at h2; omega
  mlen := Nat.le_refl _
  mids := fun _ _ => rfl
  mfresh := fun i h1 h2 => by simp only [boxSet] at h2; omega
  tags := fun t k h => ⟨k, h, Nat.le_refl _, fun _ => ⟨rfl, fun _ _ => rfl⟩, .inl rfl⟩
  tfresh := fun t b h1 h2 => by simp only [boxSet] at h2; omega
  fro := fun _ _ _ => rfl
theorem boxSet_good {y : Full} (hg : Good y) {id ty : Nat} {cs cs' : List BV} (hid : y.st.S[id]? = some (cs, ty)) (h : ∀ vs, RepBs y cs vs → RepBs y cs' vs) : Good (boxSet y id (cs', ty)) := by
  have hs := boxSet_le y id (cs', ty)
  constructor
  · intro i c t hi
    simp only [boxSet, List.getElem?_set] at hi
    split at hi
    · rename_i e
      subst e
      obtain ⟨us, h1, h2, h3⟩ := hg.box id cs ty hid
      split at hi
      · simp only [Option.some.injEq, Prod.mk.injEq] at hi
        obtain ⟨rfl, rfl⟩ := hi
        exact ⟨us, h1, (h us h2).mono hs, h3⟩
      · cases hi
    · obtain ⟨us, h1, h2, h3⟩ := hg.box i c t hi
      exact ⟨us, h1, h2.mono hs, h3⟩
  · intro i j hi hj e
    simp only [boxSet, List.length_set] at hi hj e
    exact hg.inj i j hi hj e
  · intro u k b hu hb
    obtain ⟨h1, h2, h3, h4⟩ := hg.tag u k b hu hb
    refine ⟨h1, h2, fun i hi => ?_, h4⟩
    simp only [boxSet, List.length_set] at hi
    exact h3 i hi
  · intro i es hi
    obtain ⟨us, c, h1, h2, h3⟩ := hg.map i es hi
    refine ⟨us, c, h1, h2, fun j e k y he hk => ?_⟩
    obtain ⟨h4, h5⟩ := h3 j e k y he hk
    exact ⟨h4, h5.mono hs.le⟩
  · exact hg.mapinj
  · exact hg.tmap
theorem tri_ownBox {C : Cx} {c : Code} {ρ : Rg} {S : List (List BV × Nat)} {T : List Nat} {M : List (List (Value × DV))} {Q : Post} {id ty j : Nat} {cs : List BV} (e sz : Nat) (hid : S[id]? = some (cs, ty)) (hj : cs[j]? = some (.tight [] 0))
    (h : Tri C c ρ ⟨S.set id (cs.set j (.own e sz T.length [] 0), ty), T ++ [0], M⟩ Q) : Tri C c ρ ⟨S, T, M⟩ Q := by
  intro x y a h1 h1m h2 h3 h4 h5 K hK
  have hS : y.st.S = S := by rw [h3]
  have hT : y.st.T = T := by rw [h3]
  have hM : y.st.M = M := by rw [h3]
  have g1 := tagged_good h4
  have hid1 : (tagged y).st.S[id]? = some (cs, ty) := by
    show y.st.S[id]? = _
    rw [hS]
    exact hid
  have g2 : Good (boxSet (tagged y) id (cs.set j (.own e sz T.length [] 0), ty)) := boxSet_good g1 hid1 fun vs hvs => by
    refine hvs.setAt fun v hv => ?_
    obtain ⟨w, hw1, hw2⟩ := hvs.get hj
    obtain rfl := Option.some.inj (hv.symm.trans hw1)
    rw [← hT]
    cases hw2 with
    | tight _ _ base hb => exact .own e sz _ [] 0 0 _ hb (by simp [tagged]) (Nat.le_refl _) (fun _ => .inr ⟨by simp [tagged], rfl, rfl, base, rfl⟩)
  have hst := (tagged_step y).trans (boxSet_le (tagged y) id (cs.set j (.own e sz T.length [] 0), ty))
  refine h x _ a h1 h1m (h2.trans' hst (fun i hi _ => by cases hi) (fun i hi _ => by cases hi)) ?_ g2 ⟨h5.defers, h5.size, fun t v ht => (h5.reg t v ht).mono hst⟩ K hK
  show (⟨y.st.S.set id _, y.st.T ++ [0], y.st.M⟩ : St) = _
  rw [hS, hT, hM]
end Go.Proofs.YtinffhimfoicdaaGreat.Calc

/- The heap's Get of nobody. No conditions. -/
namespace Go.Proofs.YtinffhimfoicdaaGreat
open Go Go.RowKit Go.Proofs.YtinffhimfoicdaaGreat.Calc
set_option linter.unusedVariables false
set_option linter.unusedSimpArgs false
set_option maxRecDepth 100000
set_option maxHeartbeats 8000000
theorem opR_lookN {okm ok : Nat → Bool} {o : Oper} {ρ : Rg} {st : St} {Q : Rg → St → Prop} {x i : Operand} {b : Bool} {k : Tg} (ho : o.op = .lookup 70 x i b) (hx : evB ρ x = some (.d (.flat (.map none)))) (hi : (evB ρ i).bind keyB = some (keyT k)) (hk : okT k)
    (hq : Q (updO ρ o.dst (lkB b (vVl vl0) false)) st) : OpR Tryz.prog ok okm o ρ st Q :=
  opR_lookZ ho und70 K44 (z := [.d (.flat (.int .i64 0)), .d (.flat (.int .i32 0)), .d (.flat (.string ⟨#[]⟩))]) (sz := 3) (tyT rfl) hx hi (keyV44 hk) hq
attribute [local irreducible] Tri TriL TriP CallT stepV stepW thenQ inQ endQ
theorem sp15z (p : List Cl) (tg sid : Nat) (l : List (ByteArray × Nat)) (v : Vl) (hv : okV v) (hl : l.length ≤ 1000) (k : Tg) (hk : okT k) (hm : mpOf sid l v = none) : HC p (.own 79 2 tg (l.flatMap encOb) l.length) sid 15 (fun id => [.ptr id 0, vVl v, vTg k]) (fun r => r = vVl vl0) := by
  have h34 := sp34 p tg sid l v hv hl
  rw [hm] at h34
  unfold vTg
  intro S T M id hid
  refine callT_go [] [] Tryz.func15 rfl Tryz.ntmps15 Tryz.results15 ?_
  repeat' (first | apply triL_nil | (apply s_drawn (nt := 12) (.take 0 (.take 1 (.take 3 (.one 2 (.one 4 (.one 5 .nil)))))) [] [5]; exact mixed; rfl; decide +kernel) | (apply oP; apply rfl; apply rfl; apply rfl; apply fnT; apply rfl; apply h34; (first | (apply at_old; assumption) | assumption); rintro _ rfl) | (apply oR; apply rfl; apply rfl; apply opR_lookN (k := k); apply rfl; apply rfl; apply rfl; exact hk) | (apply Vw; apply rfl; (first | (apply W_alL; apply rfl; (apply tyT; apply rfl)) | (apply W_bxL; apply rfl; apply rfl; apply rfl))) | (apply s_region; apply rfl) | apply tri_ret | (apply end_q _ (.inr rfl); (exact List.prefix_append _ _); (focus repeat (first | apply R_nil | (apply R_cell; apply rfl; apply rfl; apply tyT; apply rfl; apply rfl; apply rfl))); apply rfl) | apply d_nil | (apply tV; apply rfl; apply rfl; (first | (apply E_mv; apply rfl) | (apply E_lda; (apply tyT; apply rfl); apply rfl; (apply at_; apply rfl; apply rfl); apply rfl)); apply rfl) | (apply oS; apply rfl; apply rfl; (apply W_stL; apply rfl; (apply tyT; apply rfl); apply rfl; apply rfl; apply rfl; (first | (apply okD_new; apply rfl) | (apply okD_ge; omega; apply rfl)); apply rfl; apply rfl; (first | decide | (apply Nat.le_of_ble_eq_true; rfl)))))
  all_goals first | rfl | contradiction
theorem sp13z (p : List Cl) (tg sid : Nat) (l : List (ByteArray × Nat)) (v : Vl) (hv : okV v) (hl : l.length ≤ 1000) (k : Tg) (hk : okT k) (w : Vl) (hm : mpOf sid l v = none) : HC p (.own 79 2 tg (l.flatMap encOb) l.length) sid 13 (fun id => [.ptr id 0, vVl v, vTg k, vVl w]) (fun r => r = vB false) := by
  have h34 := sp34 p tg sid l v hv hl
  rw [hm] at h34
  unfold vTg
  intro S T M id hid
  refine callT_go [] [] Tryz.func13 rfl Tryz.ntmps13 Tryz.results13 ?_
  repeat' (first | apply triL_nil | (apply V; apply rfl; (first | (apply E_mv; apply rfl) | (apply E_as; apply rfl) | (apply E_lda; (apply tyT; apply rfl); apply rfl; (apply at_; apply rfl; apply rfl); apply rfl) | (apply E_ex; apply rfl; apply rfl) | (apply E_not; apply rfl))) | (apply Vp; apply rfl; apply rfl; apply fnT; apply rfl; apply h34; (first | (apply at_old; assumption) | assumption); rintro _ rfl) | (apply VR; apply rfl; apply opR_lookN (k := k); apply rfl; apply rfl; apply rfl; exact hk) | (apply Vw; apply rfl; (first | (apply W_alL; apply rfl; (apply tyT; apply rfl)) | (apply W_bxL; apply rfl; apply rfl; apply rfl))) | (apply Vs; apply rfl; (apply W_stL; apply rfl; (apply tyT; apply rfl); apply rfl; apply rfl; apply rfl; (first | apply okC_new | (apply okC_ge; omega)); apply rfl; apply rfl; (first | decide | (apply Nat.le_of_ble_eq_true; rfl)))) | (apply s_region; apply rfl) | apply tri_seq | apply tri_ret | (apply tri_condT; apply rfl) | (apply end_q _ (.inr rfl); (exact List.prefix_append _ _); (focus repeat (first | apply R_nil | (apply R_tmp; apply rfl))); apply rfl) | apply p_thenR)
  all_goals first | rfl | contradiction
end Go.Proofs.YtinffhimfoicdaaGreat

/- The closed run, last part: Make's program, what it is. No conditions. -/
namespace Go.Proofs.YtinffhimfoicdaaGreat
open Go Go.RowKit Go.Proofs.YtinffhimfoicdaaGreat.Calc
set_option linter.unusedVariables false
set_option linter.unusedSimpArgs false
set_option maxRecDepth 1000000
set_option maxHeartbeats 8000000
def P0 : List Cl :=
  [⟨b1, b49, [⟨false, b3, b4, [.mk 1 1 b49 b49 b49 [] b49 0]⟩, ⟨true, b3, b9, [.mk 1 2 b49 b49 b49 [] b49 0]⟩, ⟨false, b1, b11, []⟩, ⟨false, b12, b13, [.mk 3 0 b13 b49 b49 [] b49 0]⟩], [⟨false, true, b49, b49, [], [.mk 2 0 b49 b49 [.mk 6 0 b49 b4 b49 [] b49 0, .mk 1 5 b49 b49 b49 [] b49 0] [] [] [] 0]⟩, ⟨false, false, b3, b18, [⟨b3, b19⟩], [.mk 1 0 b1 b20 [.mk 6 0 b49 b11 b49 [] b49 0] [] [] [] 0, .mk 6 0 b49 b49 [.mk 6 0 b49 b4 b49 [] b49 0] [] [] [] 0]⟩, ⟨false, false, b3, b18, [⟨b1, b20⟩], [.mk 6 0 b49 b49 [.mk 1 1 b49 b49 b49 [] b49 0] [] [] [] 0]⟩, ⟨false, false, b3, b18, [⟨b3, b19⟩, ⟨b3, b23⟩], [.mk 6 0 b49 b49 [.mk 17 0 b49 b24 b49 [.mk 6 0 b49 b19 b49 [] b49 0, .mk 6 0 b49 b23 b49 [] b49 0] b49 0] [] [] [] 0]⟩, ⟨false, false, b25, b26, [], [.mk 7 0 b49 b49 [.mk 3 0 b1 b49 b49 [] b49 0] [] [] [] 0]⟩, ⟨true, false, b3, b28, [⟨b3, b19⟩], [.mk 6 0 b49 b49 [.mk 17 0 b49 b29 b49 [.mk 6 0 b49 b19 b49 [] b49 0, .mk 9 0 b49 b9 b1 [] b49 0] b49 0] [] [] [] 0]⟩]⟩,
   ⟨b31, b1, [⟨false, b3, b4, [.mk 1 7 b49 b49 b49 [] b49 0]⟩, ⟨false, b3, b34, []⟩, ⟨false, b31, b35, []⟩], [⟨false, true, b49, b49, [⟨b3, b19⟩], [.mk 11 0 b49 b49 [] [] [] [] 0, .mk 2 0 b49 b49 [.mk 6 0 b49 b34 b49 [] b49 0, .mk 6 0 b49 b19 b49 [] b49 0] [] [] [] 0]⟩, ⟨false, true, b49, b49, [], []⟩, ⟨false, false, b3, b18, [⟨b3, b19⟩], [.mk 1 0 b1 b20 [.mk 5 0 b49 b49 b49 [] b49 0] [] [] [] 0, .mk 6 0 b49 b49 [.mk 17 0 b49 b38 b49 [.mk 6 0 b49 b34 b49 [] b49 0, .mk 6 0 b49 b19 b49 [] b49 0] b49 0] [] [] [] 0]⟩, ⟨false, false, b25, b26, [], [.mk 7 0 b49 b49 [.mk 3 0 b31 b49 b49 [] b49 0] [] [] [] 0, .mk 3 0 b49 b49 [.mk 12 0 b49 b26 b49 [] b49 0] [] [] [] 0, .mk 7 0 b49 b49 [.mk 6 0 b49 b34 b49 [] b49 0] [] [] [] 0]⟩]⟩,
   ⟨b40, b49, [⟨true, b1, b41, [.mk 14 0 b49 b49 b31 [.mk 1 2 b49 b49 b49 [] b49 0] b49 0]⟩], [⟨true, false, b25, b43, [], [.mk 1 0 b1 b20 [.mk 9 0 b49 b41 b40 [] b49 0] [] [] [] 0, .mk 7 0 b49 b49 [.mk 10 0 b49 b18 b49 [.mk 6 0 b49 b20 b49 [] b49 0, .mk 1 3 b49 b49 b49 [] b49 0] b49 0] [] [] [] 0, .mk 3 0 b49 b49 [.mk 10 0 b49 b26 b49 [.mk 6 0 b49 b20 b49 [] b49 0] b49 0] [] [] [] 0, .mk 8 1 b49 b49 [.mk 17 0 b49 b46 b49 [.mk 7 0 b49 b4 b49 [.mk 6 0 b49 b20 b49 [] b49 0] b49 0, .mk 1 9 b49 b49 b49 [] b49 0] b49 0] [] [] [] 0]⟩, ⟨true, false, b25, b48, [], [.mk 1 0 b1 b20 [.mk 14 0 b49 b49 b31 [.mk 1 2 b49 b49 b49 [] b49 0] b49 0] [] [] [] 0]⟩]⟩]
theorem progV_eq : progV = vP P0 := by kernel_rfl
def cA : ByteArray := ⟨#[65]⟩
def cB : ByteArray := ⟨#[66]⟩
def cT : ByteArray := ⟨#[84]⟩
def cQ : ByteArray := ⟨#[81]⟩
def vlI (n : Int) : Vl := ⟨1, n, ⟨#[]⟩⟩
theorem P0_small : Small P0 := by unfold Small; decide +kernel
theorem P0_named : Named P0 := by unfold Named; decide +kernel
theorem P0_check : (checkF P0).1 = 0 := by decide +kernel
theorem P0_A : isC P0 cA = true := by decide +kernel
theorem P0_B : isC P0 cB = true := by decide +kernel
theorem P0_Q : isC P0 cQ = false := by decide +kernel
theorem P0_ch : chC P0 cB = [cB, cA] := by decide +kernel
def tS : Tbl := [(⟨cA, 1⟩, vlI 0), (⟨cT, 0⟩, ⟨4, 0, ⟨#[]⟩⟩)]
def tB : Tbl := [(⟨cB, 0⟩, vlI 0), (⟨cB, 1⟩, vlI 0), (⟨cB, 2⟩, ⟨4, 0, ⟨#[]⟩⟩), (⟨cA, 0⟩, vlI 0), (⟨cA, 2⟩, ⟨4, 0, ⟨#[]⟩⟩), (⟨cA, 3⟩, ⟨3, 0, ⟨#[]⟩⟩)]
theorem P0_stat : statT P0 [] = tS := by decide +kernel
theorem P0_inst : instT P0 [cB, cA] [] = tB := by decide +kernel
attribute [local irreducible] Tri TriL TriP CallT stepV stepW thenQ inQ endQ
theorem cl7 : PC 7 [nilL] (fun r => r = vP P0) := by
  have h25 := cl25
  have h24 := cl24
  have h26 := cl26
  rw [progV_eq] at h24 h26
  unfold vP at *
  have hl : P0.length = 3 := rfl
  generalize P0 = p at *
  generalize srcB = sr at *
  intro S T M
  refine callT_go [] [] Tryz.func7 rfl Tryz.ntmps7 Tryz.results7 ?_
  repeat' (first | apply triL_nil | (apply V; apply rfl; (first | (apply E_mv; apply rfl) | (apply E_as; apply rfl) | (apply E_fa; (apply plT; apply rfl); apply rfl; apply rfl; decide) | (apply E_fe; (apply plT; apply rfl); apply rfl; apply rfl; decide) | (apply E_lda; (apply tyT; apply rfl); apply rfl; (first | (apply at_; apply rfl; apply rfl) | (apply at_old; assumption) | (apply at_set; assumption)); apply rfl) | (apply E_ld; (apply tyT; apply rfl); apply rfl; (first | (apply at_; apply rfl; apply rfl) | (apply at_old; assumption) | (apply at_set; assumption)); apply rfl) | (apply E_lea; (apply tyT; apply rfl); apply rfl; (first | apply rfl | apply encEx_len | apply encSm_len)) | (apply E_le; (apply tyT; apply rfl); apply rfl; apply rfl) | (apply E_len; (apply elT; apply rfl); apply rfl; apply rfl) | (apply E_lens; (apply udT; apply rfl); apply rfl) | (apply E_ncp; apply rfl) | (apply E_nce; apply rfl) | (apply E_ncf; apply rfl) | (apply E_pkT; apply rfl; apply rfl) | (apply E_pkF; apply rfl; apply rfl) | (apply E_ex; apply rfl; apply rfl) | (apply E_not; apply rfl) | (apply E_bd; (apply plT; apply rfl); apply rfl) | (apply E_mf; apply rfl) | (apply E_cvt; apply rfl; (apply udT; apply rfl); (apply udT; apply rfl)) | (apply E_idx; (apply udT; apply rfl); apply rfl; apply rfl; omega) | (apply E_add64; apply rfl; apply rfl; apply rfl; omega) | (apply E_sub64; apply rfl; apply rfl; apply rfl; omega) | (apply E_add; apply rfl; apply rfl) | (apply E_sub; apply rfl; apply rfl) | (apply E_mul; apply rfl; apply rfl) | (apply E_max; apply rfl; apply rfl) | (apply E_min; apply rfl; apply rfl) | (apply E_and; apply rfl; apply rfl) | (apply E_or; apply rfl; apply rfl) | (apply E_shl; apply rfl; apply rfl; (first | decide | apply u64_nn | omega)) | (apply E_sls; (apply udT; apply rfl); apply rfl; apply rfl; apply rfl; (first | exact .inr ⟨_, _, rfl, by omega, rfl⟩ | exact .inl ⟨rfl, rfl⟩); (first | exact .inr ⟨_, _, rfl, by omega, rfl⟩ | exact .inl ⟨rfl, rfl⟩); (first | omega | (simp only [ByteArray.size_append, ByteArray.size_extract, size_mk, List.size_toArray, List.length_cons, List.length_nil, List.length_append] at *; omega)); (first | omega | (simp only [ByteArray.size_append, ByteArray.size_extract, size_mk, List.size_toArray, List.length_cons, List.length_nil, List.length_append] at *; omega))) | (apply E_cat; apply rfl; apply rfl; (first | omega | (simp only [ByteArray.size_append, ByteArray.size_extract, size_mk, List.size_toArray, List.length_cons, List.length_nil, List.length_append] at *; omega))))) | (apply Vp; apply rfl; apply rfl; apply fnT; apply rfl; apply h25; rintro _ rfl) | (apply Vp; apply rfl; apply rfl; apply fnT; apply rfl; apply call_wk; apply rfl; apply h25; rintro _ rfl) | (apply oP; apply rfl; apply rfl; apply rfl; apply fnT; apply rfl; apply h25; rintro _ rfl) | (apply oP; apply rfl; apply rfl; apply rfl; apply fnT; apply rfl; apply call_wk; apply rfl; apply h25; rintro _ rfl) | (apply Vp; apply rfl; apply rfl; apply fnT; apply rfl; apply h24; rintro _ rfl) | (apply Vp; apply rfl; apply rfl; apply fnT; apply rfl; apply call_wk; apply rfl; apply h24; rintro _ rfl) | (apply oP; apply rfl; apply rfl; apply rfl; apply fnT; apply rfl; apply h24; rintro _ rfl) | (apply oP; apply rfl; apply rfl; apply rfl; apply fnT; apply rfl; apply call_wk; apply rfl; apply h24; rintro _ rfl) | (apply Vp; apply rfl; apply rfl; apply fnT; apply rfl; apply h26; rintro _ rfl) | (apply Vp; apply rfl; apply rfl; apply fnT; apply rfl; apply call_wk; apply rfl; apply h26; rintro _ rfl) | (apply oP; apply rfl; apply rfl; apply rfl; apply fnT; apply rfl; apply h26; rintro _ rfl) | (apply oP; apply rfl; apply rfl; apply rfl; apply fnT; apply rfl; apply call_wk; apply rfl; apply h26; rintro _ rfl) | (apply Vd; apply rfl; (first | (apply E_lss; apply rfl; apply rfl) | (apply E_leq; apply rfl; apply rfl) | (apply E_gtr; apply rfl; apply rfl) | (apply E_geq; apply rfl; apply rfl) | (apply E_eql; apply rfl; apply rfl) | (apply E_neq; apply rfl; apply rfl) | (apply E_seql; apply rfl; apply rfl) | (apply E_sneq; apply rfl; apply rfl)); all_goals intro h_) | (apply Vo; apply rfl) | (apply Vw; apply rfl; (first | (apply W_alL; apply rfl; (apply tyT; apply rfl)) | (apply W_bxL; apply rfl; apply rfl; apply rfl) | (apply W_bsL; apply rfl; (apply elT; apply rfl); (apply tyT; apply rfl); apply rfl; decide; apply rfl; apply rfl))) | (apply Vs; apply rfl; (first | (apply W_stO2; (apply tyT; apply rfl); apply rfl; apply rfl; assumption; (apply okC_in; simp); apply rfl; apply rfl; (first | decide | (apply Nat.le_of_ble_eq_true; rfl))) | (apply W_stL; apply rfl; (apply tyT; apply rfl); apply rfl; apply rfl; apply rfl; (first | apply okC_new | (apply okC_ge; omega)); apply rfl; apply rfl; (first | decide | (apply Nat.le_of_ble_eq_true; rfl))) | (apply W_stO; (apply tyT; apply rfl); apply rfl; apply rfl; assumption; (apply okC_in; simp); apply rfl; apply rfl; (first | decide | (apply Nat.le_of_ble_eq_true; rfl))))) | (apply s_region; apply rfl) | apply tri_seq | (apply tri_region; apply rfl) | apply tri_block | apply tri_skip | apply tri_exit | apply tri_ret | (apply tri_condT; apply rfl) | (apply tri_condF; apply rfl) | (apply end_q _ (.inr rfl); (first | exact List.prefix_append _ _ | assumption | (apply pre_app; assumption) | (apply pre_app; apply pre_set <;> assumption) | exact List.prefix_refl _); (focus repeat (first | apply R_nil | (apply R_tmp; apply rfl) | (apply R_cell; apply rfl; apply rfl; apply tyT; apply rfl; apply rfl; apply rfl) | (apply R_cellO; apply rfl; apply tyT; apply rfl; assumption; apply rfl))); apply rfl) | (apply end_q _ (.inl rfl); (first | exact List.prefix_append _ _ | assumption | (apply pre_app; assumption) | (apply pre_app; apply pre_set <;> assumption) | exact List.prefix_refl _); (focus repeat (first | apply R_nil | (apply R_tmp; apply rfl) | (apply R_cell; apply rfl; apply rfl; apply tyT; apply rfl; apply rfl; apply rfl) | (apply R_cellO; apply rfl; apply tyT; apply rfl; assumption; apply rfl))); apply rfl) | (apply end_w _ (.inr rfl); (first | exact List.prefix_append _ _ | assumption | (apply pre_app; assumption) | (apply pre_app; apply pre_set <;> assumption) | exact List.prefix_refl _); (focus repeat (first | apply R_nil | (apply R_tmp; apply rfl) | (apply R_cell; apply rfl; apply rfl; apply tyT; apply rfl; apply rfl; apply rfl) | (apply R_cellO; apply rfl; apply tyT; apply rfl; assumption; apply rfl))); apply rfl; (first | (apply at_set; assumption) | (apply at_old; assumption)); apply rfl; apply rfl) | (apply end_w _ (.inl rfl); (first | exact List.prefix_append _ _ | assumption | (apply pre_app; assumption) | (apply pre_app; apply pre_set <;> assumption) | exact List.prefix_refl _); (focus repeat (first | apply R_nil | (apply R_tmp; apply rfl) | (apply R_cell; apply rfl; apply rfl; apply tyT; apply rfl; apply rfl; apply rfl) | (apply R_cellO; apply rfl; apply tyT; apply rfl; assumption; apply rfl))); apply rfl; (first | (apply at_set; assumption) | (apply at_old; assumption)); apply rfl; apply rfl) | apply p_then | apply p_in | apply p_inN | apply p_inR | apply p_thenR | (apply p_ne; apply rfl) | apply p_thenE | apply d_nil | (apply tV; apply rfl; apply rfl; (first | (apply E_mv; apply rfl) | (apply E_as; apply rfl) | (apply E_fa; (apply plT; apply rfl); apply rfl; apply rfl; decide) | (apply E_fe; (apply plT; apply rfl); apply rfl; apply rfl; decide) | (apply E_lda; (apply tyT; apply rfl); apply rfl; (first | (apply at_; apply rfl; apply rfl) | (apply at_old; assumption) | (apply at_set; assumption)); apply rfl) | (apply E_ld; (apply tyT; apply rfl); apply rfl; (first | (apply at_; apply rfl; apply rfl) | (apply at_old; assumption) | (apply at_set; assumption)); apply rfl) | (apply E_lea; (apply tyT; apply rfl); apply rfl; (first | apply rfl | apply encEx_len | apply encSm_len)) | (apply E_le; (apply tyT; apply rfl); apply rfl; apply rfl) | (apply E_len; (apply elT; apply rfl); apply rfl; apply rfl) | (apply E_lens; (apply udT; apply rfl); apply rfl) | (apply E_ncp; apply rfl) | (apply E_nce; apply rfl) | (apply E_ncf; apply rfl) | (apply E_pkT; apply rfl; apply rfl) | (apply E_pkF; apply rfl; apply rfl) | (apply E_ex; apply rfl; apply rfl) | (apply E_not; apply rfl) | (apply E_bd; (apply plT; apply rfl); apply rfl) | (apply E_mf; apply rfl) | (apply E_cvt; apply rfl; (apply udT; apply rfl); (apply udT; apply rfl)) | (apply E_idx; (apply udT; apply rfl); apply rfl; apply rfl; omega) | (apply E_add64; apply rfl; apply rfl; apply rfl; omega) | (apply E_sub64; apply rfl; apply rfl; apply rfl; omega) | (apply E_add; apply rfl; apply rfl) | (apply E_sub; apply rfl; apply rfl) | (apply E_mul; apply rfl; apply rfl) | (apply E_max; apply rfl; apply rfl) | (apply E_min; apply rfl; apply rfl) | (apply E_and; apply rfl; apply rfl) | (apply E_or; apply rfl; apply rfl) | (apply E_shl; apply rfl; apply rfl; (first | decide | apply u64_nn | omega)) | (apply E_sls; (apply udT; apply rfl); apply rfl; apply rfl; apply rfl; (first | exact .inr ⟨_, _, rfl, by omega, rfl⟩ | exact .inl ⟨rfl, rfl⟩); (first | exact .inr ⟨_, _, rfl, by omega, rfl⟩ | exact .inl ⟨rfl, rfl⟩); (first | omega | (simp only [ByteArray.size_append, ByteArray.size_extract, size_mk, List.size_toArray, List.length_cons, List.length_nil, List.length_append] at *; omega)); (first | omega | (simp only [ByteArray.size_append, ByteArray.size_extract, size_mk, List.size_toArray, List.length_cons, List.length_nil, List.length_append] at *; omega))) | (apply E_cat; apply rfl; apply rfl; (first | omega | (simp only [ByteArray.size_append, ByteArray.size_extract, size_mk, List.size_toArray, List.length_cons, List.length_nil, List.length_append] at *; omega)))); apply rfl) | (apply tVd; apply rfl; apply rfl; (first | (apply E_lss; apply rfl; apply rfl) | (apply E_leq; apply rfl; apply rfl) | (apply E_gtr; apply rfl; apply rfl) | (apply E_geq; apply rfl; apply rfl) | (apply E_eql; apply rfl; apply rfl) | (apply E_neq; apply rfl; apply rfl) | (apply E_seql; apply rfl; apply rfl) | (apply E_sneq; apply rfl; apply rfl)); apply rfl; all_goals intro h_) | (apply tVo; apply rfl; apply rfl) | (apply oV; apply rfl; apply rfl; (first | (apply E_mv; apply rfl) | (apply E_as; apply rfl) | (apply E_fa; (apply plT; apply rfl); apply rfl; apply rfl; decide) | (apply E_fe; (apply plT; apply rfl); apply rfl; apply rfl; decide) | (apply E_lda; (apply tyT; apply rfl); apply rfl; (first | (apply at_; apply rfl; apply rfl) | (apply at_old; assumption) | (apply at_set; assumption)); apply rfl) | (apply E_ld; (apply tyT; apply rfl); apply rfl; (first | (apply at_; apply rfl; apply rfl) | (apply at_old; assumption) | (apply at_set; assumption)); apply rfl) | (apply E_lea; (apply tyT; apply rfl); apply rfl; (first | apply rfl | apply encEx_len | apply encSm_len)) | (apply E_le; (apply tyT; apply rfl); apply rfl; apply rfl) | (apply E_len; (apply elT; apply rfl); apply rfl; apply rfl) | (apply E_lens; (apply udT; apply rfl); apply rfl) | (apply E_ncp; apply rfl) | (apply E_nce; apply rfl) | (apply E_ncf; apply rfl) | (apply E_pkT; apply rfl; apply rfl) | (apply E_pkF; apply rfl; apply rfl) | (apply E_ex; apply rfl; apply rfl) | (apply E_not; apply rfl) | (apply E_bd; (apply plT; apply rfl); apply rfl) | (apply E_mf; apply rfl) | (apply E_cvt; apply rfl; (apply udT; apply rfl); (apply udT; apply rfl)) | (apply E_idx; (apply udT; apply rfl); apply rfl; apply rfl; omega) | (apply E_add64; apply rfl; apply rfl; apply rfl; omega) | (apply E_sub64; apply rfl; apply rfl; apply rfl; omega) | (apply E_add; apply rfl; apply rfl) | (apply E_sub; apply rfl; apply rfl) | (apply E_mul; apply rfl; apply rfl) | (apply E_max; apply rfl; apply rfl) | (apply E_min; apply rfl; apply rfl) | (apply E_and; apply rfl; apply rfl) | (apply E_or; apply rfl; apply rfl) | (apply E_shl; apply rfl; apply rfl; (first | decide | apply u64_nn | omega)) | (apply E_sls; (apply udT; apply rfl); apply rfl; apply rfl; apply rfl; (first | exact .inr ⟨_, _, rfl, by omega, rfl⟩ | exact .inl ⟨rfl, rfl⟩); (first | exact .inr ⟨_, _, rfl, by omega, rfl⟩ | exact .inl ⟨rfl, rfl⟩); (first | omega | (simp only [ByteArray.size_append, ByteArray.size_extract, size_mk, List.size_toArray, List.length_cons, List.length_nil, List.length_append] at *; omega)); (first | omega | (simp only [ByteArray.size_append, ByteArray.size_extract, size_mk, List.size_toArray, List.length_cons, List.length_nil, List.length_append] at *; omega))) | (apply E_cat; apply rfl; apply rfl; (first | omega | (simp only [ByteArray.size_append, ByteArray.size_extract, size_mk, List.size_toArray, List.length_cons, List.length_nil, List.length_append] at *; omega))))) | (apply oVd; apply rfl; apply rfl; (first | (apply E_lss; apply rfl; apply rfl) | (apply E_leq; apply rfl; apply rfl) | (apply E_gtr; apply rfl; apply rfl) | (apply E_geq; apply rfl; apply rfl) | (apply E_eql; apply rfl; apply rfl) | (apply E_neq; apply rfl; apply rfl) | (apply E_seql; apply rfl; apply rfl) | (apply E_sneq; apply rfl; apply rfl)); all_goals intro h_) | (apply oVo; apply rfl; apply rfl) | (apply oW; apply rfl; apply rfl; (first | (apply W_alL; apply rfl; (apply tyT; apply rfl)) | (apply W_bxL; apply rfl; apply rfl; apply rfl) | (apply W_bsL; apply rfl; (apply elT; apply rfl); (apply tyT; apply rfl); apply rfl; decide; apply rfl; apply rfl))) | (apply oS; apply rfl; apply rfl; (first | (apply W_stO2; (apply tyT; apply rfl); apply rfl; apply rfl; assumption; (apply okD_in <;> simp); apply rfl; apply rfl; (first | decide | (apply Nat.le_of_ble_eq_true; rfl))) | (apply W_stL; apply rfl; (apply tyT; apply rfl); apply rfl; apply rfl; apply rfl; (first | (apply okD_new; apply rfl) | (apply okD_ge; omega; apply rfl)); apply rfl; apply rfl; (first | decide | (apply Nat.le_of_ble_eq_true; rfl))) | (apply W_stO; (apply tyT; apply rfl); apply rfl; apply rfl; assumption; (apply okD_in <;> simp); apply rfl; apply rfl; (first | decide | (apply Nat.le_of_ble_eq_true; rfl))))) | (exfalso; omega))
  all_goals first | rfl | contradiction | (exfalso; omega)
end Go.Proofs.YtinffhimfoicdaaGreat

/- A calculus over the model's wp rules, part 23: plain structs held against one another; a fresh box of a call gets the right to append; calls that write one new map. No conditions. -/
namespace Go.Proofs.YtinffhimfoicdaaGreat.Calc
open Go Go.RowKit
set_option linter.unusedVariables false
section
variable {P : Program} {ok okm : Nat → Bool} {o : Oper} {ρ : Rg} {st : St} {Q : Rg → St → Prop} {x y : Operand}
theorem opR_bin {f : BinOp} {t ty : Nat} {a b : Value} {br : BV} (ho : o.op = .binOp f t x y ty) (hx : (evB ρ x).bind keyB = some a) (hy : (evB ρ y).bind keyB = some b) (hv : (quiet P (do eqGuard f t x y a b; binOp f t a b)).bind constB = some br) (hq : Q (updO ρ o.dst br) st) : OpR P ok okm o ρ st Q := by
  intro nt z c Kx h1 h2 h3 h4
  subst h1
  obtain ⟨bx, hx1, hx2⟩ := Option.bind_eq_some_iff.1 hx
  have hax := keyB_rep (h3.ev hx1) hx2
  obtain ⟨by', hy1, hy2⟩ := Option.bind_eq_some_iff.1 hy
  have hay := keyB_rep (h3.ev hy1) hy2
  obtain ⟨v, hv, hb⟩ := quietB (x := z) hv
  have hrun : (execOp c.eval o).run P z.w = .ok (.value v) z.w := by
    obtain ⟨dst, op, type, pos, after, guard⟩ := o
    subst ho
    rw [show (execOp c.eval { dst := dst, op := .binOp f t x y ty, type := type, pos := pos, after := after, guard := guard }) = (do let z ← (do eqGuard f t x y (c.eval x) (c.eval y); binOp f t (c.eval x) (c.eval y)); pure (.value z)) from rfl, hax, hay, Sem.run_bind, hv]
    simp
  unfold Oper.wp
  rw [hrun]
  exact ⟨_, z, [], [], rfl, hq, h2, Step.refl _ _ _, by simp, by simp, h3.put h4 hb⟩
end
theorem run_bs0 {P : Program} {w : World} {t e : Nat} {i : TypeInfo} (ht : P.underlying t = some (.slice e)) (hi : P.info? e = some i) : (Instr.buildSlice t 0 #[]).run P w = .ok (.slice (some ⟨w.heap.size, 0, none⟩) 0 0) (w.alloc (.cells #[] e)) := by
  have h2 : ¬ 0 * i.size > 2 ^ 24 := by omega
  have h1 : 0 * i.size = 0 := Nat.zero_mul _
  simp [Instr.buildSlice, run_und ht, run_size hi, Instr.fill, newRow]
  have e0 : ∀ f : Nat → Value, Array.map f (Array.range 0) = #[] := fun f => Array.eq_empty_of_size_eq_zero (by simp)
  rw [e0]
/-- An empty list that is made. -/
theorem opR_bs0 {P : Program} {ok okm : Nat → Bool} {o : Oper} {ρ : Rg} {S : List (List BV × Nat)} {T X : List Nat} {M : List (List (Value × DV))} {Q : Rg → St → Prop} {t e sz nt : Nat} (ho : o.op = .buildSlice t 0 #[]) (hT : T.length = nt) (he : elOf P t = some (e, sz))
    (hq : Q (updO ρ o.dst (.own e sz (nt + X.length) [] 0)) ⟨S, T ++ (X ++ [0]), M⟩) : OpR P ok okm o ρ ⟨S, T ++ X, M⟩ Q := by
  intro nt' y a Kx h1 h2 h3 h4
  obtain ⟨g1, ti, g2, g3⟩ := elOf_some he
  have hgr := alloc_grown y.w (.cells #[] e)
  have hrun : (execOp a.eval o).run P y.w = .ok (.value (.slice (some ⟨y.w.heap.size, 0, none⟩) 0 0)) (y.w.alloc (.cells #[] e)) := by
    obtain ⟨dst, op, type, pos, after, guard⟩ := o
    subst ho
    simp [execOp, run_bs0 g1 g2]
  unfold Oper.wp
  rw [hrun]
  have hrep := row_rep (x := y) (cur := #[]) (e := e) (sz := sz) (n := 0) (cap := 0) (ds := []) (vs := []) h2 hgr rfl .nil (by simp) (by simp) (Nat.le_refl _) (Nat.zero_le _) (by simp)
  refine ⟨_, rowed y _ 0, [], [], rfl, ?_, row_good h2 hgr, row_step h2 hgr, by simp, by simp, (h3.step (row_step h2 hgr)).put h4 hrep⟩
  have e1 : y.st.T.length = nt + X.length := by rw [h1, ← hT]; exact List.length_append
  rw [e1]
  have e2 : ∀ w', (rowed y w' 0).st = ⟨S, T ++ (X ++ [0]), M⟩ := fun w' => by
    show (⟨y.st.S, y.st.T ++ [0], y.st.M⟩ : St) = _
    rw [h1, List.append_assoc]
  rw [e2]
  exact hq
theorem call_ownBox {P : Program} {Wr Wm : List Nat} {f : Nat} {args : List BV} {st : St} {Q : BV → St → Prop} (e sz : Nat)
    (h : CallT P Wr Wm f args st (fun r s => ∃ id cs ty j, s.S[id]? = some (cs, ty) ∧ cs[j]? = some (.tight [] 0) ∧ Q r ⟨s.S.set id (cs.set j (.own e sz s.T.length [] 0), ty), s.T ++ [0], s.M⟩)) : CallT P Wr Wm f args st Q := by
  intro x vs h1 h2 h3
  refine (h x vs h1 h2 h3).mono fun ex w' ⟨r, v, z, e1, ⟨id, cs, ty, j, q1, q2, q3⟩, hv, hg, hs, hw⟩ => ?_
  have g1 := tagged_good hg
  have hid1 : (tagged z).st.S[id]? = some (cs, ty) := q1
  have g2 : Good (boxSet (tagged z) id (cs.set j (.own e sz z.st.T.length [] 0), ty)) := boxSet_good g1 hid1 fun vs hvs => by
    refine hvs.setAt fun v hv => ?_
    obtain ⟨w, hw1, hw2⟩ := hvs.get q2
    obtain rfl := Option.some.inj (hv.symm.trans hw1)
    cases hw2 with
    | tight _ _ base hb => exact .own e sz _ [] 0 0 _ hb (by simp [tagged]) (Nat.le_refl _) (fun _ => .inr ⟨by simp [tagged], rfl, rfl, base, rfl⟩)
  have hst := (tagged_step z).trans (boxSet_le (tagged z) id (cs.set j (.own e sz z.st.T.length [] 0), ty))
  exact ⟨r, v, _, e1, q3, hv.mono hst, g2, hs.trans' hst (fun i hi _ => by cases hi) (fun i hi _ => by cases hi), hw⟩
section
variable {C : Cx} {ops : Array Oper} {l : List Oper} {ρ : Rg} {st : St} {Q : Rg → St → Prop} {dst : Option Nat} {op : Op} {ty : Nat} {pos : String} {aft : Array Edge} {g : Option (Nat × Bool)} {Wr ds : List Nat} {p : Plan} {i : Nat}
theorem VcM {c : Call} {f : Nat} {ars : List BV} {R : BV → St → Prop} (hg : gB ops ρ g = some true) (hc : callB ρ c = some (f, ars)) (hf : fnOK C.P f = true) (h : ∃ m, C.nm ≤ m ∧ CallT C.P [] [m] f ars st R)
    (k : ∀ r st', R r st' → TriL C ops l (updO ρ dst r) st' Q) : TriL C ops (⟨dst, .call c, ty, pos, aft, g⟩ :: l) ρ st Q := by
  obtain ⟨m, hm, h⟩ := h
  exact Vc hg hc hf h (by simp) (fun i hi _ => by obtain rfl := List.mem_singleton.1 hi; simp [okM, hm]) k
theorem oCM {c : Call} {f : Nat} {ars : List BV} {R : BV → St → Prop} (ho : ops[i]? = some ⟨dst, .call c, ty, pos, aft, g⟩) (hg : gB ops ρ g = some true) (hc : callB ρ c = some (f, ars)) (hf : fnOK C.P f = true) (h : ∃ m, C.nm ≤ m ∧ CallT C.P [] [m] f ars st R)
    (k : ∀ r st', R r st' → TriP C ops Wr ds p (updO ρ dst r) st' Q) : TriP C ops Wr ds (.one i p) ρ st Q := by
  obtain ⟨m, hm, h⟩ := h
  exact oC ho hg hc hf h (by simp) (fun i hi _ => by obtain rfl := List.mem_singleton.1 hi; simp [okM, hm]) k
end
theorem E_fdv {P : Program} {st : St} {ρ : Rg} {x : Operand} {t f u off sz : Nat} {ag : Bool} {z l : List BV} {b : BV} (hx : evB ρ x = some (.agg l)) (hf : fdOf P t f = some (u, off)) (ht : tyOf P u = some (ag, sz, z)) (hp : part ag sz off l = some b) : stepV P st ρ (.field t x f) = some b := by
  simp only [stepV, hx, hf, ht, hp]
end Go.Proofs.YtinffhimfoicdaaGreat.Calc

/- The heap of the closed program: what its functions leave. No conditions. -/
namespace Go.Proofs.YtinffhimfoicdaaGreat
open Go Go.RowKit Go.Proofs.YtinffhimfoicdaaGreat.Calc
set_option linter.unusedVariables false
set_option linter.unusedSimpArgs false
set_option maxRecDepth 100000
set_option maxHeartbeats 8000000
attribute [local irreducible] Tri TriL TriP CallT stepV stepW thenQ inQ endQ endN

abbrev vNo : BV := .d (.flat (.pointer none))
theorem q28 (x y : Operand) : (quiet Tryz.prog (do eqGuard .eql 28 x y (.pointer none) (.pointer none); binOp .eql 28 (.pointer none) (.pointer none))).bind constB = some (vB true) := by kernel_rfl
theorem q39a (x y : Operand) : (quiet Tryz.prog (do eqGuard .eql 39 x y (.agg #[.int .i64 4, .int .i32 1, .string ⟨#[]⟩]) (.agg #[.int .i64 4, .int .i32 1, .string ⟨#[]⟩]); binOp .eql 39 (.agg #[.int .i64 4, .int .i32 1, .string ⟨#[]⟩]) (.agg #[.int .i64 4, .int .i32 1, .string ⟨#[]⟩]))).bind constB = some (vB true) := by kernel_rfl
theorem q39b (x y : Operand) : (quiet Tryz.prog (do eqGuard .eql 39 x y (.agg #[.int .i64 1, .int .i32 0, .string ⟨#[]⟩]) (.agg #[.int .i64 1, .int .i32 0, .string ⟨#[]⟩]); binOp .eql 39 (.agg #[.int .i64 1, .int .i32 0, .string ⟨#[]⟩]) (.agg #[.int .i64 1, .int .i32 0, .string ⟨#[]⟩]))).bind constB = some (vB true) := by kernel_rfl
theorem q39c (x y : Operand) : (quiet Tryz.prog (do eqGuard .eql 39 x y (.agg #[.int .i64 4, .int .i32 0, .string ⟨#[]⟩]) (.agg #[.int .i64 4, .int .i32 0, .string ⟨#[]⟩]); binOp .eql 39 (.agg #[.int .i64 4, .int .i32 0, .string ⟨#[]⟩]) (.agg #[.int .i64 4, .int .i32 0, .string ⟨#[]⟩]))).bind constB = some (vB true) := by kernel_rfl
theorem fd39 : fdOf Tryz.prog 39 1 = some (21, 1) := by kernel_rfl

theorem E_eqT {P : Program} {st : St} {ρ : Rg} {x y : Operand} {t ty : Nat} {k : IntKind} {a : Int} (hx : fl ρ x = some (.int k a)) (hy : fl ρ y = some (.int k a)) : stepV P st ρ (.binOp .eql t x y ty) = some (vB true) := by
  rw [E_eql hx hy, decide_eq_true rfl]
theorem E_seqT {P : Program} {st : St} {ρ : Rg} {x y : Operand} {t ty : Nat} {a : ByteArray} (hx : fl ρ x = some (.string a)) (hy : fl ρ y = some (.string a)) : stepV P st ρ (.binOp .eql t x y ty) = some (vB true) := by
  rw [E_seql hx hy, decide_eq_true rfl]
-- nobody
theorem sp19n : PC 19 [vNo] (fun r => r = vI 0) := by
  intro S T M
  refine callT_go [] [] Tryz.func19 rfl Tryz.ntmps19 Tryz.results19 ?_
  repeat' (first | apply triL_nil | (apply V; apply rfl; (first | (apply E_mv; apply rfl) | (apply E_as; apply rfl))) | (apply VR; apply rfl; apply opR_bin; apply rfl; apply rfl; apply rfl; exact q28 _ _) | (apply s_region; apply rfl) | apply tri_seq | apply tri_ret | (apply tri_condT; apply rfl) | (apply end_q _ (.inr rfl); (exact List.prefix_append _ _); (focus repeat (first | apply R_nil | (apply R_tmp; apply rfl))); apply rfl) | apply p_thenR)
  rfl
theorem sp11n (c : ByteArray) : PC 11 [vNo, vS c] (fun r => r = .tup [vVl vl0, vB false]) := by
  intro S T M
  refine callT_go [] [] Tryz.func11 rfl Tryz.ntmps11 Tryz.results11 ?_
  repeat' (first | apply triL_nil | (apply V; apply rfl; (first | (apply E_mv; apply rfl) | (apply E_as; apply rfl) | (apply E_pkT; apply rfl; apply rfl) | (apply E_bd; (apply plT; apply rfl); apply rfl))) | (apply VR; apply rfl; apply opR_bin; apply rfl; apply rfl; apply rfl; exact q28 _ _) | (apply Vo; apply rfl) | (apply Vw; apply rfl; (apply W_alL; apply rfl; (apply tyT; apply rfl))) | (apply Vs; apply rfl; (apply W_stL; apply rfl; (apply tyT; apply rfl); apply rfl; apply rfl; apply rfl; (first | apply okC_new | (apply okC_ge; omega)); apply rfl; apply rfl; (first | decide | (apply Nat.le_of_ble_eq_true; rfl)))) | (apply s_region; apply rfl) | apply tri_seq | apply tri_ret | (apply tri_condT; apply rfl) | (apply end_q _ (.inr rfl); (exact List.prefix_append _ _); (focus repeat (first | apply R_nil | (apply R_tmp; apply rfl) | (apply R_cell; apply rfl; apply rfl; apply tyT; apply rfl; apply rfl; apply rfl))); apply rfl) | apply p_thenR)
  rfl

theorem pre_appA {α : Type} {A B C : List α} (h : A <+: B) : A <+: B ++ C := h.trans (List.prefix_append _ _)
theorem pre_setA {α : Type} {A B : List α} (h : A <+: B) {i : Nat} {x : α} (hi : A.length ≤ i) : A <+: B.set i x := by
  obtain ⟨X, hX⟩ := h
  subst hX
  rw [List.set_append_right _ _ hi]
  exact List.prefix_append _ _
theorem upd_same (tb : Nat → Tbl) (i : Nat) (t : Tbl) : (fun j => if j = i then t else tb j) i = t := if_pos rfl
/-- A heap stands where: the box, the tags, the maps. -/
structure Hp (nb : Nat) (T0 : List Nat) (M0 : List (List (Value × DV))) (id sid tg : Nat) (l : List (ByteArray × Nat)) (ts : Tbl) (tb : Nat → Tbl) (S : List (List BV × Nat)) (T : List Nat) (M : List (List (Value × DV))) : Prop where
  ge : nb ≤ id
  box : T0.length ≤ tg ∧ S[id]? = some ([.d (encL encCl P0), .own 79 2 tg (l.flatMap encOb) l.length, .d (.map sid)], 73) ∧ T[tg]? = some (l.flatMap encOb).length
  pre : T0 <+: T
  preM : M0 <+: M
  sge : M0.length ≤ sid
  st : M[sid]? = some (encM ts)
  ok : OKM ts
  ob : ∀ (i : Nat) (o : ByteArray × Nat), l[i]? = some o → o.1 = cB ∧ sid < o.2 ∧ M[o.2]? = some (encM (tb i)) ∧ OKM (tb i)
  dist : ∀ (i j : Nat) (o o' : ByteArray × Nat), l[i]? = some o → l[j]? = some o' → o.2 = o'.2 → i = j
  len : l.length ≤ 200
section
variable {nb id sid tg : Nat} {T0 : List Nat} {M0 : List (List (Value × DV))} {l : List (ByteArray × Nat)} {ts : Tbl} {tb : Nat → Tbl} {S : List (List BV × Nat)} {T : List Nat} {M : List (List (Value × DV))}
theorem Hp.more (h : Hp nb T0 M0 id sid tg l ts tb S T M) (L : List (List BV × Nat)) (X : List Nat) : Hp nb T0 M0 id sid tg l ts tb (S ++ L) (T ++ X) M := by
  obtain ⟨h1, h2, h3⟩ := h.box
  exact { h with
    box := ⟨h1, at_old h2, by rw [List.getElem?_append_left (List.getElem?_eq_some_iff.1 h3).1]; exact h3⟩
    pre := pre_app h.pre }
theorem Hp.setT (h : Hp nb T0 M0 id sid tg l ts tb S T M) {t n : Nat} (ht : t ≠ tg) (h0 : T0.length ≤ t) : Hp nb T0 M0 id sid tg l ts tb S (T.set t n) M := by
  obtain ⟨h1, h2, h3⟩ := h.box
  exact { h with
    box := ⟨h1, h2, by rw [List.getElem?_set_ne ht]; exact h3⟩
    pre := pre_set h.pre h0 }
theorem Hp.moreM (h : Hp nb T0 M0 id sid tg l ts tb S T M) (N : List (List (Value × DV))) : Hp nb T0 M0 id sid tg l ts tb S T (M ++ N) := by
  have q : ∀ {i : Nat} {x : List (Value × DV)}, M[i]? = some x → (M ++ N)[i]? = some x := fun hx => by
    rw [List.getElem?_append_left (List.getElem?_eq_some_iff.1 hx).1]
    exact hx
  exact { h with
    preM := pre_appA h.preM
    st := q h.st
    ob := fun i o ho => ⟨(h.ob i o ho).1, (h.ob i o ho).2.1, q (h.ob i o ho).2.2.1, (h.ob i o ho).2.2.2⟩ }
theorem okM_tS : OKM tS := by
  refine ⟨by decide +kernel, fun p hp => ?_⟩
  simp only [tS, List.mem_cons, List.not_mem_nil, or_false] at hp
  rcases hp with rfl | rfl
  · exact okT_of (c := cA) (k := 1) (by decide) (by decide)
  · exact okT_of (c := cT) (k := 0) (by decide) (by decide)
theorem okM_tB : OKM tB := by
  refine ⟨by decide +kernel, fun p hp => ?_⟩
  simp only [tB, List.mem_cons, List.not_mem_nil, or_false] at hp
  rcases hp with rfl | rfl | rfl | rfl | rfl | rfl
  · exact okT_of (c := cB) (k := 0) (by decide) (by decide)
  · exact okT_of (c := cB) (k := 1) (by decide) (by decide)
  · exact okT_of (c := cB) (k := 2) (by decide) (by decide)
  · exact okT_of (c := cA) (k := 0) (by decide) (by decide)
  · exact okT_of (c := cA) (k := 2) (by decide) (by decide)
  · exact okT_of (c := cA) (k := 3) (by decide) (by decide)
theorem new_p (nb : Nat) (T0 : List Nat) (M0 : List (List (Value × DV))) (S : List (List BV × Nat)) (T : List Nat) (M : List (List (Value × DV))) (h1 : nb ≤ S.length) (h2 : T0 <+: T) (h3 : M0 <+: M) :
    CallT Tryz.prog [] [] 8 [vP P0] ⟨S, T, M⟩ (fun r s => ∃ S1 T1 M1 id sid tg, r = .ptr id 0 ∧ s = ⟨S1 ++ [], T1 ++ [], M1⟩ ∧ nb ≤ S1.length ∧ Hp nb T0 M0 id sid tg [] tS (fun _ => tB) S1 T1 M1) := by
  refine call_ownBox 79 2 (call_mono (sp8_good P0 P0_small P0_named P0_check S T M) fun r s ⟨hr, hs⟩ => ?_)
  subst hr hs
  have e1 : (S ++ [([BV.d (encL encCl P0)], 26), ([.d (encL encCl P0), .tight [] 0, .d (.map M.length)], 73)])[S.length + 1]? = some ([.d (encL encCl P0), .tight [] 0, .d (.map M.length)], 73) := at_ rfl rfl
  have hlt := (List.getElem?_eq_some_iff.1 e1).1
  refine ⟨S.length + 1, _, _, 1, e1, rfl, _, _, _, S.length + 1, M.length, T.length, rfl, by simp only [List.append_nil]; rfl, ?_, ?_⟩
  · simp only [List.length_set, List.length_append]; omega
  · refine ⟨by omega, ⟨h2.length_le, by rw [List.getElem?_set_self hlt]; rfl, by simp⟩, pre_app h2, pre_appA h3, h3.length_le, ?_, okM_tS, nofun, nofun, by simp⟩
    rw [P0_stat]
    simp
theorem make_p (h : Hp nb T0 M0 id sid tg l ts tb S T M) (hl : l.length < 200) (hS : nb ≤ S.length) : CallT Tryz.prog [id] [] 11 [.ptr id 0, vS cB] ⟨S, T, M⟩ (fun r s => r = .tup [vVl ⟨4, (l.length : Int) + 1, ⟨#[]⟩⟩, vB true] ∧
    ∃ S1 T1 M1 o, s = ⟨S1 ++ [], T1 ++ [], M1⟩ ∧ S1.length = S.length ∧ (∀ t, t ≠ tg → T1[t]? = T[t]?) ∧ T1.length = T.length ∧ Hp nb T0 M0 id sid tg (l ++ [o]) ts (fun j => if j = l.length then tB else tb j) S1 T1 M1) := by
  obtain ⟨h1, h2, h3⟩ := h.box
  refine call_mono (sp11_good P0 P0_small tg sid l cB hl P0_B (fun c hc => ?_) S T M id h2 h3) fun r s ⟨hr, hs⟩ => ⟨hr, ?_⟩
  · rw [P0_ch] at hc
    simp only [List.mem_cons, List.not_mem_nil, or_false] at hc
    rcases hc with rfl | rfl <;> decide
  · rw [P0_ch, P0_inst] at hs
    have htl := (List.getElem?_eq_some_iff.1 h3).1
    have hil := (List.getElem?_eq_some_iff.1 h2).1
    have hsl := (List.getElem?_eq_some_iff.1 h.st).1
    have q : ∀ {i : Nat} {x : List (Value × DV)}, M[i]? = some x → (M ++ [encM tB])[i]? = some x := fun hx => by
      rw [List.getElem?_append_left (List.getElem?_eq_some_iff.1 hx).1]
      exact hx
    refine ⟨_, _, _, (cB, M.length), by rw [hs, List.append_nil, List.append_nil], by simp, fun t ht => by rw [List.getElem?_set_ne (fun e => ht e.symm)], by simp, h.ge, ⟨h1, List.getElem?_set_self hil, List.getElem?_set_self htl⟩, ?_, pre_appA h.preM, h.sge, q h.st, h.ok, ?_, ?_, by simp only [List.length_append, List.length_cons, List.length_nil]; omega⟩
    · obtain ⟨X, hX⟩ := h.pre
      subst hX
      rw [List.set_append_right _ _ h1]
      exact List.prefix_append _ _
    · intro i o ho
      by_cases hi : i < l.length
      · rw [List.getElem?_append_left hi] at ho
        obtain ⟨a, b, c, d⟩ := h.ob i o ho
        have e : (if i = l.length then tB else tb i) = tb i := if_neg (by omega)
        try dsimp only
        rw [e]
        exact ⟨a, b, q c, d⟩
      · have hi' := (List.getElem?_eq_some_iff.1 ho).1
        simp only [List.length_append, List.length_cons, List.length_nil] at hi'
        obtain rfl : i = l.length := by omega
        have : o = (cB, M.length) := by simpa using ho.symm
        subst this
        dsimp only
        rw [if_pos rfl]
        exact ⟨rfl, hsl, by simp, okM_tB⟩
    · intro i j o o' ho ho' e
      have key : ∀ {i j : Nat} {o o' : ByteArray × Nat}, (l ++ [(cB, M.length)])[i]? = some o → (l ++ [(cB, M.length)])[j]? = some o' → o.2 = o'.2 → i < l.length → i = j := fun {i j o o'} ho ho' e hi => by
        rw [List.getElem?_append_left hi] at ho
        have hlt := (List.getElem?_eq_some_iff.1 (h.ob i o ho).2.2.1).1
        by_cases hj : j < l.length
        · rw [List.getElem?_append_left hj] at ho'
          exact h.dist i j o o' ho ho' e
        · have hj' := (List.getElem?_eq_some_iff.1 ho').1
          simp only [List.length_append, List.length_cons, List.length_nil] at hj'
          obtain rfl : j = l.length := by omega
          have : o' = (cB, M.length) := by simpa using ho'.symm
          subst this
          dsimp only at e
          omega
      by_cases hi : i < l.length
      · exact key ho ho' e hi
      · by_cases hj : j < l.length
        · exact (key ho' ho e.symm hj).symm
        · have hi' := (List.getElem?_eq_some_iff.1 ho).1
          have hj' := (List.getElem?_eq_some_iff.1 ho').1
          simp only [List.length_append, List.length_cons, List.length_nil] at hi' hj'
          omega
section
variable (L : List (List BV × Nat)) (X : List Nat)
theorem make_no (h : Hp nb T0 M0 id sid tg l ts tb S T M) (c : ByteArray) (hc : l.length = 200 ∨ isC P0 c = false) : CallT Tryz.prog [] [] 11 [.ptr id 0, vS c] ⟨S ++ L, T ++ X, M⟩ (fun r s => s = ⟨S ++ L, T ++ X, M⟩ ∧ r = .tup [vVl vl0, vB false]) := by
  obtain ⟨h1, h2, h3⟩ := h.box
  exact sp11_bad P0 (by decide) tg sid l c (by have := h.len; omega) hc _ _ M id (at_old h2)
theorem len_p (h : Hp nb T0 M0 id sid tg l ts tb S T M) : CallT Tryz.prog [] [] 19 [.ptr id 0] ⟨S ++ L, T ++ X, M⟩ (fun r s => s = ⟨S ++ L, T ++ X, M⟩ ∧ r = vI l.length) := by
  obtain ⟨h1, h2, h3⟩ := h.box
  exact sp19 P0 tg sid l _ _ M id (at_old h2)
theorem class_p (h : Hp nb T0 M0 id sid tg l ts tb S T M) (v : Vl) (hv : okV v) : CallT Tryz.prog [] [] 17 [.ptr id 0, vVl v] ⟨S ++ L, T ++ X, M⟩ (fun r s => s = ⟨S ++ L, T ++ X, M⟩ ∧ r = vS (clOf l v)) := by
  obtain ⟨h1, h2, h3⟩ := h.box
  exact sp17 P0 tg sid l v hv (by have := h.len; omega) _ _ M id (at_old h2)
end
/-- The value of an object. -/
def obV (i : Nat) : Vl := ⟨4, (i : Int) + 1, ⟨#[]⟩⟩
theorem mp_ob {o : ByteArray × Nat} {i : Nat} (ho : l[i]? = some o) : obOf l (obV i) = some o ∧ mpOf sid l (obV i) = some o.2 := by
  have e : obOf l (obV i) = some o := by
    unfold obOf obV
    rw [if_pos rfl]
    dsimp only
    rw [if_neg (by omega), show ((i : Int) + 1 - 1).toNat = i by omega]
    exact ho
  refine ⟨e, ?_⟩
  unfold mpOf
  rw [if_neg (by simp [obV]), e]
  rfl
theorem okV_ob {i : Nat} (hi : i < 1000) : okV (obV i) := by
  unfold okV obV
  dsimp only
  omega
theorem Hp.set (h : Hp nb T0 M0 id sid tg l ts tb S T M) {i : Nat} {o : ByteArray × Nat} (ho : l[i]? = some o) {k : Tg} (hk : okT k) (w : Vl) : Hp nb T0 M0 id sid tg l ts (fun j => if j = i then putT (tb i) k w else tb j) S T (M.set o.2 (encM (putT (tb i) k w))) := by
  obtain ⟨a, b, c, d⟩ := h.ob i _ ho
  exact { h with
    preM := pre_setA h.preM (by have := h.sge; omega)
    st := by
      rw [List.getElem?_set_ne (by omega)]
      exact h.st
    ob := by
      intro j o' hj
      obtain ⟨a', b', c', d'⟩ := h.ob j o' hj
      by_cases e : j = i
      · subst e
        obtain rfl := Option.some.inj (ho.symm.trans hj)
        try dsimp only
        rw [if_pos rfl]
        exact ⟨a', b', List.getElem?_set_self (List.getElem?_eq_some_iff.1 c).1, d'.put hk _⟩
      · try dsimp only
        rw [if_neg e]
        refine ⟨a', b', ?_, d'⟩
        rw [List.getElem?_set_ne (fun e2 => e (h.dist j i o' _ hj ho e2.symm))]
        exact c' }
theorem Hp.setS (h : Hp nb T0 M0 id sid tg l ts tb S T M) {k : Tg} (hk : okT k) (w : Vl) : Hp nb T0 M0 id sid tg l (putT ts k w) tb S T (M.set sid (encM (putT ts k w))) :=
  { h with
    preM := pre_setA h.preM h.sge
    st := List.getElem?_set_self (List.getElem?_eq_some_iff.1 h.st).1
    ok := h.ok.put hk _
    ob := by
      intro j o hj
      obtain ⟨a', b', c', d'⟩ := h.ob j o hj
      refine ⟨a', b', ?_, d'⟩
      rw [List.getElem?_set_ne (by omega)]
      exact c' }
section
variable (L : List (List BV × Nat)) (X : List Nat)
theorem class_ob (h : Hp nb T0 M0 id sid tg l ts tb S T M) (i : Nat) (hi : i < l.length) : CallT Tryz.prog [] [] 17 [.ptr id 0, vVl (obV i)] ⟨S ++ L, T ++ X, M⟩ (fun r s => s = ⟨S ++ L, T ++ X, M⟩ ∧ r = vS cB) := by
  have hl := h.len
  have ho : l[i]? = some l[i] := List.getElem?_eq_getElem hi
  have e := class_p L X h (obV i) (okV_ob (by omega))
  unfold clOf at e
  rw [(mp_ob (sid := sid) ho).1] at e
  dsimp only at e
  rw [(h.ob i _ ho).1] at e
  exact e
theorem class_no (h : Hp nb T0 M0 id sid tg l ts tb S T M) : CallT Tryz.prog [] [] 17 [.ptr id 0, vVl ⟨4, 0, ⟨#[]⟩⟩] ⟨S ++ L, T ++ X, M⟩ (fun r s => s = ⟨S ++ L, T ++ X, M⟩ ∧ r = vS ⟨#[]⟩) :=
  class_p L X h ⟨4, 0, ⟨#[]⟩⟩ (by unfold okV; decide)
theorem get_p (h : Hp nb T0 M0 id sid tg l ts tb S T M) (i : Nat) (hi : i < l.length) (k : Tg) (hk : okT k) (x : Vl) (hx : (getT (tb i) k).getD vl0 = x) : CallT Tryz.prog [] [] 15 [.ptr id 0, vVl (obV i), vTg k] ⟨S ++ L, T ++ X, M⟩ (fun r s => s = ⟨S ++ L, T ++ X, M⟩ ∧ r = vVl x) := by
  subst hx
  have hl := h.len
  obtain ⟨h1, h2, h3⟩ := h.box
  have ho : l[i]? = some l[i] := List.getElem?_eq_getElem hi
  obtain ⟨a, b, c, d⟩ := h.ob i _ ho
  exact sp15 P0 tg sid l (obV i) (okV_ob (by omega)) (by omega) k hk _ (mp_ob ho).2 (tb i) d _ _ M id (at_old h2) c
theorem get_s (h : Hp nb T0 M0 id sid tg l ts tb S T M) (k : Tg) (hk : okT k) (x : Vl) (hx : (getT ts k).getD vl0 = x) : CallT Tryz.prog [] [] 15 [.ptr id 0, vVl vl0, vTg k] ⟨S ++ L, T ++ X, M⟩ (fun r s => s = ⟨S ++ L, T ++ X, M⟩ ∧ r = vVl x) := by
  subst hx
  have hl := h.len
  obtain ⟨h1, h2, h3⟩ := h.box
  exact sp15 P0 tg sid l vl0 (by unfold okV vl0; decide) (by omega) k hk sid rfl ts h.ok _ _ M id (at_old h2) h.st
theorem set_p (h : Hp nb T0 M0 id sid tg l ts tb S T M) (i : Nat) (hi : i < l.length) (k : Tg) (hk : okT k) (w : Vl) (hg : (getT (tb i) k).isSome = true) : ∃ m, M0.length ≤ m ∧ CallT Tryz.prog [] [m] 13 [.ptr id 0, vVl (obV i), vTg k, vVl w] ⟨S ++ L, T ++ X, M⟩ (fun r s => r = vB true ∧
    ∃ M1, s = ⟨S ++ L, T ++ X, M1⟩ ∧ Hp nb T0 M0 id sid tg l ts (fun j => if j = i then putT (tb i) k w else tb j) S T M1) := by
  have hl := h.len
  obtain ⟨h1, h2, h3⟩ := h.box
  have ho : l[i]? = some l[i] := List.getElem?_eq_getElem hi
  obtain ⟨a, b, c, d⟩ := h.ob i _ ho
  refine ⟨l[i].2, by have := h.sge; omega, call_mono (sp13 P0 tg sid l (obV i) (okV_ob (by omega)) (by omega) k hk w _ (mp_ob ho).2 (tb i) d _ _ M id (at_old h2) c) fun r s ⟨hr, hs⟩ => ?_⟩
  rw [if_pos hg] at hs
  exact ⟨by rw [hr, hg], _, hs, h.set ho hk w⟩
theorem set_no (h : Hp nb T0 M0 id sid tg l ts tb S T M) (i : Nat) (hi : i < l.length) (k : Tg) (hk : okT k) (w : Vl) (hg : (getT (tb i) k).isSome = false) : ∃ m, M0.length ≤ m ∧ CallT Tryz.prog [] [m] 13 [.ptr id 0, vVl (obV i), vTg k, vVl w] ⟨S ++ L, T ++ X, M⟩ (fun r s => r = vB false ∧ s = ⟨S ++ L, T ++ X, M⟩) := by
  have hl := h.len
  obtain ⟨h1, h2, h3⟩ := h.box
  have ho : l[i]? = some l[i] := List.getElem?_eq_getElem hi
  obtain ⟨a, b, c, d⟩ := h.ob i _ ho
  refine ⟨l[i].2, by have := h.sge; omega, call_mono (sp13 P0 tg sid l (obV i) (okV_ob (by omega)) (by omega) k hk w _ (mp_ob ho).2 (tb i) d _ _ M id (at_old h2) c) fun r s ⟨hr, hs⟩ => ?_⟩
  rw [hg] at hr hs
  exact ⟨hr, hs⟩
theorem set_s (h : Hp nb T0 M0 id sid tg l ts tb S T M) (k : Tg) (hk : okT k) (w : Vl) (hg : (getT ts k).isSome = true) : ∃ m, M0.length ≤ m ∧ CallT Tryz.prog [] [m] 13 [.ptr id 0, vVl vl0, vTg k, vVl w] ⟨S ++ L, T ++ X, M⟩ (fun r s => r = vB true ∧
    ∃ M1, s = ⟨S ++ L, T ++ X, M1⟩ ∧ Hp nb T0 M0 id sid tg l (putT ts k w) tb S T M1) := by
  have hl := h.len
  obtain ⟨h1, h2, h3⟩ := h.box
  refine ⟨sid, h.sge, call_mono (sp13 P0 tg sid l vl0 (by unfold okV vl0; decide) (by omega) k hk w sid rfl ts h.ok _ _ M id (at_old h2) h.st) fun r s ⟨hr, hs⟩ => ?_⟩
  rw [if_pos hg] at hs
  exact ⟨by rw [hr, hg], _, hs, h.setS hk w⟩
end
end
end Go.Proofs.YtinffhimfoicdaaGreat

/- What heaps tell of themselves. No conditions. -/
namespace Go.Proofs.YtinffhimfoicdaaGreat
open Go Go.RowKit Go.Proofs.YtinffhimfoicdaaGreat.Calc
set_option linter.unusedVariables false
set_option linter.unusedSimpArgs false
set_option maxRecDepth 100000
set_option maxHeartbeats 8000000
attribute [local irreducible] Tri TriL TriP CallT stepV stepW thenQ inQ endQ endN P0
abbrev kT (c : ByteArray) (n : Nat) : Tg := ⟨c, (n : Int)⟩
theorem okA (n : Nat) (h : n ≤ 1000) : okT (kT cA n) := okT_of (by decide) (by omega)
theorem okB (n : Nat) (h : n ≤ 1000) : okT (kT cB n) := okT_of (by decide) (by omega)
theorem sp10 (S : List (List BV × Nat)) (T : List Nat) (M : List (List (Value × DV))) : CallT Tryz.prog [] [] 10 [] ⟨S, T, M⟩ (fun r s => r = vB true ∧ ∃ N, s = ⟨S, T, M ++ N⟩) := by
  have h7 := cl7
  have h19 := sp19n
  have h11 := sp11n cA
  have h20 := sp20 cA
  refine callT_go [] [] Tryz.func10 rfl Tryz.ntmps10 Tryz.results10 ?_
  repeat' (first | apply triL_nil | (apply V; apply rfl; (first | (apply E_eqT; apply rfl; apply rfl) | (apply E_seqT; apply rfl; apply rfl) | (apply E_mv; apply rfl) | (apply E_as; apply rfl) | (apply E_lda; (apply tyT; apply rfl); apply rfl; (apply at_; apply rfl; apply rfl); apply rfl) | (apply E_pkT; apply rfl; apply rfl) | (apply E_ex; apply rfl; apply rfl) | (apply E_not; apply rfl) | (apply E_bd; (apply plT; apply rfl); apply rfl) | (apply E_pe; exact und28; apply rfl) | (apply E_fdv; apply rfl; exact fd39; apply tyT; apply rfl; apply rfl))) | (apply Vp; apply rfl; apply rfl; apply fnT; apply rfl; apply call_wk; apply rfl; apply h7; rintro _ rfl) | (apply VR; apply rfl; apply opR_bs0; apply rfl; apply rfl; apply elT; apply rfl) | (apply Vc; apply rfl; apply rfl; apply fnT; apply rfl; exact new_p S.length T M _ _ _ (by simp only [List.length_append]; omega) (List.prefix_append _ _) (List.prefix_refl _); (intro i_ hi_; cases hi_); (intro i_ hi_; cases hi_); rintro _ _ ⟨S1, T1, M1, id, sid, tg, rfl, rfl, hS1, hp⟩) | (apply Vc; apply rfl; apply rfl; apply fnT; apply rfl; exact make_p (hp.more [] []) (by decide) (by simpa using hS1); (intro i_ hi_ _; obtain rfl := List.mem_singleton.1 hi_; exact okC_ge (k := 0) hp.ge); (intro i_ hi_; cases hi_); rintro _ _ ⟨rfl, S2, T2, M2, o, rfl, hS2, hTt, hTl, hp⟩; (have hS1 : S.length ≤ S2.length := (by rw [hS2]; simpa using hS1))) | (apply Vp; apply rfl; apply rfl; apply fnT; apply rfl; apply h11; rintro _ rfl) | (apply Vp; apply rfl; apply rfl; apply fnT; apply rfl; apply make_no _ _ hp cQ (.inr P0_Q); rintro _ rfl) | (apply VcM; apply rfl; apply rfl; apply fnT; apply rfl; exact set_p _ _ hp 0 (by simp) (kT cA 0) (okA 0 (by decide)) ⟨1, 3, ⟨#[]⟩⟩ (by decide +kernel); rintro _ _ ⟨rfl, M3, rfl, hp⟩) | (apply VcM; apply rfl; apply rfl; apply fnT; apply rfl; exact set_no _ _ hp 0 (by simp) (kT cA 1) (okA 1 (by decide)) vl0 (by decide +kernel); rintro _ _ ⟨rfl, rfl⟩) | (apply VcM; apply rfl; apply rfl; apply fnT; apply rfl; exact set_s _ _ hp (kT cA 1) (okA 1 (by decide)) ⟨1, 8, ⟨#[]⟩⟩ (by decide +kernel); rintro _ _ ⟨rfl, M4, rfl, hp⟩) | (apply VR; apply rfl; apply opR_bin; apply rfl; apply rfl; apply rfl; (first | exact q39a _ _ | exact q39b _ _ | exact q39c _ _)) | (apply Vp; apply rfl; apply rfl; apply fnT; apply rfl; apply get_p _ _ hp 0 (by simp) (kT cA 0) (okA 0 (by decide)) ⟨1, 3, ⟨#[]⟩⟩ (by decide +kernel); rintro _ rfl) | (apply Vp; apply rfl; apply rfl; apply fnT; apply rfl; apply get_p _ _ hp 0 (by simp) (kT cB 0) (okB 0 (by decide)) ⟨1, 0, ⟨#[]⟩⟩ (by decide +kernel); rintro _ rfl) | (apply Vp; apply rfl; apply rfl; apply fnT; apply rfl; apply get_s _ _ hp (kT cA 1) (okA 1 (by decide)) ⟨1, 8, ⟨#[]⟩⟩ (by decide +kernel); rintro _ rfl) | (apply Vp; apply rfl; apply rfl; apply fnT; apply rfl; apply class_ob _ _ hp 0 (by simp); rintro _ rfl) | (apply Vp; apply rfl; apply rfl; apply fnT; apply rfl; apply class_no _ _ hp; rintro _ rfl) | (apply Vp; apply rfl; apply rfl; apply fnT; apply rfl; apply len_p _ _ hp; rintro _ rfl) | (apply Vp; apply rfl; apply rfl; apply fnT; apply rfl; apply h20; rintro _ rfl) | (apply Vp; apply rfl; apply rfl; apply fnT; apply rfl; apply h19; rintro _ rfl) | (apply Vw; apply rfl; (first | (apply W_alL; apply rfl; (apply tyT; apply rfl)) | (apply W_bsL; apply rfl; (apply elT; apply rfl); (apply tyT; apply rfl); apply rfl; decide; apply rfl; apply rfl))) | (apply Vs; apply rfl; (apply W_stL; apply rfl; (apply tyT; apply rfl); apply rfl; apply rfl; apply rfl; (first | apply okC_new | (apply okC_ge; omega)); apply rfl; apply rfl; (first | decide | (apply Nat.le_of_ble_eq_true; rfl)))) | (apply s_region; apply rfl) | apply tri_seq | apply tri_skip | apply tri_ret | (apply tri_condF; apply rfl) | apply p_then)
  obtain ⟨N, hN⟩ := hp.preM
  exact end_m _ (.inr rfl) (pre_app hp.pre) (R_tmp rfl R_nil) rfl ⟨rfl, N, by rw [hN]⟩
end Go.Proofs.YtinffhimfoicdaaGreat

/- HeapFull's walk. No conditions. -/
namespace Go.Proofs.YtinffhimfoicdaaGreat
open Go Go.RowKit Go.Proofs.YtinffhimfoicdaaGreat.Calc
set_option linter.unusedVariables false
set_option linter.unusedSimpArgs false
set_option maxRecDepth 100000
set_option maxHeartbeats 8000000
section
variable {P : Program} {st : St} {ρ : Rg} {x y : Operand} {t ty : Nat}
theorem E_remU {a b c : Int} (hx : fl ρ x = some (.int .u64 a)) (hy : fl ρ y = some (.int .u64 b)) (hb : b ≠ 0) (hc : a.tmod b = c) : stepV P st ρ (.binOp .rem t x y ty) = some (.d (.flat (.int .u64 c))) := by
  subst hc
  simp [stepV, hx, hy, eqGuard, binOp, Op.intDiv, hb, quiet_pure, quiet_bind, constB, cellB, flatV]
theorem E_addK {k : IntKind} {a b c : Int} (hx : fl ρ x = some (.int k a)) (hy : fl ρ y = some (.int k b)) (hc : k.wrap (a + b) = c) : stepV P st ρ (.binOp .add t x y ty) = some (.d (.flat (.int k c))) := by
  subst hc
  exact E_add hx hy
theorem E_cvK {s d : Nat} {u : TypeDesc} {j k : IntKind} {n c : Int} (hx : fl ρ x = some (.int j n)) (hs : P.underlying s = some u) (hd : P.underlying d = some (.int k)) (hc : k.wrap n = c) : stepV P st ρ (.convert s d x) = some (.d (.flat (.int k c))) := by
  subst hc
  exact E_cvt hx hs hd
theorem E_neT {k : IntKind} {a : Int} (hx : fl ρ x = some (.int k a)) (hy : fl ρ y = some (.int k a)) : stepV P st ρ (.binOp .neq t x y ty) = some (vB false) := by
  rw [E_neq hx hy, decide_eq_false (by simp)]
end
attribute [local irreducible] Tri TriL TriP CallT stepV stepW thenQ inQ endQ endN P0
theorem sp5 (w : Int) (S : List (List BV × Nat)) (T : List Nat) (M : List (List (Value × DV))) : CallT Tryz.prog [] [] 5 [vI w] ⟨S, T, M⟩ (fun r s => r = vB true) := by
  have h7 := cl7
  refine callT_go [] [] Tryz.func5 rfl Tryz.ntmps5 Tryz.results5 ?_
  repeat' (first | apply triL_nil | (apply V; apply rfl; (first | (apply E_mv; apply rfl) | (apply E_as; apply rfl) | (apply E_pe; exact und28; apply rfl))) | (apply Vp; apply rfl; apply rfl; apply fnT; apply rfl; apply call_wk; apply rfl; apply h7; rintro _ rfl) | (apply VR; apply rfl; apply opR_bs0; apply rfl; apply rfl; apply elT; apply rfl) | (apply Vc; apply rfl; apply rfl; apply fnT; apply rfl; exact new_p S.length T M _ _ _ (by simp only [List.length_append]; omega) (List.prefix_append _ _) (List.prefix_refl _); (intro i_ hi_; cases hi_); (intro i_ hi_; cases hi_); rintro _ _ ⟨S1, T1, M1, id, sid, tg, rfl, rfl, hS1, hp⟩) | (apply Vw; apply rfl; (apply W_bsL; apply rfl; (apply elT; apply rfl); (apply tyT; apply rfl); apply rfl; decide; apply rfl; apply rfl)) | (apply s_region; apply rfl) | apply tri_seq | apply tri_block | apply tri_skip | (apply tri_condF; apply rfl) | apply p_then)
  refine tri_growM (fun k : Nat => 201 - k) (fun k => [(0, vI w), (3, .ptr id 0), (4, vI ((k : Int) + 1))]) (fun k S1 T1 M1 => k ≤ 200 ∧ S.length ≤ S1.length ∧ ∃ l tb, l.length = k ∧ (∀ j, j < k → tb j = putT tB (kT cB 0) (vlI ((j : Int) + 1))) ∧ Hp S.length T M id sid tg l tS tb S1 T1 M1) 0 ⟨Nat.zero_le _, by simpa using hS1, [], _, rfl, nofun, hp.more [] []⟩ ⟨rfl, rfl, rfl, trivial⟩ ?_
  rintro k S1 T1 M1 ⟨hk, hS1, l, tb, rfl, htb, hp⟩
  repeat' (first | apply triL_nil | (apply V; apply rfl; (first | (apply E_neT; apply rfl; apply rfl) | (apply E_cv64; apply rfl; apply udT; apply rfl; apply udT; apply rfl; omega) | (apply E_add64; apply rfl; apply rfl; apply rfl; omega) | (apply E_mv; apply rfl) | (apply E_as; apply rfl) | (apply E_fa; (apply plT; apply rfl); apply rfl; apply rfl; decide) | (apply E_lda; (apply tyT; apply rfl); apply rfl; (apply at_; apply rfl; apply rfl); apply rfl) | (apply E_ld; (apply tyT; apply rfl); apply rfl; (apply at_; apply rfl; apply rfl); apply rfl) | (apply E_pkF; apply rfl; apply rfl) | (apply E_ex; apply rfl; apply rfl) | (apply E_not; apply rfl) | (apply E_bd; (apply plT; apply rfl); apply rfl) | (apply E_add64; apply rfl; apply rfl; apply rfl; omega))) | (apply Vc; apply rfl; apply rfl; apply fnT; apply rfl; exact make_p (hp.more [] []) (by omega) (by simpa using hS1); (intro i_ hi_ _; obtain rfl := List.mem_singleton.1 hi_; exact okC_ge (k := 0) hp.ge); (intro i_ hi_; cases hi_); rintro _ _ ⟨rfl, S2, T2, M2, o, rfl, hS2, hTt, hTl, hp2⟩; (have hS2 : S.length ≤ S2.length := (by rw [hS2]; simpa using hS1))) | (apply VcM; apply rfl; apply rfl; apply fnT; apply rfl; exact set_p _ _ hp2 l.length (by simp) (kT cB 0) (okB 0 (by decide)) (vlI ((l.length : Int) + 1)) (by rw [if_pos rfl]; decide +kernel); rintro _ _ ⟨rfl, M3, rfl, hp3⟩) | (apply Vd; apply rfl; (apply E_leq; apply rfl; apply rfl); all_goals intro h_) | (apply Vw; apply rfl; (apply W_alL; apply rfl; (apply tyT; apply rfl))) | (apply Vs; apply rfl; (apply W_stL; apply rfl; (apply tyT; apply rfl); apply rfl; apply rfl; apply rfl; (first | apply okC_new | (apply okC_ge; omega)); apply rfl; apply rfl; (first | decide | (apply Nat.le_of_ble_eq_true; rfl)))) | (apply s_region; apply rfl) | apply tri_seq | (apply tri_region; apply rfl) | apply tri_block | apply tri_skip | apply tri_exit | (apply tri_condT; apply rfl) | (apply tri_condF; apply rfl) | apply p_then | apply p_in | apply p_inN | apply p_thenE)
  · refine ⟨l.length + 1, _, _, _, by omega, ⟨by omega, ?_, l ++ [o], _, by simp, ?_, hp3.more _ _⟩, ⟨rfl, rfl, vI_of (by omega), trivial⟩, rfl⟩
    · simp only [List.length_append]; omega
    · intro j hj
      by_cases e : j = l.length
      · subst e
        rw [if_pos rfl, if_pos rfl]
      · rw [if_neg e, if_neg e]
        exact htb j (by omega)
  · have hl : l.length = 200 := by have := hp.len; omega
    generalize hd : ((IntKind.u64.wrap w).tmod 200).toNat = d
    have hu := u64_nn w
    have hd1 : (IntKind.u64.wrap w).tmod 200 = (d : Int) := by rw [← hd, Int.toNat_of_nonneg (Int.tmod_nonneg _ hu)]
    have hd2 : d < 200 := by
      have := Int.tmod_lt_of_pos (IntKind.u64.wrap w) (b := 200) (by omega)
      omega
    have e1 : IntKind.u64.wrap (1 + (d : Int)) = (d : Int) + 1 := by rw [IntWalk.u64_in _ (by omega)]; omega
    have e2 : IntKind.i32.wrap ((d : Int) + 1) = (d : Int) + 1 := IntWalk.i32_in _ (by omega)
    have htd := htb d (by omega)
    have g1 : (getT (tb d) (kT cB 0)).getD vl0 = vlI ((d : Int) + 1) := by rw [htd, getT_put, if_pos rfl]; rfl
    have g2 : (getT (tb d) (kT cA 0)).getD vl0 = vlI 0 := by rw [htd, getT_put, if_neg (by decide +kernel)]; decide +kernel
    rw [hl] at htb
    have hlen := len_p [] [] hp
    repeat' (first | apply triL_nil | (apply V; apply rfl; (first | (apply E_eqT; apply rfl; apply rfl) | (apply E_remU; apply rfl; apply rfl; decide; exact hd1) | (apply E_addK; apply rfl; apply rfl; exact e1) | (apply E_cvK; apply rfl; apply udT; apply rfl; apply udT; apply rfl; exact e2) | (apply E_mv; apply rfl) | (apply E_as; apply rfl) | (apply E_lda; (apply tyT; apply rfl); apply rfl; (apply at_; apply rfl; apply rfl); apply rfl) | (apply E_pkT; apply rfl; apply rfl) | (apply E_pkF; apply rfl; apply rfl) | (apply E_ex; apply rfl; apply rfl) | (apply E_not; apply rfl) | (apply E_bd; (apply plT; apply rfl); apply rfl) | (apply E_cvt; apply rfl; (apply udT; apply rfl); (apply udT; apply rfl)) | (apply E_fdv; apply rfl; exact fd39; apply tyT; apply rfl; apply rfl))) | (apply Vp; apply rfl; apply rfl; apply fnT; apply rfl; apply make_no _ _ hp cA (.inl hl); rintro _ rfl) | (apply Vc; apply rfl; apply rfl; apply fnT; apply rfl; exact sp10 _ _ _; (intro i_ hi_; cases hi_); (intro i_ hi_; cases hi_); rintro _ _ ⟨rfl, N, rfl⟩; have hp := hp.moreM N) | (apply Vp; apply rfl; apply rfl; apply fnT; apply rfl; apply get_p _ _ hp d (by omega) (kT cB 0) (okB 0 (by decide)) _ g1; rintro _ rfl) | (apply Vp; apply rfl; apply rfl; apply fnT; apply rfl; apply get_p _ _ hp d (by omega) (kT cA 0) (okA 0 (by decide)) _ g2; rintro _ rfl) | (apply Vp; apply rfl; apply rfl; apply fnT; apply rfl; apply len_p _ _ hp; rintro _ rfl) | (apply Vd; apply rfl; (apply E_eql; apply rfl; apply rfl); all_goals intro h_) | (apply Vo; apply rfl) | (apply Vw; apply rfl; (apply W_alL; apply rfl; (apply tyT; apply rfl))) | (apply Vs; apply rfl; (apply W_stL; apply rfl; (apply tyT; apply rfl); apply rfl; apply rfl; apply rfl; (first | apply okC_new | (apply okC_ge; omega)); apply rfl; apply rfl; (first | decide | (apply Nat.le_of_ble_eq_true; rfl)))) | (apply s_region; apply rfl) | apply tri_ret)
    all_goals first | exact end_m _ (.inr rfl) (pre_app hp.pre) (R_tmp rfl R_nil) rfl rfl | (exfalso; omega)
end Go.Proofs.YtinffhimfoicdaaGreat

/- HeapFields' walk. No conditions. -/
namespace Go.Proofs.YtinffhimfoicdaaGreat
open Go Go.RowKit Go.Proofs.YtinffhimfoicdaaGreat.Calc
set_option linter.unusedVariables false
set_option linter.unusedSimpArgs false
set_option maxRecDepth 100000
set_option maxHeartbeats 8000000
theorem q4 (a b : Bool) (x y : Operand) : (quiet Tryz.prog (do eqGuard .eql 4 x y (.bool a) (.bool b); binOp .eql 4 (.bool a) (.bool b))).bind constB = some (vB (decide (a = b))) := by
  cases a <;> cases b <;> kernel_rfl
theorem E_beq4 {st : St} {ρ : Rg} {x y : Operand} {ty : Nat} {a b : Bool} (hx : fl ρ x = some (.bool a)) (hy : fl ρ y = some (.bool b)) : stepV Tryz.prog st ρ (.binOp .eql 4 x y ty) = some (vB (decide (a = b))) := by
  simp only [stepV, hx, hy]
  exact q4 a b x y
def encVc (v : Vl) : List DV := [dI v.kind, dN v.n, dS v.s]
def encTg (k : Tg) : List DV := [dS k.own, dI k.nth]
theorem encVc_len (v : Vl) : (encVc v).length = 3 := rfl
theorem encTg_len (k : Tg) : (encTg k).length = 2 := rfl
/-- The fields that HeapFields asks for. -/
def tg6 : List Tg := [kT cA 0, kT cA 2, kT cA 3, kT cB 0, kT cB 1, kT cB 2]
def obs (k : Nat) : List Vl := (List.range k).map obV
theorem obs_at {k i : Nat} (h : i < k) : (obs k)[i]? = some (obV i) := by simp [obs, h]
theorem obs_succ (k : Nat) : obs (k + 1) = obs k ++ [obV k] := by simp [obs, List.range_succ]
theorem obs_len (k : Nat) : (obs k).length = k := by simp [obs]
def t6 (n : Nat) : Tg := tg6.getD n (kT cA 0)
theorem t6_at {n : Nat} (h : n < 6) : tg6[n]? = some (t6 n) := by
  unfold t6
  rw [List.getD_eq_getElem?_getD, List.getElem?_eq_getElem (show n < tg6.length from h)]
  rfl
theorem t6_inj : ∀ n, n < 6 → ∀ k, k < 6 → t6 n = t6 k → n = k := by decide +kernel
theorem t6_some : ∀ n, n < 6 → (getT tB (t6 n)).isSome = true := by decide +kernel
theorem t6_zero : ∀ n, n < 6 → ((getT tB (t6 n)).getD vl0).n = 0 := by decide +kernel
theorem t6_ok (n : Nat) (h : n < 6) : okT (t6 n) := by
  match n, h with
  | 0, _ => exact okA 0 (by decide)
  | 1, _ => exact okA 2 (by decide)
  | 2, _ => exact okA 3 (by decide)
  | 3, _ => exact okB 0 (by decide)
  | 4, _ => exact okB 1 (by decide)
  | 5, _ => exact okB 2 (by decide)
def setB (tb : Nat → Tbl) (i : Nat) (k : Tg) (w : Vl) : Nat → Tbl := fun q => if q = i then putT (tb i) k w else tb q
theorem getB (tb : Nat → Tbl) (i : Nat) (k : Tg) (w : Vl) (q : Nat) (k' : Tg) : getT (setB tb i k w q) k' = if q = i ∧ k = k' then some w else getT (tb q) k' := by
  unfold setB
  by_cases h : q = i
  · subst h
    rw [if_pos rfl, getT_put]
    by_cases hk : k = k' <;> simp [hk]
  · simp [h]
theorem set_some {tb : Nat → Tbl} (htb : ∀ q, q < 3 → tb q = tB) {i k j n : Nat} {w : Vl} (hk : k < 6) (hn : n < 6) (hj : j < 3) : (getT (setB tb i (t6 k) w j) (t6 n)).isSome = true := by
  rw [getB]
  split
  · rfl
  · rw [htb j hj]
    exact t6_some n hn
section
variable {tb : Nat → Tbl} (htb : ∀ q, q < 3 → tb q = tB) {i j k n m q : Nat} {v w : Vl} (hi : i < 3) (hj : j < 3) (hk : k < 6) (hn : n < 6) (hm : m < 3) (hq : q < 6)
include htb hk hn hm hq in
theorem fields_zero (h1 : ¬ (m = i ∧ q = k)) (h2 : ¬ (m = j ∧ q = n)) : ((getT (setB (setB tb i (t6 k) v) j (t6 n) w m) (t6 q)).getD vl0).n = 0 := by
  rw [getB, if_neg, getB, if_neg, htb m hm]
  · exact t6_zero q hq
  · rintro ⟨a, b⟩
    exact h1 ⟨a, (t6_inj k hk q hq b).symm⟩
  · rintro ⟨a, b⟩
    exact h2 ⟨a, (t6_inj n hn q hq b).symm⟩
include hk hn in
theorem fields_i : (getT (setB (setB tb i (t6 k) v) j (t6 n) w i) (t6 k)).getD vl0 = if i = j ∧ k = n then w else v := by
  rw [getB, getB]
  by_cases h : i = j ∧ k = n
  · rw [if_pos ⟨h.1, by rw [h.2]⟩, if_pos h]
    rfl
  · rw [if_neg (fun e => h ⟨e.1, (t6_inj n hn k hk e.2).symm⟩), if_neg h, if_pos ⟨rfl, rfl⟩]
    rfl
theorem fields_j : (getT (setB (setB tb i (t6 k) v) j (t6 n) w j) (t6 n)).getD vl0 = w := by
  rw [getB, if_pos ⟨rfl, rfl⟩]
  rfl
end
theorem u64_mod (w : Int) (m : Nat) (hm : 0 < m) : ∃ d : Nat, (IntKind.u64.wrap w).tmod m = (d : Int) ∧ d < m := by
  have hu := u64_nn w
  have h1 := Int.tmod_nonneg (m : Int) hu
  have h2 := Int.tmod_lt_of_pos (IntKind.u64.wrap w) (b := (m : Int)) (by omega)
  exact ⟨((IntKind.u64.wrap w).tmod m).toNat, by rw [Int.toNat_of_nonneg h1], by omega⟩
attribute [local irreducible] Tri TriL TriP CallT stepV stepW thenQ inQ endQ endN P0
theorem sp6 (a b f g x y : Int) (S : List (List BV × Nat)) (T : List Nat) (M : List (List (Value × DV))) : CallT Tryz.prog [] [] 6 [vI a, vI b, vI f, vI g, .d (dN x), .d (dN y)] ⟨S, T, M⟩ (fun r s => r = vB true) := by
  have h7 := cl7
  refine callT_go [] [] Tryz.func6 rfl Tryz.ntmps6 Tryz.results6 ?_
  repeat' (first | apply triL_nil | (apply V; apply rfl; (first | (apply E_mv; apply rfl) | (apply E_as; apply rfl) | (apply E_pe; exact und28; apply rfl))) | (apply Vp; apply rfl; apply rfl; apply fnT; apply rfl; apply call_wk; apply rfl; apply h7; rintro _ rfl) | (apply VR; apply rfl; apply opR_bs0; apply rfl; apply rfl; apply elT; apply rfl) | (apply Vc; apply rfl; apply rfl; apply fnT; apply rfl; exact new_p S.length T M _ _ _ (by simp only [List.length_append]; omega) (List.prefix_append _ _) (List.prefix_refl _); (intro i_ hi_; cases hi_); (intro i_ hi_; cases hi_); rintro _ _ ⟨S1, T1, M1, id, sid, tg, rfl, rfl, hS1, hp⟩) | (apply Vw; apply rfl; (apply W_bsL; apply rfl; (apply elT; apply rfl); (apply tyT; apply rfl); apply rfl; decide; apply rfl; apply rfl)) | (apply s_region; apply rfl) | apply tri_seq | apply tri_block | apply tri_skip | (apply tri_condF; apply rfl) | apply p_then)
  refine tri_ownX 14 39 3 rfl rfl ?_
  have htg : tg < T1.length := (List.getElem?_eq_some_iff.1 hp.box.2.2).1
  have hTl : T.length ≤ T1.length := hp.pre.length_le
  refine tri_growM (fun k : Nat => 4 - k) (fun k => [(0, vI a), (1, vI b), (2, vI f), (3, vI g), (4, .d (dN x)), (5, .d (dN y)), (13, .ptr id 0), (14, .own 39 3 (T1.length + 0) ((obs k).flatMap encVc) (obs k).length), (15, vI k)]) (fun k S2 T2 M2 => k ≤ 3 ∧ S.length ≤ S2.length ∧ T2[T1.length + 0]? = some ((obs k).flatMap encVc).length ∧ ∃ l tb, l.length = k ∧ (∀ j, j < k → tb j = tB) ∧ Hp S.length T M id sid tg l tS tb S2 T2 M2) 0 ⟨Nat.zero_le _, by simpa using hS1, at_ rfl rfl, [], _, rfl, nofun, hp.more [] _⟩ ⟨rfl, rfl, rfl, rfl, rfl, rfl, rfl, rfl, rfl, trivial⟩ ?_
  rintro k S2 T2 M2 ⟨hk, hS2, hT2, l, tb, rfl, htb, hp⟩
  repeat' (first | apply triL_nil | (apply V; apply rfl; (first | (apply E_mv; apply rfl) | (apply E_as; apply rfl) | (apply E_lda; (apply tyT; apply rfl); apply rfl; (apply at_; apply rfl; apply rfl); apply rfl) | (apply E_ex; apply rfl; apply rfl) | (apply E_not; apply rfl) | (apply E_bd; (apply plT; apply rfl); apply rfl) | (apply E_cvt; apply rfl; (apply udT; apply rfl); (apply udT; apply rfl)) | (apply E_add64; apply rfl; apply rfl; apply rfl; omega))) | (apply Vc; apply rfl; apply rfl; apply fnT; apply rfl; exact make_p (hp.more [] []) (by omega) (by simpa using hS2); (intro i_ hi_ _; obtain rfl := List.mem_singleton.1 hi_; exact okC_ge (k := 0) hp.ge); (intro i_ hi_; cases hi_); rintro _ _ ⟨rfl, S3, T3, M3, o, rfl, hS3, hTt, hTn, hp2⟩; (have hT3 : T3[T1.length + 0]? = some ((obs l.length).flatMap encVc).length := (by rw [hTt _ (by omega), List.append_nil]; exact hT2)); (have hS3 : S.length ≤ S3.length := (by rw [hS3]; simpa using hS2))) | (apply Vd; apply rfl; (apply E_lss; apply rfl; apply rfl); all_goals intro h_) | (apply Vw; apply rfl; (first | (apply W_alL; apply rfl; (apply tyT; apply rfl)) | (apply W_bsL; apply rfl; (apply elT; apply rfl); (apply tyT; apply rfl); apply rfl; decide; apply rfl; apply rfl) | (apply W_ap; (apply elT; apply rfl); (apply tyT; apply rfl); (apply byT; apply rfl); apply rfl; apply rfl; apply rfl; decide; apply rfl; (apply A_ownLO (f := encVc) (c := obV l.length); (rw [obs_len]; omega); (rw [obs_len]; omega); exact hT3)))) | (apply Vs; apply rfl; (apply W_stL; apply rfl; (apply tyT; apply rfl); apply rfl; apply rfl; apply rfl; (first | apply okC_new | (apply okC_ge; omega)); apply rfl; apply rfl; (first | decide | (apply Nat.le_of_ble_eq_true; rfl)))) | (apply s_region; apply rfl) | apply tri_seq | (apply tri_region; apply rfl) | apply tri_block | apply tri_skip | apply tri_exit | (apply tri_condT; apply rfl) | (apply tri_condF; apply rfl) | apply p_then | apply p_in | apply p_inN | apply p_thenE)
  · refine ⟨l.length + 1, _, _, _, by omega, ⟨by omega, ?_, ?_, l ++ [o], _, by simp, ?_, (hp2.setT (t := T1.length + 0) (by omega) (by omega)).more _ _⟩, ⟨rfl, rfl, rfl, rfl, rfl, rfl, rfl, ?_, vI_of (by omega), trivial⟩, rfl⟩
    · simp only [List.length_append]; omega
    · rw [obs_succ]
      exact at_old (List.getElem?_set_self (List.getElem?_eq_some_iff.1 hT3).1)
    · intro j hj
      by_cases e : j = l.length
      · rw [if_pos e]
      · rw [if_neg e]
        exact htb j (by omega)
    · rw [obs_succ]
      rfl
  · have hl : l.length = 3 := by omega
    obtain ⟨i, hi1, hi⟩ := u64_mod a 3 (by decide)
    obtain ⟨j, hj1, hj⟩ := u64_mod b 3 (by decide)
    obtain ⟨k, hk1, hk⟩ := u64_mod f 6 (by decide)
    obtain ⟨n, hn1, hn⟩ := u64_mod g 6 (by decide)
    rw [hl] at htb
    have hp3 := hp
    repeat' (first | apply triL_nil | (apply V; apply rfl; (first | (apply E_remU; apply rfl; apply rfl; decide; (first | exact hi1 | exact hj1 | exact hk1 | exact hn1)) | (apply E_mv; apply rfl) | (apply E_as; apply rfl) | (apply E_lea; (apply tyT; apply rfl); apply rfl; (first | apply rfl | apply encEx_len | apply encSm_len)) | (apply E_pkT; apply rfl; apply rfl) | (apply E_pkF; apply rfl; apply rfl) | (apply E_bd; (apply plT; apply rfl); apply rfl) | (apply E_cvt; apply rfl; (apply udT; apply rfl); (apply udT; apply rfl)) | (apply E_ial (f := encVc); apply elT; apply rfl; apply rfl; apply rfl; apply rfl; exact encVc_len; omega; exact obs_at (by omega)) | (apply E_ial (l := tg6) (f := encTg); apply elT; apply rfl; apply rfl; apply rfl; apply rfl; exact encTg_len; omega; exact t6_at (by omega)))) | (apply s_drawn (nt := 186) (.take 0 (.take 1 (.take 2 (.take 3 (.take 4 (.take 5 (.take 6 (.take 7 (.take 8 (.take 9 (.take 10 (.take 12 (.take 13 (.take 14 (.take 15 (.take 16 (.take 17 (.take 18 (.take 19 (.take 20 (.take 21 (.take 22 (.one 11 (.one 23 (.take 24 (.take 25 .nil)))))))))))))))))))))))))) [] []; exact mixed; rfl; decide +kernel) | (apply oCM; apply rfl; apply rfl; apply rfl; apply fnT; apply rfl; exact set_p _ _ hp i (by omega) (t6 k) (t6_ok k hk) ⟨1, x, ⟨#[]⟩⟩ (by rw [htb i hi]; exact t6_some k hk); rintro _ _ ⟨rfl, M4, rfl, hp4⟩; (have hp4 : Hp S.length T M id sid tg l tS (setB tb i (t6 k) ⟨1, x, ⟨#[]⟩⟩) S2 T2 M4 := hp4)) | (apply oCM; apply rfl; apply rfl; apply rfl; apply fnT; apply rfl; exact set_p _ _ hp4 j (by omega) (t6 n) (t6_ok n hn) ⟨1, y, ⟨#[]⟩⟩ (set_some htb hk hn hj); rintro _ _ ⟨rfl, M5, rfl, hp5⟩; (have hp5 : Hp S.length T M id sid tg l tS (setB (setB tb i (t6 k) ⟨1, x, ⟨#[]⟩⟩) j (t6 n) ⟨1, y, ⟨#[]⟩⟩) S2 T2 M5 := hp5)) | (show Tri _ (.seq (.seq (.region 16 _ _) _) _) _ _ _; apply s_mid (fun ρ st => ∃ w : Int, w = (if i = j ∧ k = n then y else x) ∧ hasR ρ [(4, .d (dN x)), (5, .d (dN y)), (13, .ptr id 0), (14, .own 39 3 (T1.length + 0) ((obs l.length).flatMap encVc) (obs l.length).length), (18, .own 44 2 (T2.length + 0) (tg6.flatMap encTg) 6), (19, .d (.flat (.int .u64 i))), (20, .d (.flat (.int .u64 j))), (21, .d (.flat (.int .u64 k))), (22, .d (.flat (.int .u64 n))), (23, vB true), (24, vB true), (25, .d (dN w))] ∧ S.length ≤ st.S.length ∧ Hp S.length T M id sid tg l tS (setB (setB tb i (t6 k) ⟨1, x, ⟨#[]⟩⟩) j (t6 n) ⟨1, y, ⟨#[]⟩⟩) st.S st.T st.M)) | (apply Vd; apply rfl; (apply E_eql; apply rfl; apply rfl); all_goals intro h_) | (apply Vo; apply rfl) | (apply s_region; apply rfl) | (apply tri_region; apply rfl) | apply tri_skip | (apply tri_condT; apply rfl) | (apply tri_condF; apply rfl) | apply p_then | apply d_nil | (apply tV; apply rfl; apply rfl; (first | (apply E_remU; apply rfl; apply rfl; decide; (first | exact hi1 | exact hj1 | exact hk1 | exact hn1)) | (apply E_mv; apply rfl) | (apply E_as; apply rfl) | (apply E_lea; (apply tyT; apply rfl); apply rfl; (first | apply rfl | apply encEx_len | apply encSm_len)) | (apply E_pkT; apply rfl; apply rfl) | (apply E_pkF; apply rfl; apply rfl) | (apply E_bd; (apply plT; apply rfl); apply rfl) | (apply E_cvt; apply rfl; (apply udT; apply rfl); (apply udT; apply rfl)) | (apply E_ial (f := encVc); apply elT; apply rfl; apply rfl; apply rfl; apply rfl; exact encVc_len; omega; exact obs_at (by omega)) | (apply E_ial (l := tg6) (f := encTg); apply elT; apply rfl; apply rfl; apply rfl; apply rfl; exact encTg_len; omega; exact t6_at (by omega))); apply rfl))
    · exact ⟨y, by rw [if_pos ⟨by omega, by omega⟩], ⟨rfl, rfl, rfl, rfl, rfl, rfl, rfl, rfl, rfl, rfl, rfl, rfl, trivial⟩, by simp only [List.length_append]; omega, hp5.more _ _⟩
    · exact ⟨x, by rw [if_neg (by omega)], ⟨rfl, rfl, rfl, rfl, rfl, rfl, rfl, rfl, rfl, rfl, rfl, rfl, trivial⟩, by simp only [List.length_append]; omega, hp5.more _ _⟩
    · exact ⟨x, by rw [if_neg (by omega)], ⟨rfl, rfl, rfl, rfl, rfl, rfl, rfl, rfl, rfl, rfl, rfl, rfl, trivial⟩, by simp only [List.length_append]; omega, hp5.more _ _⟩
    rintro ρ ⟨S4, T4, M4⟩ ⟨w, hw, hR, hS4, hp6⟩
    refine tri_weak (hasR_le hR) ?_
    dsimp only at hS4 hp6
    clear hp hp3 hT2 htg hTl hS1 hS2 h7
    repeat' (first | apply triL_nil | (apply V; apply rfl; (apply E_as; apply rfl)) | (apply s_region; apply rfl) | apply tri_seq | apply tri_block)
    refine tri_growM (fun m : Nat => 4 - m) (fun m => [(4, .d (dN x)), (5, .d (dN y)), (13, .ptr id 0), (14, .own 39 3 (T1.length + 0) ((obs l.length).flatMap encVc) (obs l.length).length), (18, .own 44 2 (T2.length + 0) (tg6.flatMap encTg) 6), (19, .d (.flat (.int .u64 i))), (20, .d (.flat (.int .u64 j))), (21, .d (.flat (.int .u64 k))), (22, .d (.flat (.int .u64 n))), (23, vB true), (24, vB true), (25, .d (dN w)), (26, vI m)]) (fun m S' T' M' => m ≤ 3 ∧ S.length ≤ S'.length ∧ Hp S.length T M id sid tg l tS (setB (setB tb i (t6 k) ⟨1, x, ⟨#[]⟩⟩) j (t6 n) ⟨1, y, ⟨#[]⟩⟩) S' T' M') 0 ⟨Nat.zero_le _, hS4, hp6⟩ ⟨rfl, rfl, rfl, rfl, rfl, rfl, rfl, rfl, rfl, rfl, rfl, rfl, rfl, trivial⟩ ?_
    rintro m S5 T5 M5 ⟨hm, hS5, hp7⟩
    repeat' (first | apply triL_nil | (apply V; apply rfl; (first | (apply E_mv; apply rfl) | (apply E_as; apply rfl))) | (apply Vd; apply rfl; (apply E_lss; apply rfl; apply rfl); all_goals intro h_) | (apply s_region; apply rfl) | apply tri_seq | apply tri_block | apply tri_skip | apply tri_exit | (apply tri_condT; apply rfl) | (apply tri_condF; apply rfl) | apply p_then | apply p_in | apply p_thenE)
    · refine tri_growM (fun q : Nat => 7 - q) (fun q => [(4, .d (dN x)), (5, .d (dN y)), (13, .ptr id 0), (14, .own 39 3 (T1.length + 0) ((obs l.length).flatMap encVc) (obs l.length).length), (18, .own 44 2 (T2.length + 0) (tg6.flatMap encTg) 6), (19, .d (.flat (.int .u64 i))), (20, .d (.flat (.int .u64 j))), (21, .d (.flat (.int .u64 k))), (22, .d (.flat (.int .u64 n))), (23, vB true), (24, vB true), (25, .d (dN w)), (26, vI m), (27, vI q)]) (fun q S' T' M' => q ≤ 6 ∧ S.length ≤ S'.length ∧ Hp S.length T M id sid tg l tS (setB (setB tb i (t6 k) ⟨1, x, ⟨#[]⟩⟩) j (t6 n) ⟨1, y, ⟨#[]⟩⟩) S' T' M') 0 ⟨Nat.zero_le _, by simpa using hS5, hp7.more _ _⟩ ⟨rfl, rfl, rfl, rfl, rfl, rfl, rfl, rfl, rfl, rfl, rfl, rfl, rfl, rfl, trivial⟩ ?_
      rintro q S6 T6 M6 ⟨hq, hS6, hp8⟩
      repeat' (first | apply triL_nil | (apply V; apply rfl; (first | (apply E_beq4; apply rfl; apply rfl) | (apply E_cvK; apply rfl; apply udT; apply rfl; apply udT; apply rfl; exact IntWalk.u64_in _ (by omega)) | (apply E_mv; apply rfl) | (apply E_as; apply rfl) | (apply E_lea; (apply tyT; apply rfl); apply rfl; (first | apply rfl | apply encEx_len | apply encSm_len)) | (apply E_pkT; apply rfl; apply rfl) | (apply E_pkF; apply rfl; apply rfl) | (apply E_add64; apply rfl; apply rfl; apply rfl; omega) | (apply E_ial (f := encVc); apply elT; apply rfl; apply rfl; apply rfl; apply rfl; exact encVc_len; omega; exact obs_at (by omega)) | (apply E_ial (l := tg6) (f := encTg); apply elT; apply rfl; apply rfl; apply rfl; apply rfl; exact encTg_len; omega; exact t6_at (by omega)) | (apply E_fdv; apply rfl; exact fd39; apply tyT; apply rfl; apply rfl))) | (apply s_drawn (nt := 186) (.take 0 (.take 1 (.take 2 (.take 3 (.take 4 (.take 5 (.take 6 (.take 7 (.take 8 (.take 9 (.take 10 (.take 11 (.take 12 (.take 13 (.take 14 (.take 15 (.take 16 (.take 17 (.take 18 (.take 19 (.take 20 (.take 21 (.take 22 (.take 23 (.take 24 (.take 25 (.take 26 (.take 27 (.take 28 (.take 29 (.take 30 (.take 31 (.take 32 (.take 33 (.one 34 (.take 35 (.take 36 (.take 37 .nil)))))))))))))))))))))))))))))))))))))) [] []; exact mixed; rfl; decide +kernel) | (apply oP; apply rfl; apply rfl; apply rfl; apply fnT; apply rfl; apply get_p _ _ hp8 m (by omega) (t6 q) (t6_ok q (by omega)) _ rfl; rintro _ rfl) | (apply Vd; apply rfl; (first | (apply E_lss; apply rfl; apply rfl) | (apply E_eql; apply rfl; apply rfl) | (apply E_neq; apply rfl; apply rfl)); all_goals intro h_) | (apply s_region; apply rfl) | apply tri_seq | (apply tri_region; apply rfl) | apply tri_block | apply tri_skip | apply tri_exit | apply tri_ret | (apply tri_condT; apply rfl) | (apply tri_condF; apply rfl) | apply p_then | apply p_in | apply p_inN | apply p_inR | apply p_thenR | apply p_thenE | apply d_nil | (apply tV; apply rfl; apply rfl; (first | (apply E_beq4; apply rfl; apply rfl) | (apply E_cvK; apply rfl; apply udT; apply rfl; apply udT; apply rfl; exact IntWalk.u64_in _ (by omega)) | (apply E_mv; apply rfl) | (apply E_as; apply rfl) | (apply E_lea; (apply tyT; apply rfl); apply rfl; (first | apply rfl | apply encEx_len | apply encSm_len)) | (apply E_pkT; apply rfl; apply rfl) | (apply E_pkF; apply rfl; apply rfl) | (apply E_add64; apply rfl; apply rfl; apply rfl; omega) | (apply E_ial (f := encVc); apply elT; apply rfl; apply rfl; apply rfl; apply rfl; exact encVc_len; omega; exact obs_at (by omega)) | (apply E_ial (l := tg6) (f := encTg); apply elT; apply rfl; apply rfl; apply rfl; apply rfl; exact encTg_len; omega; exact t6_at (by omega)) | (apply E_fdv; apply rfl; exact fd39; apply tyT; apply rfl; apply rfl)); apply rfl) | (apply tVd; apply rfl; apply rfl; (first | (apply E_lss; apply rfl; apply rfl) | (apply E_eql; apply rfl; apply rfl) | (apply E_neq; apply rfl; apply rfl)); apply rfl; all_goals intro h_) | (apply tVo; apply rfl; apply rfl) | (apply oVo; apply rfl; apply rfl))
      all_goals first
        | exact ⟨q + 1, _, _, _, by omega, ⟨by omega, by simp only [List.length_append]; omega, hp8.more _ _⟩, ⟨rfl, rfl, rfl, rfl, rfl, rfl, rfl, rfl, rfl, rfl, rfl, rfl, rfl, vI_of (by omega), trivial⟩, rfl⟩
        | exact ⟨m + 1, _, _, _, by omega, ⟨by omega, by simp only [List.length_append]; omega, hp8.more _ _⟩, ⟨rfl, rfl, rfl, rfl, rfl, rfl, rfl, rfl, rfl, rfl, rfl, rfl, vI_of (by omega), trivial⟩, rfl⟩
        | (exfalso; exact h_ (fields_zero htb hk hn (by omega) (by omega) (by omega) (by omega)))
    · have g1 : (getT (setB (setB tb i (t6 k) ⟨1, x, ⟨#[]⟩⟩) j (t6 n) ⟨1, y, ⟨#[]⟩⟩ i) (t6 k)).getD vl0 = ⟨1, w, ⟨#[]⟩⟩ := by
        rw [fields_i hk hn, hw]
        split <;> rfl
      have g2 : (getT (setB (setB tb i (t6 k) ⟨1, x, ⟨#[]⟩⟩) j (t6 n) ⟨1, y, ⟨#[]⟩⟩ j) (t6 n)).getD vl0 = ⟨1, y, ⟨#[]⟩⟩ := fields_j
      repeat' (first | (apply t_drawn (nt := 186) (.one 0 (.take 1 (.take 2 (.take 3 (.take 4 (.take 5 (.take 6 (.take 7 (.take 8 (.take 9 (.take 10 (.take 11 (.take 12 (.take 13 (.take 14 (.take 15 (.take 16 (.take 19 (.one 17 (.take 18 (.take 20 (.take 21 (.take 22 (.take 23 (.take 24 (.take 25 (.take 26 (.take 27 (.take 28 (.take 29 (.take 30 (.take 31 (.take 34 (.one 32 (.take 33 (.take 35 (.take 36 (.take 37 .nil)))))))))))))))))))))))))))))))))))))) [] []; exact mixed; rfl; decide +kernel) | (apply oC; apply rfl; apply rfl; apply rfl; apply fnT; apply rfl; exact sp10 _ _ _; (intro i_ hi_; cases hi_); (intro i_ hi_; cases hi_); rintro _ _ ⟨rfl, N, rfl⟩; have hp7 := hp7.moreM N) | (apply oP; apply rfl; apply rfl; apply rfl; apply fnT; apply rfl; apply get_p _ _ hp7 i (by omega) (t6 k) (t6_ok k hk) _ g1; rintro _ rfl) | (apply oP; apply rfl; apply rfl; apply rfl; apply fnT; apply rfl; apply get_p _ _ hp7 j (by omega) (t6 n) (t6_ok n hn) _ g2; rintro _ rfl) | apply tri_ret | apply p_then | apply d_nil | (apply tV; apply rfl; apply rfl; (first | (apply E_eqT; apply rfl; apply rfl) | (apply E_mv; apply rfl) | (apply E_as; apply rfl) | (apply E_lea; (apply tyT; apply rfl); apply rfl; (first | apply rfl | apply encEx_len | apply encSm_len)) | (apply E_pkT; apply rfl; apply rfl) | (apply E_ial (f := encVc); apply elT; apply rfl; apply rfl; apply rfl; apply rfl; exact encVc_len; omega; exact obs_at (by omega)) | (apply E_ial (l := tg6) (f := encTg); apply elT; apply rfl; apply rfl; apply rfl; apply rfl; exact encTg_len; omega; exact t6_at (by omega)) | (apply E_fdv; apply rfl; exact fd39; apply tyT; apply rfl; apply rfl)); apply rfl))
      all_goals exact end_m _ (.inr rfl) (pre_app hp7.pre) (R_tmp rfl R_nil) rfl rfl
end Go.Proofs.YtinffhimfoicdaaGreat
