/- Texts of the claim, merged: FH. No conditions. -/
import Derived.Test.YtokilnhpepbjlaaGreatPg17
import Derived.Test.YtokilnhpepbjlaaGreatPg6
import Derived.Test.YtokilnhpepbjlaaGreatPg15
namespace Go.Proofs.YtokilnhpepbjlaaGreat
open Go Go.RowKit Go.Proofs.YtokilnhpepbjlaaGreat.Calc
set_option linter.unusedVariables false
set_option linter.unusedSimpArgs false
set_option maxRecDepth 100000
set_option maxHeartbeats 8000000
theorem u64_milh (n : Nat) (h : n ≤ 1000000) : IntKind.u64.wrap (n : Int) = n := by
  show (n : Int) % 18446744073709551616 = n
  omega
theorem E_beqT {st : St} {ρ : Rg} {x y : Operand} {ty : Nat} {a b : Bool} (hx : fl ρ x = some (.bool a)) (hy : fl ρ y = some (.bool b)) (h : a = b) : stepV Tryz.prog st ρ (.binOp .eql 4 x y ty) = some (vB true) := by
  rw [E_beqF hx hy,decide_eq_true h]
theorem seek_hid (p : List Cl) (n : ByteArray) : ∀ l : List ByteArray,∃ o g,seekL p n l = (o,g,hidL p n l)
  | [] => ⟨_,_,rfl⟩
  | c :: l => by
    rw [seekL]
    unfold hidL
    rw [List.any_cons]
    by_cases h : 0 ≤ ownF p c n
    · rw [if_pos h,decide_eq_true h]
      exact ⟨_,_,rfl⟩
    · rw [if_neg h,decide_eq_false h]
      exact seek_hid p n l
attribute [local irreducible] Tri TriL TriP CallT stepV stepW thenQ inQ endQ endN
theorem sp5 (l : List (List Int)) (a b : Int) : PC 5 [.d (encL encIs l),vI a,vI b] (fun r => r = vB true) := by
  have h6 := sp6 l
  have h9 := sp9
  intro S T M
  refine callT_go [] [] Tryz.func5 rfl Tryz.ntmps5 Tryz.results5 ?_
  repeat' (first | apply triL_nil | (apply V;rfl;(first | (apply E_mv;rfl) | (apply E_as;rfl) | (apply E_fa;(apply plT;rfl);rfl;rfl;decide) | (apply E_ld;(apply tyT;rfl);rfl;(apply at_;rfl;rfl);rfl) | (apply E_len;(apply elT;rfl);rfl;rfl))) | (apply Vp;rfl;rfl;apply fnT;rfl;apply h6;rintro _ ⟨p,rfl,hp⟩) | (apply Vd;rfl;(apply E_eql;rfl;rfl);all_goals intro h_) | (apply Vw;rfl;(apply W_alL;rfl;(apply tyT;rfl))) | (apply Vs;rfl;(apply W_stL;rfl;(apply tyT;rfl);rfl;rfl;rfl;(first | apply okC_new | (apply okC_ge;omega));rfl;rfl;(first | decide | (apply Nat.le_of_ble_eq_true;rfl)))) | (apply s_region;rfl) | apply tri_seq | apply tri_skip | apply tri_ret | (apply tri_condT;rfl) | (apply tri_condF;rfl) | (apply end_q _ (.inr rfl);(exact List.prefix_append _ _);(focus repeat (first | apply R_nil | (apply R_tmp;rfl)));rfl) | apply p_then | apply p_thenR)
  · exact absurd (List.eq_nil_of_length_eq_zero (by simp_all)) hp.2.2.2.2.1
  obtain ⟨hz,hB,hC,hF,hne,hNE,hNB⟩ := hp
  have hs := Small_of hz
  have hpl := hs.1
  have hp0 : 0 < p.length := List.length_pos_iff.2 hne
  obtain ⟨d,hd,hlt⟩ := u64_mod2 a p.length hp0
  obtain ⟨c,hc⟩ : ∃ c,p[d]? = some c := ⟨_,List.getElem?_eq_getElem hlt⟩
  have hu := u64_milh p.length hpl
  have hci := cls_is hc
  have hfl := hs.2 c (List.mem_of_getElem? hc)
  have hcc := classC_self hC hc
  have hch : (chC p c.name).drop 1 = chC p c.super := by rw [ch_step hC hNE hc];rfl
  have hsup := sup_eq hC hc
  by_cases hf0 : c.fields.length = 0
  · repeat' (first | apply triL_nil | (apply V;rfl;(first | (apply E_mv;rfl) | (apply E_as;rfl) | (apply E_fa;(apply plT;rfl);rfl;rfl;decide) | (apply E_ld;(apply tyT;rfl);rfl;(apply at_;rfl;rfl);rfl) | (apply E_lea;(apply tyT;rfl);rfl;(first | rfl | apply encEx_len | apply encSm_len)) | (apply E_len;(apply elT;rfl);rfl;rfl) | (apply E_cvt;rfl;(apply udT;rfl);(apply udT;rfl)) | (apply E_remW;rfl;rfl;(show IntKind.u64.wrap (p.length : Int) ≠ 0;rw [hu];omega);exact (congrArg (Int.tmod (IntKind.u64.wrap a)) hu).trans hd) | (apply E_ial (c := c);apply elT;rfl;rfl;rfl;rfl;exact encCl_len;omega;simpa using hc))) | (apply s_drawn (nt := 74) (.take 0 (.take 1 (.take 2 (.take 3 (.take 4 (.take 5 (.take 6 (.take 7 (.take 8 (.take 9 (.take 10 (.one 11 (.one 12 .nil))))))))))))) [] [12];exact mixed;rfl;decide +kernel) | (apply t_drawn (nt := 74) (.take 0 (.take 1 (.take 2 (.take 3 (.take 4 (.take 5 (.take 6 (.take 7 (.take 8 (.take 9 (.take 10 (.one 11 (.one 12 .nil))))))))))))) [] [12];exact mixed;rfl;decide +kernel) | (apply Vp;rfl;rfl;apply fnT;rfl;apply h9;rintro _ rfl) | (apply Vd;rfl;(apply E_eql;rfl;rfl);all_goals intro h_) | (apply s_region;rfl) | apply tri_seq | apply tri_skip | apply tri_ret | (apply tri_condT;rfl) | (apply tri_condF;rfl) | (apply end_q _ (.inr rfl);(exact List.prefix_append _ _);(focus repeat (first | apply R_nil | (apply R_tmp;rfl)));rfl) | apply p_then | apply p_thenR | apply d_nil | (apply tV;rfl;rfl;(first | (apply E_mv;rfl) | (apply E_as;rfl) | (apply E_fa;(apply plT;rfl);rfl;rfl;decide) | (apply E_ld;(apply tyT;rfl);rfl;(apply at_;rfl;rfl);rfl) | (apply E_lea;(apply tyT;rfl);rfl;(first | rfl | apply encEx_len | apply encSm_len)) | (apply E_len;(apply elT;rfl);rfl;rfl) | (apply E_cvt;rfl;(apply udT;rfl);(apply udT;rfl)) | (apply E_remW;rfl;rfl;(show IntKind.u64.wrap (p.length : Int) ≠ 0;rw [hu];omega);exact (congrArg (Int.tmod (IntKind.u64.wrap a)) hu).trans hd) | (apply E_ial (c := c);apply elT;rfl;rfl;rfl;rfl;exact encCl_len;omega;simpa using hc));rfl) | (apply oW;rfl;rfl;(apply W_alL;rfl;(apply tyT;rfl))) | (apply oS;rfl;rfl;(apply W_stL;rfl;(apply tyT;rfl);rfl;rfl;rfl;(first | (apply okD_new;rfl) | (apply okD_ge;omega;rfl));rfl;rfl;(first | decide | (apply Nat.le_of_ble_eq_true;rfl)))) | (exfalso;omega))
    all_goals rfl
  obtain ⟨e,he,hle⟩ := u64_mod2 b c.fields.length (by omega)
  have hu2 := u64_milh c.fields.length hfl
  obtain ⟨f,hf⟩ : ∃ f,c.fields[e]? = some f := ⟨_,List.getElem?_eq_getElem hle⟩
  have hfm := List.mem_of_getElem? hf
  have h14 := sp14 p c.name hpl
  rw [hsup] at h14
  have h7 := sp7 p c.super f.name hs hC
  obtain ⟨o,g,hk⟩ := seek_hid p f.name (chC p c.super)
  rw [hk] at h7
  have h15 := sp15 p c.name f.name hs hC
  have hown : 0 ≤ ownF p c.name f.name := by
    unfold ownF
    rw [hcc]
    rcases findF_spec c.fields f.name with ⟨_,h1⟩ | ⟨j,hj,h1,_⟩
    · exact absurd rfl (h1 f hfm)
    · omega
  rw [decide_eq_true hown,Bool.true_and,hch] at h15
  have h15n := sp15 p c.name NBD hs hC
  have hno : ¬ 0 ≤ ownF p c.name NBD := by
    unfold ownF
    rw [hcc]
    rcases findF_spec c.fields NBD with ⟨h1,_⟩ | ⟨j,hj,h1,h2,_⟩
    · omega
    · exact absurd h2 (hNB c (List.mem_of_getElem? hc) _ (List.getElem_mem hj))
  rw [decide_eq_false hno,Bool.false_and] at h15n
  generalize hidL p f.name (chC p c.super) = B at *
  clear hk hown hno hch hcc hsup hC hF hB hz hNE hNB h6
  repeat' (first | apply triL_nil | (apply V;rfl;(first | (apply E_beqT;rfl;rfl;rfl) | (apply E_mv;rfl) | (apply E_as;rfl) | (apply E_fa;(apply plT;rfl);rfl;rfl;decide) | (apply E_lda;(apply tyT;rfl);rfl;(apply at_;rfl;rfl);rfl) | (apply E_ld;(apply tyT;rfl);rfl;(apply at_;rfl;rfl);rfl) | (apply E_lea;(apply tyT;rfl);rfl;(first | rfl | apply encEx_len | apply encSm_len)) | (apply E_len;(apply elT;rfl);rfl;rfl) | (apply E_pkT;rfl;rfl) | (apply E_ex;rfl;rfl) | (apply E_not;rfl) | (apply E_cvt;rfl;(apply udT;rfl);(apply udT;rfl)) | (apply E_remW;rfl;rfl;(show IntKind.u64.wrap (p.length : Int) ≠ 0;rw [hu];omega);exact (congrArg (Int.tmod (IntKind.u64.wrap a)) hu).trans hd) | (apply E_remW;rfl;rfl;(show IntKind.u64.wrap (c.fields.length : Int) ≠ 0;rw [hu2];omega);exact (congrArg (Int.tmod (IntKind.u64.wrap b)) hu2).trans he) | (apply E_ial (c := c);apply elT;rfl;rfl;rfl;rfl;exact encCl_len;omega;simpa using hc) | (apply E_ial (c := f);apply elT;rfl;rfl;rfl;rfl;exact encFi_len;omega;simpa using hf))) | (apply s_drawn (nt := 74) (.take 0 (.take 1 (.take 2 (.take 3 (.take 4 (.take 5 (.take 6 (.take 7 (.take 8 (.take 9 (.take 10 (.one 11 (.one 12 .nil))))))))))))) [] [12];exact mixed;rfl;decide +kernel) | (apply t_drawn (nt := 74) (.take 0 (.take 1 (.take 2 (.take 3 (.take 4 (.take 5 (.take 6 (.take 7 (.take 8 (.take 9 (.take 10 (.one 11 (.one 12 .nil))))))))))))) [] [12];exact mixed;rfl;decide +kernel) | (apply s_drawn (nt := 74) (.take 0 (.take 1 (.take 2 (.take 3 (.take 4 (.take 5 (.take 6 (.take 7 (.take 8 (.take 9 (.take 10 (.one 11 (.one 12 .nil))))))))))))) [] [12];exact mixed;rfl;decide +kernel) | (apply t_drawn (nt := 74) (.take 0 (.take 1 (.take 2 (.take 3 (.take 4 (.take 5 (.take 6 (.take 7 (.take 8 (.take 9 (.take 10 (.one 11 (.one 12 .nil))))))))))))) [] [12];exact mixed;rfl;decide +kernel) | (apply s_drawn (nt := 74) (.take 0 (.take 1 (.take 2 (.take 3 (.take 5 (.take 6 (.fork 4 (.fork 7 (.take 8 (.take 9 (.take 10 (.one 11 (.one 12 (.take 13 .nil)))))) 11 (.one 7 (.take 8 (.take 9 (.take 10 (.one 12 (.take 13 .nil))))))) 11 (.one 4 (.one 7 (.take 8 (.take 9 (.take 10 (.one 12 (.take 13 .nil)))))))))))))) [S.length + 3] [];exact mixed;rfl;decide +kernel) | apply d_fork | (apply tV;rfl;rfl;(first | (apply E_lda;(apply tyT;rfl);rfl;(apply at_;rfl;rfl);rfl) | (apply E_ld;(apply tyT;rfl);rfl;(apply at_;rfl;rfl);rfl));(apply stab_ne;rfl;(focus (first | (simp;done) | (simp;omega))))) | (apply oS;rfl;rfl;(apply W_stL;rfl;(apply tyT;rfl);rfl;rfl;rfl;(apply okD_geW;omega;(simp));rfl;rfl;(apply Nat.le_of_ble_eq_true;rfl))) | (apply oP;rfl;rfl;rfl;apply fnT;rfl;apply h14;rintro _ rfl) | (apply oP;rfl;rfl;rfl;apply fnT;rfl;apply h7;rintro _ rfl) | (apply Vp;rfl;rfl;apply fnT;rfl;apply h9;rintro _ rfl) | (apply Vp;rfl;rfl;apply fnT;rfl;apply h15;rintro _ rfl) | (apply Vp;rfl;rfl;apply fnT;rfl;apply h15n;rintro _ rfl) | (apply Vd;rfl;(apply E_eql;rfl;rfl);all_goals intro h_) | (apply s_region;rfl) | apply tri_seq | apply tri_skip | apply tri_ret | (apply tri_condT;rfl) | (apply tri_condF;rfl) | (apply end_q _ (.inr rfl);(exact List.prefix_append _ _);(focus repeat (first | apply R_nil | (apply R_tmp;rfl)));rfl) | apply p_then | apply p_thenR | apply d_nil | (apply tV;rfl;rfl;(first | (apply E_beqT;rfl;rfl;rfl) | (apply E_mv;rfl) | (apply E_as;rfl) | (apply E_fa;(apply plT;rfl);rfl;rfl;decide) | (apply E_lda;(apply tyT;rfl);rfl;(apply at_;rfl;rfl);rfl) | (apply E_ld;(apply tyT;rfl);rfl;(apply at_;rfl;rfl);rfl) | (apply E_lea;(apply tyT;rfl);rfl;(first | rfl | apply encEx_len | apply encSm_len)) | (apply E_len;(apply elT;rfl);rfl;rfl) | (apply E_pkT;rfl;rfl) | (apply E_ex;rfl;rfl) | (apply E_not;rfl) | (apply E_cvt;rfl;(apply udT;rfl);(apply udT;rfl)) | (apply E_remW;rfl;rfl;(show IntKind.u64.wrap (p.length : Int) ≠ 0;rw [hu];omega);exact (congrArg (Int.tmod (IntKind.u64.wrap a)) hu).trans hd) | (apply E_remW;rfl;rfl;(show IntKind.u64.wrap (c.fields.length : Int) ≠ 0;rw [hu2];omega);exact (congrArg (Int.tmod (IntKind.u64.wrap b)) hu2).trans he) | (apply E_ial (c := c);apply elT;rfl;rfl;rfl;rfl;exact encCl_len;omega;simpa using hc) | (apply E_ial (c := f);apply elT;rfl;rfl;rfl;rfl;exact encFi_len;omega;simpa using hf));rfl) | (apply oW;rfl;rfl;(apply W_alL;rfl;(apply tyT;rfl))) | (apply oS;rfl;rfl;(apply W_stL;rfl;(apply tyT;rfl);rfl;rfl;rfl;(first | (apply okD_new;rfl) | (apply okD_ge;omega;rfl));rfl;rfl;(first | decide | (apply Nat.le_of_ble_eq_true;rfl)))) | (exfalso;omega))
  all_goals first | rfl | trace_state
end Go.Proofs.YtokilnhpepbjlaaGreat
