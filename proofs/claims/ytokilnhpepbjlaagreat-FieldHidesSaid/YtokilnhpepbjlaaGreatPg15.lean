/- Texts of the claim, merged: TK. No conditions. -/
import Derived.Test.YtokilnhpepbjlaaGreatPg8
import Derived.Test.YtokilnhpepbjlaaGreatPg3
import Derived.Test.YtokilnhpepbjlaaGreatPg9
import Derived.Test.YtokilnhpepbjlaaGreatPg14
namespace Go.Proofs.YtokilnhpepbjlaaGreat
open Go Go.RowKit Go.Proofs.YtokilnhpepbjlaaGreat.Calc
set_option linter.unusedVariables false
set_option linter.unusedSimpArgs false
set_option maxRecDepth 100000
set_option maxHeartbeats 8000000
def OKm (p : List Cl) : Prop := Sz p ∧ BP p ∧ (checkC p).1 = 0 ∧ (checkF p).1 = 0 ∧ p ≠ [] ∧ NE p ∧ NBP p
mutual
def bEx : Ex → Bool
  | .mk _ _ t na ty l _ _ => decide (t.size ≤ 1000000) && decide (na.size ≤ 1000000) && decide (ty.size ≤ 1000000) && bExs l
def bExs : List Ex → Bool
  | [] => true
  | e :: l => bEx e && bExs l
end
mutual
def bSm : Sm → Bool
  | .mk _ _ ty nm e a b c _ => decide (ty.size ≤ 1000000) && decide (nm.size ≤ 1000000) && bExs e && bSms a && bSms b && bSms c
def bSms : List Sm → Bool
  | [] => true
  | e :: l => bSm e && bSms l
end
mutual
theorem bEx_ok : ∀ e,bEx e = true → BEx e
  | .mk _ _ t na ty l _ _,h => by
    rw [bEx] at h
    simp only [Bool.and_eq_true,decide_eq_true_eq] at h
    rw [BEx]
    exact ⟨h.1.1.1,h.1.1.2,h.1.2,bExs_ok l h.2⟩
theorem bExs_ok : ∀ l,bExs l = true → BExs l
  | [],_ => by rw [BExs];trivial
  | e :: l,h => by
    rw [bExs] at h
    simp only [Bool.and_eq_true] at h
    rw [BExs]
    exact ⟨bEx_ok e h.1,bExs_ok l h.2⟩
end
mutual
theorem bSm_ok : ∀ e,bSm e = true → BSm e
  | .mk _ _ ty nm e a b c _,h => by
    rw [bSm] at h
    simp only [Bool.and_eq_true,decide_eq_true_eq] at h
    rw [BSm]
    exact ⟨h.1.1.1.1.1,h.1.1.1.1.2,bExs_ok e h.1.1.1.2,bSms_ok a h.1.1.2,bSms_ok b h.1.2,bSms_ok c h.2⟩
theorem bSms_ok : ∀ l,bSms l = true → BSms l
  | [],_ => by rw [BSms];trivial
  | e :: l,h => by
    rw [bSms] at h
    simp only [Bool.and_eq_true] at h
    rw [BSms]
    exact ⟨bSm_ok e h.1,bSms_ok l h.2⟩
end
def bP (p : List Cl) : Bool := p.all fun c => decide (c.name.size ≤ 1000000) && decide (c.super.size ≤ 1000000) && (c.fields.all fun f => decide (f.typ.size ≤ 1000000) && decide (f.name.size ≤ 1000000) && bExs f.init) && c.methods.all fun m => decide (m.typ.size ≤ 1000000) && decide (m.name.size ≤ 1000000) && (m.params.all fun x => decide (x.typ.size ≤ 1000000) && decide (x.name.size ≤ 1000000)) && bSms m.body
theorem bP_ok {p : List Cl} (h : bP p = true) : BP p := by
  intro c hc
  have h1 := List.all_eq_true.1 h c hc
  simp only [Bool.and_eq_true,decide_eq_true_eq,List.all_eq_true] at h1
  obtain ⟨⟨⟨a1,a2⟩,a3⟩,a4⟩ := h1
  refine ⟨a1,a2,fun f hf => ?_,fun m hm => ?_⟩
  · obtain ⟨⟨b1,b2⟩,b3⟩ := a3 f hf
    exact ⟨b1,b2,bExs_ok _ b3⟩
  · obtain ⟨⟨⟨b1,b2⟩,b3⟩,b4⟩ := a4 m hm
    exact ⟨b1,b2,fun x hx => ⟨(b3 x hx).1,(b3 x hx).2⟩,bSms_ok _ b4⟩
theorem PN_s : szP PN ≤ 1000000 := by decide +kernel
theorem PN_c : (checkC PN).1 = 0 := by decide +kernel
theorem PN_f : (checkF PN).1 = 0 := by decide +kernel
theorem PN_e : NE PN := by unfold NE;decide +kernel
theorem PN_n : NBP PN := by unfold NBP;decide +kernel
theorem PN_ok : OKm PN := ⟨PN_s,bP_ok (by decide +kernel),PN_c,PN_f,List.cons_ne_nil _ _,PN_e,PN_n⟩
attribute [local irreducible] Tri TriL TriP CallT stepV stepW thenQ inQ endQ
theorem sp6 (l : List (List Int)) : PC 6 [.d (encL encIs l)] (fun r => ∃ p,r = vP p ∧ OKm p) := by
  have h25 := sp17 l
  have hN24 := cn24
  have hNok := PN_ok
  have hN25 := cn25
  generalize PN = pn at *
  generalize srcN = sn at *
  intro S T M
  refine callT_go [] [] Tryz.func6 rfl Tryz.ntmps6 Tryz.results6 ?_
  repeat' (first | apply triL_nil | (apply V;rfl;(first | (apply E_mv;rfl) | (apply E_as;rfl) | (apply E_fa;(apply plT;rfl);rfl;rfl;decide) | (apply E_lda;(apply tyT;rfl);rfl;(apply at_;rfl;rfl);rfl) | (apply E_ld;(apply tyT;rfl);rfl;(apply at_;rfl;rfl);rfl) | (apply E_len;(apply elT;rfl);rfl;rfl) | (apply E_pkT;rfl;rfl) | (apply E_pkF;rfl;rfl) | (apply E_ex;rfl;rfl))) | (apply Vp;rfl;rfl;apply fnT;rfl;apply h25;rintro _ ⟨s_,rfl,hs_,hso_⟩) | (apply Vp;rfl;rfl;apply fnT;rfl;apply (sp16 s_ (by omega) (nb_ext hso_));rintro _ ⟨p_,e_,a_,rfl,hB_,hz_,hO_,hl_,hne_,hnb_⟩) | (apply Vp;rfl;rfl;apply fnT;rfl;apply (sp18 p_ hz_ hB_);rintro _ ⟨f_,t_,rfl,hf_⟩) | (apply Vp;rfl;rfl;apply fnT;rfl;apply call_wk;rfl;apply hN25;rintro _ rfl) | (apply Vp;rfl;rfl;apply fnT;rfl;apply hN24;rintro _ rfl) | (apply Vd;rfl;(first | (apply E_eql;rfl;rfl) | (apply E_neq;rfl;rfl));all_goals intro h_) | (apply Vo;rfl) | (apply Vw;rfl;(apply W_alL;rfl;(apply tyT;rfl))) | (apply Vs;rfl;(apply W_stL;rfl;(apply tyT;rfl);rfl;rfl;rfl;(first | apply okC_new | (apply okC_ge;omega));rfl;rfl;(first | decide | (apply Nat.le_of_ble_eq_true;rfl)))) | (apply s_region;rfl) | apply tri_seq | (apply tri_region;rfl) | apply tri_skip | apply tri_ret | (apply tri_condT;rfl) | (apply tri_condF;rfl) | (apply end_q _ (.inr rfl);(exact List.prefix_append _ _);(focus repeat (first | apply R_nil | (apply R_cell;rfl;rfl;apply tyT;rfl;rfl;rfl)));rfl) | apply p_then)
  all_goals first
    | exact ⟨_,rfl,hNok⟩
    | skip
  have h0 := hf_ (by omega)
  exact ⟨_,rfl,hz_,hB_,h0.1,h0.2,fun h => by subst h;simp at *,hne_,hnb_⟩
end Go.Proofs.YtokilnhpepbjlaaGreat
