/- Texts of the claim, merged: C, D, E, F, G, H, I, J, PA, PB. No conditions. -/
import Derived.Test.YtokilnhpepbjlaaGreatPg1
namespace Go.Proofs.YtokilnhpepbjlaaGreat
open Go Go.RowKit Go.Proofs.YtokilnhpepbjlaaGreat.Calc
set_option linter.unusedVariables false
set_option linter.unusedSimpArgs false
set_option maxRecDepth 100000
set_option maxHeartbeats 4000000
attribute [local irreducible] Tri TriL TriP CallT stepV stepW thenQ inQ endQ
def vRune (r n : Int) (b : Bool) : BV := .agg [.d (dN r),vI n,vB b]
theorem sp86 (s : ByteArray) (k : Nat) (hs : s.size ≤ 1000000) (hk : k < s.size) : PC 86 [vS s,vI k] (fun r => ∃ (c : Int) (n : Nat) (b : Bool),r = vRune c n b ∧ 1 ≤ n ∧ k + n ≤ s.size) := by
  intro S T M
  refine callT_go [] [] Tryz.func86 rfl Tryz.ntmps86 Tryz.results86 ?_
  repeat' (first | apply triL_nil | (apply V;rfl;(first | (apply E_mv;rfl) | (apply E_as;rfl) | (apply E_idx;(apply udT;rfl);rfl;rfl;omega))) | (apply Vw;rfl;(apply W_alL;rfl;(apply tyT;rfl))) | (apply s_region;rfl))
  refine s_mid (fun ρ st => st = ⟨S ++ [([.d (dN 0),vI 0,vB false],120)],T ++ [],M⟩ ∧ ∃ (b n lo hi : Nat),hasR ρ [(0,vS s),(1,vI k),(4,.ptr (S.length + 0) 0),(5,.d (.flat (.int .u8 b))),(6,vI n),(7,vI lo),(8,vI hi)] ∧ n ≤ 4 ∧ n ≠ 1) ?_ ?_
  · repeat' (first | apply triL_nil | (apply V;rfl;(first | (apply E_mv;rfl) | (apply E_as;rfl) | (apply E_pkT;rfl;rfl) | (apply E_pkF;rfl;rfl) | (apply E_bd;(apply plT;rfl);rfl) | (apply E_cvt;rfl;(apply udT;rfl);(apply udT;rfl)))) | (apply Vd;rfl;(first | (apply E_lss;rfl;rfl) | (apply E_leq;rfl;rfl) | (apply E_geq;rfl;rfl) | (apply E_eql;rfl;rfl));all_goals intro h_) | (apply Vo;rfl) | (apply Vs;rfl;(apply W_stL;rfl;(apply tyT;rfl);rfl;rfl;rfl;(first | apply okC_new | (apply okC_ge;omega));rfl;rfl;(first | decide | (apply Nat.le_of_ble_eq_true;rfl)))) | (apply s_region;rfl) | apply tri_seq | (apply tri_region;rfl) | apply tri_block | apply tri_skip | apply tri_ret | (apply tri_condT;rfl) | (apply tri_condF;rfl) | (apply end_q _ (.inr rfl);(exact List.prefix_append _ _);(focus repeat (first | apply R_nil | (apply R_cell;rfl;rfl;apply tyT;rfl;rfl;rfl)));rfl) | apply p_then | apply p_inN | apply p_inR | apply p_thenR)
    all_goals first | exact ⟨_,1,_,rfl,by omega,by omega⟩ | exact ⟨rfl,_,_,_,_,⟨rfl,rfl,rfl,rfl,rfl,rfl,rfl,trivial⟩,by decide,by decide⟩
  · rintro ρ _ ⟨rfl,b,n,lo,hi,hρ,hn,hn1⟩
    refine tri_weak (hasR_le hρ) ?_
    repeat' (first | apply triL_nil | (apply V;rfl;(first | (apply E_mv;rfl) | (apply E_as;rfl) | (apply E_lens;(apply udT;rfl);rfl) | (apply E_pkT;rfl;rfl) | (apply E_pkF;rfl;rfl) | (apply E_bd;(apply plT;rfl);rfl) | (apply E_cvt;rfl;(apply udT;rfl);(apply udT;rfl)) | (apply E_add64;rfl;rfl;rfl;omega) | (apply E_sub64;rfl;rfl;rfl;omega) | (apply E_sub;rfl;rfl) | (apply E_and;rfl;rfl) | (apply E_shl;rfl;rfl;(first | decide | apply u64_nn | omega)))) | (apply Vd;rfl;(first | (apply E_gtr;rfl;rfl) | (apply E_eql;rfl;rfl));all_goals intro h_) | (apply Vo;rfl) | (apply Vs;rfl;(apply W_stL;rfl;(apply tyT;rfl);rfl;rfl;rfl;(first | apply okC_new | (apply okC_ge;omega));rfl;rfl;(first | decide | (apply Nat.le_of_ble_eq_true;rfl)))) | (apply s_region;rfl) | apply tri_seq | apply tri_block | apply tri_skip | apply tri_ret | (apply tri_condT;rfl) | (apply tri_condF;rfl) | (apply end_q _ (.inr rfl);(exact List.prefix_append _ _);(focus repeat (first | apply R_nil | (apply R_cell;rfl;rfl;apply tyT;rfl;rfl;rfl)));rfl) | apply p_then | apply p_thenR)
    · exact ⟨_,1,_,rfl,by omega,by omega⟩
    · exact ⟨_,1,_,rfl,by omega,by omega⟩
    · refine tri_rounds (fun j : Nat × Int => n - j.1) (fun j => [(0,vS s),(1,vI k),(4,.ptr (S.length + 0) 0),(6,vI n),(7,vI lo),(8,vI hi),(9,.d (dN j.2)),(10,vI j.1)]) (fun _ => ⟨S ++ [([.d (dN 0),vI 0,vB false],120)],T ++ [],M⟩) (fun j => 1 ≤ j.1 ∧ j.1 ≤ n) (1,_) (by omega) ⟨rfl,rfl,rfl,rfl,rfl,rfl,rfl,rfl,trivial⟩ rfl ?_
      rintro ⟨j,r⟩ ⟨hj,hjn⟩
      repeat' (first | apply triL_nil | (apply V;rfl;(first | (apply E_mv;rfl) | (apply E_as;rfl) | (apply E_pkT;rfl;rfl) | (apply E_pkF;rfl;rfl) | (apply E_bd;(apply plT;rfl);rfl) | (apply E_cvt;rfl;(apply udT;rfl);(apply udT;rfl)) | (apply E_idx;(apply udT;rfl);rfl;rfl;omega) | (apply E_add64;rfl;rfl;rfl;omega) | (apply E_and;rfl;rfl) | (apply E_or;rfl;rfl) | (apply E_shl;rfl;rfl;(first | decide | apply u64_nn | omega)))) | (apply Vd;rfl;(first | (apply E_lss;rfl;rfl) | (apply E_gtr;rfl;rfl) | (apply E_eql;rfl;rfl));all_goals intro h_) | (apply Vo;rfl) | (apply Vs;rfl;(apply W_stL;rfl;(apply tyT;rfl);rfl;rfl;rfl;(first | apply okC_new | (apply okC_ge;omega));rfl;rfl;(first | decide | (apply Nat.le_of_ble_eq_true;rfl)))) | (apply s_region;rfl) | apply tri_seq | (apply tri_region;rfl) | apply tri_block | apply tri_skip | apply tri_exit | apply tri_ret | (apply tri_condT;rfl) | (apply tri_condF;rfl) | (apply end_q _ (.inr rfl);(exact List.prefix_append _ _);(focus repeat (first | apply R_nil | (apply R_cell;rfl;rfl;apply tyT;rfl;rfl;rfl)));rfl) | apply p_then | apply p_in | apply p_inN | apply p_inR | apply p_thenR | apply p_thenE)
      all_goals first | exact ⟨_,1,_,rfl,by omega,by omega⟩ | exact ⟨_,n,_,rfl,by omega,by omega⟩ | exact ⟨(j + 1,_),by simp only;omega,by simp only;omega,⟨rfl,rfl,rfl,rfl,rfl,rfl,rfl,rfl,trivial⟩,rfl⟩
theorem sp58 (s : ByteArray) (hs : s.size ≤ 1000000) : PC 58 [vS s] (fun r => ∃ n : Int,r = vI n ∧ -1 ≤ n ∧ n ≤ s.size) := by
  intro S T M
  refine callT_go [] [] Tryz.func58 rfl Tryz.ntmps58 Tryz.results58 ?_
  repeat' (first | apply triL_nil | (apply V;rfl;(apply E_as;rfl)) | (apply s_region;rfl) | apply tri_seq | apply tri_block)
  refine tri_grow (fun k : Nat => s.size - k) (fun k => [(0,vS s),(3,vI k)]) (fun k S1 T1 => k ≤ s.size ∧ S.length ≤ S1.length ∧ T <+: T1) 0 ⟨Nat.zero_le _,by simp,by simp⟩ ⟨rfl,rfl,trivial⟩ ?_
  rintro k S1 T1 ⟨hk,hS,hT⟩
  repeat' (first | apply triL_nil | (apply V;rfl;(first | (apply E_mv;rfl) | (apply E_as;rfl) | (apply E_fa;(apply plT;rfl);rfl;rfl;decide) | (apply E_ld;(apply tyT;rfl);rfl;(apply at_;rfl;rfl);rfl) | (apply E_lens;(apply udT;rfl);rfl) | (apply E_add64;rfl;rfl;rfl;omega))) | (apply Vp;rfl;rfl;apply fnT;rfl;apply sp86;assumption;omega;rintro _ ⟨c_,n_,(_ | _),rfl,hn_,hm_⟩) | (apply Vd;rfl;(apply E_lss;rfl;rfl);all_goals intro h_) | (apply Vw;rfl;(apply W_alL;rfl;(apply tyT;rfl))) | (apply Vs;rfl;(apply W_stL;rfl;(apply tyT;rfl);rfl;rfl;rfl;(first | apply okC_new | (apply okC_ge;omega));rfl;rfl;(first | decide | (apply Nat.le_of_ble_eq_true;rfl)))) | (apply s_region;rfl) | apply tri_seq | (apply tri_region;rfl) | apply tri_block | apply tri_skip | apply tri_exit | apply tri_ret | (apply tri_condT;rfl) | (apply tri_condF;rfl) | (apply end_q _ (.inr rfl);(apply pre_app;assumption);(focus repeat (first | apply R_nil | (apply R_tmp;rfl)));rfl) | apply p_then | apply p_in | apply p_inN | apply p_inR | apply p_thenR | apply p_thenE)
  · exact ⟨k + n_,_,_,by omega,⟨by omega,by simp;omega,by simpa using hT⟩,⟨rfl,vI_of (by omega),trivial⟩,rfl⟩
  · exact ⟨k,rfl,by omega,by omega⟩
  · exact ⟨-1,rfl,by omega,by omega⟩
theorem sp90 (s : ByteArray) (hs : s.size ≤ 1000000) : PC 90 [vS s] (fun r => ∃ t b,r = .tup [vS t,vB b] ∧ t.size ≤ s.size) := by
  intro S T M
  refine callT_go [] [] Tryz.func90 rfl Tryz.ntmps90 Tryz.results90 ?_
  repeat' (first | apply triL_nil | (apply V;rfl;(apply E_as;rfl)) | (apply s_region;rfl) | apply tri_seq | apply tri_block)
  refine tri_grow (fun k : Nat × ByteArray => s.size - k.1) (fun k => [(0,vS s),(4,vS k.2),(5,vI k.1)]) (fun k S1 T1 => k.1 ≤ s.size ∧ k.2.size ≤ k.1 ∧ S.length ≤ S1.length ∧ T <+: T1) (0,_) ⟨Nat.zero_le _,Nat.le_refl _,by simp,by simp⟩ ⟨rfl,rfl,rfl,trivial⟩ ?_
  rintro ⟨k,out⟩ S1 T1 ⟨hk,ho,hS,hT⟩
  simp only at hk ho
  repeat' (first | apply triL_nil | (apply V;rfl;(first | (apply E_mv;rfl) | (apply E_as;rfl) | (apply E_fa;(apply plT;rfl);rfl;rfl;decide) | (apply E_ld;(apply tyT;rfl);rfl;(apply at_;rfl;rfl);rfl) | (apply E_lens;(apply udT;rfl);rfl) | (apply E_pkT;rfl;rfl) | (apply E_pkF;rfl;rfl) | (apply E_idx;(apply udT;rfl);rfl;rfl;omega) | (apply E_add64;rfl;rfl;rfl;omega) | (apply E_sls;(apply udT;rfl);rfl;rfl;rfl;(first | exact .inr ⟨_,_,rfl,by omega,rfl⟩ | exact .inl ⟨rfl,rfl⟩);(first | exact .inr ⟨_,_,rfl,by omega,rfl⟩ | exact .inl ⟨rfl,rfl⟩);(first | omega | (simp only [ByteArray.size_append,ByteArray.size_extract,size_mk,List.size_toArray,List.length_cons,List.length_nil,List.length_append] at *;omega));(first | omega | (simp only [ByteArray.size_append,ByteArray.size_extract,size_mk,List.size_toArray,List.length_cons,List.length_nil,List.length_append] at *;omega))) | (apply E_cat;rfl;rfl;(first | omega | (simp only [ByteArray.size_append,ByteArray.size_extract,size_mk,List.size_toArray,List.length_cons,List.length_nil,List.length_append] at *;omega))))) | (apply Vp;rfl;rfl;apply fnT;rfl;apply sp86;assumption;omega;rintro _ ⟨c_,n_,(_ | _),rfl,hn_,hm_⟩) | (apply Vd;rfl;(first | (apply E_lss;rfl;rfl) | (apply E_geq;rfl;rfl) | (apply E_eql;rfl;rfl) | (apply E_neq;rfl;rfl));all_goals intro h_) | (apply Vo;rfl) | (apply Vw;rfl;(apply W_alL;rfl;(apply tyT;rfl))) | (apply Vs;rfl;(apply W_stL;rfl;(apply tyT;rfl);rfl;rfl;rfl;(first | apply okC_new | (apply okC_ge;omega));rfl;rfl;(first | decide | (apply Nat.le_of_ble_eq_true;rfl)))) | (apply s_region;rfl) | apply tri_seq | (apply tri_region;rfl) | apply tri_block | apply tri_skip | apply tri_exit | apply tri_ret | (apply tri_condT;rfl) | (apply tri_condF;rfl) | (apply end_q _ (.inr rfl);(apply pre_app;assumption);(focus repeat (first | apply R_nil | (apply R_tmp;rfl)));rfl) | apply p_then | apply p_in | apply p_inN | apply p_inR | apply p_thenR | (apply p_ne;rfl) | apply p_thenE)
  all_goals simp only at *
  all_goals first
    | exact ⟨⟨#[]⟩,_,rfl,Nat.zero_le _⟩
    | exact ⟨out,_,rfl,by omega⟩
    | (refine ⟨(k + n_,_),_,_,?_,⟨?_,?_,?_,?_⟩,⟨rfl,rfl,vI_of ?_,trivial⟩,rfl⟩ <;> first | (first | omega | (simp only [ByteArray.size_append,ByteArray.size_extract,size_mk,List.size_toArray,List.length_cons,List.length_nil,List.length_append] at *;omega)) | simpa using hT)
    | (refine ⟨(k + 2,_),_,_,?_,⟨?_,?_,?_,?_⟩,⟨rfl,rfl,vI_of ?_,trivial⟩,rfl⟩ <;> first | (first | omega | (simp only [ByteArray.size_append,ByteArray.size_extract,size_mk,List.size_toArray,List.length_cons,List.length_nil,List.length_append] at *;omega)) | simpa using hT)
theorem sp89 (s : ByteArray) (k : Nat) (hs : s.size ≤ 1000000) (hk : k < s.size) : PC 89 [vS s,vI k] (fun r => ∃ n : Nat,r = vI n ∧ (n = 0 ∨ 2 ≤ n ∧ k + n ≤ s.size)) := by
  intro S T M
  refine callT_go [] [] Tryz.func89 rfl Tryz.ntmps89 Tryz.results89 ?_
  repeat' (first | apply triL_nil | (apply V;rfl;(first | (apply E_mv;rfl) | (apply E_as;rfl) | (apply E_add64;rfl;rfl;rfl;omega))) | (apply s_region;rfl) | apply tri_seq | apply tri_block)
  refine tri_rounds (fun j : Nat => s.size - j) (fun j => [(0,vS s),(1,vI k),(5,vI j)]) (fun _ => ⟨S ++ [],T ++ [],M⟩) (fun j => k + 1 ≤ j ∧ j ≤ s.size) (k + 1) ⟨by omega,by omega⟩ ⟨rfl,rfl,vI_of (by omega),trivial⟩ rfl ?_
  rintro j ⟨hj,hjs⟩
  repeat' (first | apply triL_nil | (apply V;rfl;(first | (apply E_mv;rfl) | (apply E_as;rfl) | (apply E_lens;(apply udT;rfl);rfl) | (apply E_pkT;rfl;rfl) | (apply E_pkF;rfl;rfl) | (apply E_ex;rfl;rfl) | (apply E_not;rfl) | (apply E_idx;(apply udT;rfl);rfl;rfl;omega) | (apply E_add64;rfl;rfl;rfl;omega) | (apply E_sub64;rfl;rfl;rfl;omega) | (apply E_sls;(apply udT;rfl);rfl;rfl;rfl;(first | exact .inr ⟨_,_,rfl,by omega,rfl⟩ | exact .inl ⟨rfl,rfl⟩);(first | exact .inr ⟨_,_,rfl,by omega,rfl⟩ | exact .inl ⟨rfl,rfl⟩);(first | omega | (simp only [ByteArray.size_append,ByteArray.size_extract,size_mk,List.size_toArray,List.length_cons,List.length_nil,List.length_append] at *;omega));(first | omega | (simp only [ByteArray.size_append,ByteArray.size_extract,size_mk,List.size_toArray,List.length_cons,List.length_nil,List.length_append] at *;omega))))) | (apply Vp;rfl;rfl;apply fnT;rfl;apply sp90;(first | omega | (simp only [ByteArray.size_append,ByteArray.size_extract,size_mk,List.size_toArray,List.length_cons,List.length_nil,List.length_append] at *;omega));rintro _ ⟨t_,(_ | _),rfl,ht_⟩) | (apply Vd;rfl;(first | (apply E_lss;rfl;rfl) | (apply E_geq;rfl;rfl) | (apply E_eql;rfl;rfl) | (apply E_neq;rfl;rfl));all_goals intro h_) | (apply Vo;rfl) | (apply s_region;rfl) | apply tri_seq | (apply tri_region;rfl) | apply tri_block | apply tri_skip | apply tri_exit | apply tri_ret | (apply tri_condT;rfl) | (apply tri_condF;rfl) | (apply end_q _ (.inr rfl);(exact List.prefix_append _ _);(focus repeat (first | apply R_nil | (apply R_tmp;rfl)));rfl) | apply p_then | apply p_in | apply p_inN | apply p_inR | apply p_thenR | apply p_thenE)
  all_goals first
    | exact ⟨0,rfl,.inl rfl⟩
    | exact ⟨j + 1,by omega,⟨by omega,by omega⟩,⟨rfl,rfl,vI_of (by omega),trivial⟩,rfl⟩
    | exact ⟨j + 2,by omega,⟨by omega,by omega⟩,⟨rfl,rfl,vI_of (by omega),trivial⟩,rfl⟩
    | exact ⟨j + 1 - k,Option.some.inj (vI_of (by omega)),.inr ⟨by omega,by omega⟩⟩
structure Wd where
  kind : Int
  text : ByteArray
  loc : Int
def encWd (w : Wd) : List DV := [dI w.kind,dS w.text,dI w.loc]
def vWd (a : Int) (t : ByteArray) (b : Int) : BV := .agg [vI a,vS t,vI b]
theorem sp59 (s : ByteArray) (k : Nat) (hs : s.size ≤ 1000000) (hk : k < s.size) : PC 59 [vS s,vI k] (fun r => ∃ (a b : Int) (t : ByteArray) (n : Nat),r = .tup [vWd a t b,vI n] ∧ k + n ≤ s.size ∧ t.size ≤ s.size ∧ (a = 1 → ∃ i j,t = s.extract i j)) := by
  intro S T M
  refine callT_go [] [] Tryz.func59 rfl Tryz.ntmps59 Tryz.results59 ?_
  repeat' (first | apply triL_nil | (apply V;rfl;(first | (apply E_mv;rfl) | (apply E_as;rfl) | (apply E_idx;(apply udT;rfl);rfl;rfl;omega))) | (apply Vw;rfl;(apply W_alL;rfl;(apply tyT;rfl))) | (apply s_region;rfl))
  apply tri_seq
  apply tri_block
  repeat' (first | apply triL_nil | (apply V;rfl;(first | (apply E_mv;rfl) | (apply E_as;rfl) | (apply E_pkT;rfl;rfl) | (apply E_pkF;rfl;rfl))) | (apply Vd;rfl;(apply E_eql;rfl;rfl);all_goals intro h_) | (apply Vo;rfl) | (apply s_region;rfl))
  iterate 4
    focus
      repeat' (first | apply triL_nil | (apply V;rfl;(first | (apply E_as;rfl) | (apply E_bd;(apply plT;rfl);rfl))) | (apply Vs;rfl;(apply W_stL;rfl;(apply tyT;rfl);rfl;rfl;rfl;(first | apply okC_new | (apply okC_ge;omega));rfl;rfl;(first | decide | (apply Nat.le_of_ble_eq_true;rfl)))) | (apply s_region;rfl) | apply tri_ret | (apply tri_condT;rfl) | (apply end_q _ (.inr rfl);(exact List.prefix_append _ _);(focus repeat (first | apply R_nil | (apply R_tmp;rfl) | (apply R_cell;rfl;rfl;apply tyT;rfl;rfl;rfl)));rfl) | apply p_inR | apply p_thenR)
      exact ⟨_,_,⟨#[]⟩,1,rfl,by omega,Nat.zero_le _,fun h => absurd h (by decide)⟩
  apply tri_condF
  · rfl
  generalize (s.data.toList.getD (k : Int).toNat 0) = c
  refine s_mid (fun ρ st => st = ⟨S ++ [([vI 0,vS ⟨#[]⟩,vI 0],93)],T ++ [],M⟩ ∧ ∃ b,hasR ρ [(0,vS s),(1,vI k),(4,.ptr (S.length + 0) 0),(6,.d (.flat (.int .u8 c.toNat))),(7,vI 1),(29,vB b)]) ?_ ?_
  · repeat' (first | apply triL_nil | (apply V;rfl;(first | (apply E_mv;rfl) | (apply E_as;rfl) | (apply E_lens;(apply udT;rfl);rfl) | (apply E_pkT;rfl;rfl) | (apply E_pkF;rfl;rfl) | (apply E_idx;(apply udT;rfl);rfl;rfl;omega) | (apply E_add64;rfl;rfl;rfl;omega))) | (apply Vd;rfl;(first | (apply E_lss;rfl;rfl) | (apply E_eql;rfl;rfl));all_goals intro h_) | (apply Vo;rfl) | (apply tri_region;rfl) | apply p_then)
    all_goals exact ⟨rfl,_,rfl,rfl,rfl,rfl,rfl,rfl,trivial⟩
  rintro ρ _ ⟨rfl,b,hρ⟩
  refine tri_weak (hasR_le hρ) ?_
  cases b
  · repeat' (first | apply triL_nil | (apply V;rfl;(first | (apply E_mv;rfl) | (apply E_as;rfl) | (apply E_lens;(apply udT;rfl);rfl) | (apply E_pkT;rfl;rfl) | (apply E_pkF;rfl;rfl) | (apply E_ex;rfl;rfl) | (apply E_bd;(apply plT;rfl);rfl) | (apply E_cvt;rfl;(apply udT;rfl);(apply udT;rfl)) | (apply E_add64;rfl;rfl;rfl;omega) | (apply E_sub64;rfl;rfl;rfl;omega) | (apply E_sls;(apply udT;rfl);rfl;rfl;rfl;(first | exact .inr ⟨_,_,rfl,by omega,rfl⟩ | exact .inl ⟨rfl,rfl⟩);(first | exact .inr ⟨_,_,rfl,by omega,rfl⟩ | exact .inl ⟨rfl,rfl⟩);(first | omega | (simp only [ByteArray.size_append,ByteArray.size_extract,size_mk,List.size_toArray,List.length_cons,List.length_nil,List.length_append] at *;omega));(first | omega | (simp only [ByteArray.size_append,ByteArray.size_extract,size_mk,List.size_toArray,List.length_cons,List.length_nil,List.length_append] at *;omega))))) | (apply Vp;rfl;rfl;apply fnT;rfl;apply sp87;rintro _ ⟨(_ | _),rfl⟩) | (apply Vp;rfl;rfl;apply fnT;rfl;apply sp88;rintro _ ⟨(_ | _),rfl⟩) | (apply Vp;rfl;rfl;apply fnT;rfl;apply call_wk;rfl;apply sp27d;rfl;rfl;rintro _ ⟨(_ | _),rfl,hin_⟩) | (apply Vp;rfl;rfl;apply fnT;rfl;apply sp89;assumption;assumption;rintro _ ⟨m_,rfl,hm_⟩) | (apply Vp;rfl;rfl;apply fnT;rfl;apply sp90;(first | omega | (simp only [ByteArray.size_append,ByteArray.size_extract,size_mk,List.size_toArray,List.length_cons,List.length_nil,List.length_append] at *;omega));rintro _ ⟨t_,(_ | _),rfl,ht_⟩) | (apply Vd;rfl;(first | (apply E_leq;rfl;rfl) | (apply E_eql;rfl;rfl));all_goals intro h_) | (apply Vo;rfl) | (apply Vw;rfl;(apply W_bsL;rfl;(apply elT;rfl);(apply tyT;rfl);rfl;decide;rfl;rfl)) | (apply Vs;rfl;(apply W_stL;rfl;(apply tyT;rfl);rfl;rfl;rfl;(first | apply okC_new | (apply okC_ge;omega));rfl;rfl;(first | decide | (apply Nat.le_of_ble_eq_true;rfl)))) | (apply s_region;rfl) | apply tri_seq | apply tri_block | apply tri_skip | apply tri_ret | (apply tri_condT;rfl) | (apply tri_condF;rfl) | (apply end_q _ (.inr rfl);(exact List.prefix_append _ _);(focus repeat (first | apply R_nil | (apply R_tmp;rfl) | (apply R_cell;rfl;rfl;apply tyT;rfl;rfl;rfl)));rfl) | apply p_then | apply p_inN | apply p_inR | apply p_thenR)
    all_goals first | exact ⟨_,_,_,0,rfl,by omega,by (first | omega | (simp only [ByteArray.size_append,ByteArray.size_extract,size_mk,List.size_toArray,List.length_cons,List.length_nil,List.length_append] at *;omega)),by first | exact fun h => absurd h (by decide) | exact fun _ => ⟨_,_,rfl⟩⟩ | exact ⟨_,_,_,1,rfl,by omega,by (first | omega | (simp only [ByteArray.size_append,ByteArray.size_extract,size_mk,List.size_toArray,List.length_cons,List.length_nil,List.length_append] at *;omega)),by first | exact fun h => absurd h (by decide) | exact fun _ => ⟨_,_,rfl⟩⟩ | exact ⟨_,_,_,2,rfl,by omega,by (first | omega | (simp only [ByteArray.size_append,ByteArray.size_extract,size_mk,List.size_toArray,List.length_cons,List.length_nil,List.length_append] at *;omega)),by first | exact fun h => absurd h (by decide) | exact fun _ => ⟨_,_,rfl⟩⟩ | exact ⟨_,_,_,m_,rfl,by omega,by (first | omega | (simp only [ByteArray.size_append,ByteArray.size_extract,size_mk,List.size_toArray,List.length_cons,List.length_nil,List.length_append] at *;omega)),by first | exact fun h => absurd h (by decide) | exact fun _ => ⟨_,_,rfl⟩⟩ | skip
    all_goals
      refine tri_rounds (fun n : Nat => s.size - (k + n)) (fun n => [(0,vS s),(1,vI k),(4,.ptr (S.length + 0) 0),(7,vI n)]) (fun _ => ⟨S ++ [([vI 0,vS ⟨#[]⟩,vI 0],93)],T ++ [],M⟩) (fun n => 1 ≤ n ∧ k + n ≤ s.size) 1 ⟨by omega,by omega⟩ ⟨rfl,rfl,rfl,rfl,trivial⟩ rfl ?_
      rintro n ⟨hn1,hn2⟩
      repeat' (first | apply triL_nil | (apply V;rfl;(first | (apply E_mv;rfl) | (apply E_as;rfl) | (apply E_lens;(apply udT;rfl);rfl) | (apply E_pkT;rfl;rfl) | (apply E_pkF;rfl;rfl) | (apply E_bd;(apply plT;rfl);rfl) | (apply E_cvt;rfl;(apply udT;rfl);(apply udT;rfl)) | (apply E_idx;(apply udT;rfl);rfl;rfl;omega) | (apply E_add64;rfl;rfl;rfl;omega) | (apply E_sls;(apply udT;rfl);rfl;rfl;rfl;(first | exact .inr ⟨_,_,rfl,by omega,rfl⟩ | exact .inl ⟨rfl,rfl⟩);(first | exact .inr ⟨_,_,rfl,by omega,rfl⟩ | exact .inl ⟨rfl,rfl⟩);(first | omega | (simp only [ByteArray.size_append,ByteArray.size_extract,size_mk,List.size_toArray,List.length_cons,List.length_nil,List.length_append] at *;omega));(first | omega | (simp only [ByteArray.size_append,ByteArray.size_extract,size_mk,List.size_toArray,List.length_cons,List.length_nil,List.length_append] at *;omega))))) | (apply Vp;rfl;rfl;apply fnT;rfl;apply sp87;rintro _ ⟨(_ | _),rfl⟩) | (apply Vp;rfl;rfl;apply fnT;rfl;apply sp88;rintro _ ⟨(_ | _),rfl⟩) | (apply Vd;rfl;(apply E_lss;rfl;rfl);all_goals intro h_) | (apply Vo;rfl) | (apply Vs;rfl;(apply W_stL;rfl;(apply tyT;rfl);rfl;rfl;rfl;(first | apply okC_new | (apply okC_ge;omega));rfl;rfl;(first | decide | (apply Nat.le_of_ble_eq_true;rfl)))) | (apply s_region;rfl) | apply tri_seq | (apply tri_region;rfl) | apply tri_block | apply tri_skip | apply tri_exit | apply tri_ret | (apply tri_condT;rfl) | (apply tri_condF;rfl) | (apply end_q _ (.inr rfl);(exact List.prefix_append _ _);(focus repeat (first | apply R_nil | (apply R_tmp;rfl) | (apply R_cell;rfl;rfl;apply tyT;rfl;rfl;rfl)));rfl) | apply p_then | apply p_in | apply p_inN | apply p_inR | apply p_thenR | apply p_thenE)
      all_goals first | exact ⟨_,_,_,n,rfl,by omega,by (first | omega | (simp only [ByteArray.size_append,ByteArray.size_extract,size_mk,List.size_toArray,List.length_cons,List.length_nil,List.length_append] at *;omega)),by first | exact fun h => absurd h (by decide) | exact fun _ => ⟨_,_,rfl⟩⟩ | exact ⟨n + 1,by omega,⟨by omega,by omega⟩,⟨rfl,rfl,rfl,vI_of (by omega),trivial⟩,rfl⟩
  · repeat' (first | apply tri_seq | apply tri_block | (apply tri_condT;rfl))
    refine tri_rounds (fun n : Nat => s.size - (k + n)) (fun n => [(0,vS s),(1,vI k),(4,.ptr (S.length + 0) 0),(7,vI n)]) (fun _ => ⟨S ++ [([vI 0,vS ⟨#[]⟩,vI 0],93)],T ++ [],M⟩) (fun n => 1 ≤ n ∧ k + n ≤ s.size) 1 ⟨by omega,by omega⟩ ⟨rfl,rfl,rfl,rfl,trivial⟩ rfl ?_
    rintro n ⟨hn1,hn2⟩
    repeat' (first | apply triL_nil | (apply V;rfl;(first | (apply E_mv;rfl) | (apply E_as;rfl) | (apply E_lens;(apply udT;rfl);rfl) | (apply E_pkT;rfl;rfl) | (apply E_pkF;rfl;rfl) | (apply E_bd;(apply plT;rfl);rfl) | (apply E_idx;(apply udT;rfl);rfl;rfl;omega) | (apply E_add64;rfl;rfl;rfl;omega))) | (apply Vd;rfl;(first | (apply E_lss;rfl;rfl) | (apply E_neq;rfl;rfl));all_goals intro h_) | (apply Vo;rfl) | (apply Vs;rfl;(apply W_stL;rfl;(apply tyT;rfl);rfl;rfl;rfl;(first | apply okC_new | (apply okC_ge;omega));rfl;rfl;(first | decide | (apply Nat.le_of_ble_eq_true;rfl)))) | (apply s_region;rfl) | apply tri_seq | (apply tri_region;rfl) | apply tri_block | apply tri_skip | apply tri_exit | apply tri_ret | (apply tri_condT;rfl) | (apply tri_condF;rfl) | (apply end_q _ (.inr rfl);(exact List.prefix_append _ _);(focus repeat (first | apply R_nil | (apply R_tmp;rfl) | (apply R_cell;rfl;rfl;apply tyT;rfl;rfl;rfl)));rfl) | apply p_then | apply p_in | apply p_inN | apply p_inR | apply p_thenR | apply p_thenE)
    all_goals first | exact ⟨_,_,_,n,rfl,by omega,by (first | omega | (simp only [ByteArray.size_append,ByteArray.size_extract,size_mk,List.size_toArray,List.length_cons,List.length_nil,List.length_append] at *;omega)),by first | exact fun h => absurd h (by decide) | exact fun _ => ⟨_,_,rfl⟩⟩ | exact ⟨n + 1,by omega,⟨by omega,by omega⟩,⟨rfl,rfl,rfl,vI_of (by omega),trivial⟩,rfl⟩
end Go.Proofs.YtokilnhpepbjlaaGreat
namespace Go.Proofs.YtokilnhpepbjlaaGreat
open Go Go.RowKit Go.Proofs.YtokilnhpepbjlaaGreat.Calc
set_option linter.unusedVariables false
set_option linter.unusedSimpArgs false
set_option maxRecDepth 100000
set_option maxHeartbeats 4000000
attribute [local irreducible] Tri TriL TriP CallT stepV stepW thenQ inQ endQ
theorem sp36 (s : ByteArray) (hs : s.size ≤ 1000000) : PC 36 [vS s] (fun r => ∃ (l : List Wd) (e a : Int),r = .tup [.d (encL encWd l),vI e,vI a] ∧ l.length ≤ 8000 ∧ ∀ w ∈ l,w.text.size ≤ s.size ∧ (w.kind = 1 → ∃ i j,w.text = s.extract i j)) := by
  intro S T M
  refine callT_go [] [] Tryz.func36 rfl Tryz.ntmps36 Tryz.results36 ?_
  repeat' (first | apply triL_nil | (apply V;rfl;(first | (apply E_mv;rfl) | (apply E_as;rfl) | (apply E_lens;(apply udT;rfl);rfl))) | (apply Vp;rfl;rfl;apply fnT;rfl;apply sp58;assumption;rintro _ ⟨b_,rfl,hb1_,hb2_⟩) | (apply Vd;rfl;(apply E_gtr;rfl;rfl);all_goals intro h_) | (apply s_region;rfl) | apply tri_seq | apply tri_block | apply tri_skip | apply tri_ret | (apply tri_condT;rfl) | (apply tri_condF;rfl) | (apply end_q _ (.inr rfl);(exact List.prefix_append _ _);(focus repeat (first | apply R_nil | (apply R_tmp;rfl)));rfl) | apply p_then | apply p_thenR)
  · exact ⟨[],_,_,rfl,by decide,by simp⟩
  · refine tri_ownX 6 93 3 rfl rfl ?_
    refine tri_grow (fun k : Nat × List Wd => s.size - k.1) (fun k => [(0,vS s),(5,vI b_),(6,.own 93 3 (T.length + 0) (k.2.flatMap encWd) k.2.length),(7,vI k.1)]) (fun k S1 T1 => k.1 ≤ s.size ∧ k.2.length ≤ k.1 ∧ S.length ≤ S1.length ∧ T <+: T1 ∧ T1[T.length + 0]? = some (k.2.flatMap encWd).length ∧ ∀ w ∈ k.2,w.text.size ≤ s.size ∧ (w.kind = 1 → ∃ i j,w.text = s.extract i j)) (0,[]) ⟨Nat.zero_le _,Nat.le_refl _,by simp,by simp,by simp,by simp⟩ ⟨rfl,rfl,rfl,rfl,trivial⟩ ?_
    rintro ⟨k,l⟩ S1 T1 ⟨hk,hl,hS,hT,hTg,hW⟩
    dsimp only at hk hl hTg hW ⊢
    repeat' (first | apply triL_nil | (apply V;rfl;(first | (apply E_mv;rfl) | (apply E_as;rfl) | (apply E_fa;(apply plT;rfl);rfl;rfl;decide) | (apply E_lda;(apply tyT;rfl);rfl;(apply at_;rfl;rfl);rfl) | (apply E_ld;(apply tyT;rfl);rfl;(apply at_;rfl;rfl);rfl) | (apply E_lens;(apply udT;rfl);rfl) | (apply E_pkT;rfl;rfl) | (apply E_pkF;rfl;rfl) | (apply E_ex;rfl;rfl) | (apply E_add64;rfl;rfl;rfl;omega))) | (apply Vp;rfl;rfl;apply fnT;rfl;apply sp59;assumption;omega;rintro _ ⟨a_,b2_,t_,n_,rfl,hn_,ht_,hx_⟩) | (apply Vd;rfl;(first | (apply E_lss;rfl;rfl) | (apply E_gtr;rfl;rfl) | (apply E_geq;rfl;rfl) | (apply E_eql;rfl;rfl));all_goals intro h_) | (apply Vo;rfl) | (apply Vw;rfl;(first | (apply W_alL;rfl;(apply tyT;rfl)) | (apply W_bsL;rfl;(apply elT;rfl);(apply tyT;rfl);rfl;decide;rfl;rfl) | (apply W_ap;(apply elT;rfl);(apply tyT;rfl);(apply byT;rfl);rfl;rfl;rfl;decide;rfl;(apply A_ownLO (c := (⟨a_,t_,b2_⟩ : Wd));omega;omega;assumption)))) | (apply Vs;rfl;(apply W_stL;rfl;(apply tyT;rfl);rfl;rfl;rfl;(first | apply okC_new | (apply okC_ge;omega));rfl;rfl;(first | decide | (apply Nat.le_of_ble_eq_true;rfl)))) | (apply s_region;rfl) | apply tri_seq | (apply tri_region;rfl) | apply tri_block | apply tri_skip | apply tri_exit | apply tri_ret | (apply tri_condT;rfl) | (apply tri_condF;rfl) | (apply end_q _ (.inr rfl);(apply pre_app;assumption);(focus repeat (first | apply R_nil | (apply R_tmp;rfl)));rfl) | apply p_then | apply p_in | apply p_inN | apply p_inR | apply p_thenR | apply p_thenE)
    all_goals first
      | exact ⟨[],_,_,rfl,by decide,by simp⟩
      | exact ⟨l,_,_,rfl,by omega,hW⟩
      | exact ⟨(k + n_,l),_,_,by dsimp only;omega,⟨by dsimp only;omega,by dsimp only;omega,by simp only [List.length_append];omega,pre_app hT,at_old hTg,hW⟩,⟨rfl,rfl,rfl,vI_of (by omega),trivial⟩,rfl⟩
      | exact ⟨(k + n_,l ++ [⟨a_,t_,b2_⟩]),_,_,by dsimp only;omega,⟨by dsimp only;omega,by simp only [List.length_append,List.length_singleton];omega,by simp only [List.length_append];omega,pre_app (pre_set hT (by omega)),at_set (List.getElem?_eq_some_iff.1 hTg).1,fun w hw => by rcases List.mem_append.1 hw with hw | hw;exact hW w hw;rw [List.mem_singleton.1 hw];exact ⟨ht_,hx_⟩⟩,⟨rfl,rfl,rfl,vI_of (by omega),trivial⟩,rfl⟩
end Go.Proofs.YtokilnhpepbjlaaGreat
namespace Go.Proofs.YtokilnhpepbjlaaGreat
open Go Go.RowKit Go.Proofs.YtokilnhpepbjlaaGreat.Calc
set_option linter.unusedVariables false
set_option linter.unusedSimpArgs false
set_option maxRecDepth 100000
set_option maxHeartbeats 4000000
attribute [local irreducible] Tri TriL TriP CallT stepV stepW thenQ inQ endQ
abbrev isI (r : BV) : Prop := ∃ n,r = vI n
theorem encCl_len (c : Cl) : (encCl c).length = 4 := rfl
theorem encFi_len (c : Fi) : (encFi c).length = 4 := rfl
theorem encMe_len (c : Me) : (encMe c).length = 6 := rfl
theorem encPa_len (c : Pa) : (encPa c).length = 2 := rfl
theorem row_le {f : Nat} {d : DV} {cs : List DV} {n : Nat} {args : List BV} {R : BV → Prop} (h : n ≤ 9223372036854775807 → PC f (.d (.sl cs n) :: args) R) : PC f (.d (.sl cs n) :: args) R := fun S T M =>
  call_fact (n ≤ 9223372036854775807) (fun x vs _ _ h => by cases h with | cons _ _ _ _ h _ => exact rowB_le h rfl) (fun hl => h hl S T M)
theorem nodesEx : ∀ n,(∀ e,2 * szEx e ≤ n → PC 126 [vEx e] isI) ∧ (∀ l,2 * szExs l + 1 ≤ n → PC 98 [.d (rowEx l)] isI) := by
  intro n
  induction n using Nat.strongRecOn with
  | _ n ih => ?_
  refine ⟨fun e he => ?_,fun l hl => ?_⟩
  · obtain ⟨k,nm,t,na,ty,l,o,nth⟩ := e
    rw [szEx] at he
    have h98 := (ih (2 * szExs l + 1) (by omega)).2 l (Nat.le_refl _)
    unfold vEx
    rw [encEx]
    intro S T M
    refine callT_go [] [] Tryz.func126 rfl Tryz.ntmps126 Tryz.results126 ?_
    repeat' (first | apply triL_nil | (apply V;rfl;(first | (apply E_as;rfl) | (apply E_fa;(apply plT;rfl);rfl;rfl;decide) | (apply E_ld;(apply tyT;rfl);rfl;(apply at_;rfl;rfl);rfl) | (apply E_add;rfl;rfl))) | (apply Vp;rfl;rfl;apply fnT;rfl;apply h98;rintro _ ⟨n_,rfl⟩) | (apply Vw;rfl;(apply W_bxL;rfl;rfl;rfl)) | (apply s_region;rfl) | apply tri_ret | (apply end_q _ (.inr rfl);(exact List.prefix_append _ _);(focus repeat (first | apply R_nil | (apply R_tmp;rfl)));rfl))
    all_goals exact ⟨_,rfl⟩
  · refine row_le (d := .map 0) (fun hlen => ?_)
    intro S T M
    refine callT_go [] [] Tryz.func98 rfl Tryz.ntmps98 Tryz.results98 ?_
    repeat' (first | apply triL_nil | (apply V;rfl;(apply E_as;rfl)) | (apply s_region;rfl) | apply tri_seq | apply tri_block)
    refine tri_rounds (fun k : Nat × Int => l.length - k.1) (fun k => [(0,.d (rowEx l)),(3,vI k.2),(4,vI k.1)]) (fun _ => ⟨S ++ [],T ++ [],M⟩) (fun k => k.1 ≤ l.length) (0,0) (Nat.zero_le _) ⟨rfl,rfl,rfl,trivial⟩ rfl ?_
    rintro ⟨k,sum⟩ hk
    dsimp only at hk ⊢
    repeat' (first | apply triL_nil | (apply V;rfl;(first | (apply E_mv;rfl) | (apply E_as;rfl) | (apply E_len;(apply elT;rfl);rfl;rfl))) | (apply Vd;rfl;(apply E_lss;rfl;rfl);all_goals intro h_) | (apply s_region;rfl) | apply tri_seq | (apply tri_region;rfl) | apply tri_block | apply tri_skip | apply tri_exit | apply tri_ret | (apply tri_condT;rfl) | (apply tri_condF;rfl) | (apply end_q _ (.inr rfl);(exact List.prefix_append _ _);(focus repeat (first | apply R_nil | (apply R_tmp;rfl)));rfl) | apply p_then | apply p_in | apply p_thenE)
    · have hlt : k < l.length := by omega
      obtain ⟨c,hc⟩ : ∃ c,l[k]? = some c := ⟨_,List.getElem?_eq_getElem hlt⟩
      have hsz := szEx_at hc
      have h126 := (ih (2 * szEx c) (by omega)).1 c (Nat.le_refl _)
      repeat' (first | apply triL_nil | (apply V;rfl;(first | (apply E_mv;rfl) | (apply E_as;rfl) | (apply E_lea;(apply tyT;rfl);rfl;(first | rfl | apply encEx_len | apply encSm_len)) | (apply E_add64;rfl;rfl;rfl;omega) | (apply E_add;rfl;rfl) | (apply E_iae (c := c) (encExs_eq l) encEx_len;apply elT;rfl;rfl;rfl;rfl;omega;simpa using hc))) | (apply Vp;rfl;rfl;apply fnT;rfl;apply h126;rintro _ ⟨n_,rfl⟩) | (apply tri_region;rfl) | apply p_then | apply p_inN)
      all_goals exact ⟨(k + 1,_),by dsimp only;omega,by dsimp only;omega,⟨rfl,rfl,vI_of (by omega),trivial⟩,rfl⟩
    · exact ⟨_,rfl⟩
theorem sp98 (l : List Ex) : PC 98 [.d (rowEx l)] isI := (nodesEx _).2 l (Nat.le_refl _)
theorem nodesSm : ∀ n,∀ l,szSms l ≤ n → PC 99 [.d (rowSm l)] isI := by
  intro n
  induction n using Nat.strongRecOn with
  | _ n ih => ?_
  intro l hl
  refine row_le (d := .map 0) (fun hlen => ?_)
  intro S T M
  refine callT_go [] [] Tryz.func99 rfl Tryz.ntmps99 Tryz.results99 ?_
  repeat' (first | apply triL_nil | (apply V;rfl;(apply E_as;rfl)) | (apply s_region;rfl) | apply tri_seq | apply tri_block)
  refine tri_rounds (fun k : Nat × Int => l.length - k.1) (fun k => [(0,.d (rowSm l)),(3,vI k.2),(4,vI k.1)]) (fun _ => ⟨S ++ [],T ++ [],M⟩) (fun k => k.1 ≤ l.length) (0,0) (Nat.zero_le _) ⟨rfl,rfl,rfl,trivial⟩ rfl ?_
  rintro ⟨k,sum⟩ hk
  dsimp only at hk ⊢
  repeat' (first | apply triL_nil | (apply V;rfl;(first | (apply E_mv;rfl) | (apply E_as;rfl) | (apply E_len;(apply elT;rfl);rfl;rfl))) | (apply Vd;rfl;(apply E_lss;rfl;rfl);all_goals intro h_) | (apply s_region;rfl) | apply tri_seq | apply tri_block | apply tri_skip | apply tri_exit | apply tri_ret | (apply tri_condT;rfl) | (apply tri_condF;rfl) | (apply end_q _ (.inr rfl);(exact List.prefix_append _ _);(focus repeat (first | apply R_nil | (apply R_tmp;rfl)));rfl) | apply p_then | apply p_in | apply p_thenE)
  · have hlt : k < l.length := by omega
    obtain ⟨⟨kd,num,ty,nm,e,a,b,c,nth⟩,hc⟩ : ∃ c,l[k]? = some c := ⟨_,List.getElem?_eq_getElem hlt⟩
    have hsz := szSm_at hc
    rw [szSm] at hsz
    have ha := ih (szSms a) (by omega) a (Nat.le_refl _)
    have hb := ih (szSms b) (by omega) b (Nat.le_refl _)
    have hcc := ih (szSms c) (by omega) c (Nat.le_refl _)
    repeat' (first | apply triL_nil | (apply V;rfl;(first | (apply E_mv;rfl) | (apply E_as;rfl) | (apply E_fe;(apply plT;rfl);rfl;rfl;decide) | (apply E_le;(apply tyT;rfl);rfl;rfl) | (apply E_add64;rfl;rfl;rfl;omega) | (apply E_add;rfl;rfl) | (apply E_iae (encSms_eq l) encSm_len;apply elT;rfl;rfl;rfl;rfl;omega;simpa using hc))) | (apply t_drawn (nt := 42) (.take 0 (.take 1 (.take 2 (.take 3 (.take 4 (.take 5 (.take 6 (.take 9 (.take 10 (.take 11 (.take 12 (.take 13 (.take 16 (.take 17 (.take 18 (.take 19 (.take 20 (.take 23 (.take 24 (.take 25 (.take 26 (.take 27 (.one 7 (.take 8 (.one 14 (.take 15 (.one 21 (.take 22 (.one 28 (.take 29 (.take 30 .nil))))))))))))))))))))))))))))))) [] [];exact mixed;rfl;decide +kernel) | (apply oP;rfl;rfl;rfl;apply fnT;rfl;apply sp98;rintro _ ⟨n_,rfl⟩) | (apply oP;rfl;rfl;rfl;apply fnT;rfl;apply ha;rintro _ ⟨n_,rfl⟩) | (apply oP;rfl;rfl;rfl;apply fnT;rfl;apply hb;rintro _ ⟨n_,rfl⟩) | (apply oP;rfl;rfl;rfl;apply fnT;rfl;apply hcc;rintro _ ⟨n_,rfl⟩) | (apply tri_region;rfl) | apply p_then | apply p_inN | apply d_nil | (apply tV;rfl;rfl;(first | (apply E_mv;rfl) | (apply E_as;rfl) | (apply E_fe;(apply plT;rfl);rfl;rfl;decide) | (apply E_le;(apply tyT;rfl);rfl;rfl) | (apply E_add64;rfl;rfl;rfl;omega) | (apply E_add;rfl;rfl) | (apply E_iae (encSms_eq l) encSm_len;apply elT;rfl;rfl;rfl;rfl;omega;simpa using hc));rfl))
    all_goals exact ⟨(k + 1,_),by dsimp only;omega,by dsimp only;omega,⟨rfl,rfl,vI_of (by omega),trivial⟩,rfl⟩
  · exact ⟨_,rfl⟩
theorem sp99 (l : List Sm) : PC 99 [.d (rowSm l)] isI := nodesSm _ l (Nat.le_refl _)
theorem sp70 (p : List Cl) (hp : szP p ≤ 1000000) : PC 70 [vP p] isI := by
  have hlen := classes_len p
  intro S T M
  refine callT_go [] [] Tryz.func70 rfl Tryz.ntmps70 Tryz.results70 ?_
  repeat' (first | apply triL_nil | (apply V;rfl;(apply E_as;rfl)) | (apply Vw;rfl;(apply W_bxL;rfl;rfl;rfl)) | (apply s_region;rfl) | apply tri_seq | apply tri_block)
  refine tri_grow (fun k : Nat × Int => p.length - k.1) (fun k => [(1,.ptr (S.length + 0) 0),(3,vI k.2),(4,vI k.1)]) (fun k S1 T1 => k.1 ≤ p.length ∧ S.length ≤ S1.length ∧ T <+: T1 ∧ S1[S.length + 0]? = some ([.d (encL encCl p)],25)) (0,0) ⟨Nat.zero_le _,by simp,by simp,at_ rfl rfl⟩ ⟨rfl,rfl,rfl,trivial⟩ ?_
  rintro ⟨k,sum⟩ S1 T1 ⟨hk,hS,hT,hb⟩
  dsimp only at hk ⊢
  repeat' (first | apply triL_nil | (apply V;rfl;(first | (apply E_mv;rfl) | (apply E_as;rfl) | (apply E_fa;(apply plT;rfl);rfl;rfl;decide) | (apply E_ld;(apply tyT;rfl);rfl;(apply at_old;assumption);rfl) | (apply E_len;(apply elT;rfl);rfl;rfl))) | (apply Vd;rfl;(apply E_lss;rfl;rfl);all_goals intro h_) | (apply s_region;rfl) | apply tri_seq | apply tri_block | apply tri_skip | apply tri_exit | apply tri_ret | (apply tri_condT;rfl) | (apply tri_condF;rfl) | (apply end_q _ (.inr rfl);(apply pre_app;assumption);(focus repeat (first | apply R_nil | (apply R_tmp;rfl)));rfl) | apply p_then | apply p_in | apply p_thenE)
  · have hlt : k < p.length := by omega
    obtain ⟨c,hc⟩ : ∃ c,p[k]? = some c := ⟨_,List.getElem?_eq_getElem hlt⟩
    have hcs := sum_at (f := szCl) hc
    have hfl := fields_len c
    have hml := methods_len c
    unfold szP at hp hlen
    repeat' (first | apply triL_nil | (apply V;rfl;(first | (apply E_mv;rfl) | (apply E_as;rfl) | (apply E_lea;(apply tyT;rfl);rfl;(first | rfl | apply encEx_len | apply encSm_len)) | (apply E_add;rfl;rfl) | (apply E_ial (c := c);apply elT;rfl;rfl;rfl;rfl;exact encCl_len;omega;simpa using hc))) | (apply Vw;rfl;(apply W_alL;rfl;(apply tyT;rfl))) | (apply Vs;rfl;(apply W_stL;rfl;(apply tyT;rfl);rfl;rfl;rfl;(first | apply okC_new | (apply okC_ge;omega));rfl;rfl;(first | decide | (apply Nat.le_of_ble_eq_true;rfl)))) | (apply s_region;rfl) | apply tri_seq | apply tri_block)
    refine tri_fix (fun j : Nat × Int => c.fields.length - j.1) (fun j => [(1,.ptr (S.length + 0) 0),(3,vI j.2),(4,vI k),(5,.ptr (S1.length + 0) 0),(6,vI j.1)]) (fun j => j.1 ≤ c.fields.length) (0,_) (Nat.zero_le _) ⟨rfl,rfl,rfl,rfl,rfl,trivial⟩ ?_
    rintro ⟨j,s1⟩ hj
    dsimp only at hj ⊢
    repeat' (first | apply triL_nil | (apply V;rfl;(first | (apply E_mv;rfl) | (apply E_as;rfl) | (apply E_fa;(apply plT;rfl);rfl;rfl;decide) | (apply E_ld;(apply tyT;rfl);rfl;(apply at_;rfl;rfl);rfl) | (apply E_len;(apply elT;rfl);rfl;rfl) | (apply E_add;rfl;rfl))) | (apply Vd;rfl;(apply E_lss;rfl;rfl);all_goals intro h_) | (apply s_region;rfl) | apply tri_seq | (apply tri_region;rfl) | apply tri_block | apply tri_skip | apply tri_exit | (apply tri_condT;rfl) | (apply tri_condF;rfl) | apply p_then | apply p_in | apply p_thenE)
    · obtain ⟨f,hf⟩ : ∃ f,c.fields[j]? = some f := ⟨_,List.getElem?_eq_getElem (by omega)⟩
      repeat' (first | apply triL_nil | (apply V;rfl;(first | (apply E_mv;rfl) | (apply E_as;rfl) | (apply E_fe;(apply plT;rfl);rfl;rfl;decide) | (apply E_le;(apply tyT;rfl);rfl;rfl) | (apply E_add64;rfl;rfl;rfl;omega) | (apply E_add;rfl;rfl) | (apply E_ial (c := f);apply elT;rfl;rfl;rfl;rfl;exact encFi_len;omega;simpa using hf))) | (apply Vp;rfl;rfl;apply fnT;rfl;apply sp98;rintro _ ⟨n_,rfl⟩) | (apply tri_region;rfl) | apply p_then | apply p_inN)
      exact ⟨(j + 1,_),by dsimp only;omega,by dsimp only;omega,⟨rfl,rfl,rfl,rfl,vI_of (by omega),trivial⟩,rfl⟩
    · refine tri_fix (fun j : Nat × Int => c.methods.length - j.1) (fun j => [(1,.ptr (S.length + 0) 0),(3,vI j.2),(4,vI k),(5,.ptr (S1.length + 0) 0),(7,vI j.1)]) (fun j => j.1 ≤ c.methods.length) (0,_) (Nat.zero_le _) ⟨rfl,rfl,rfl,rfl,rfl,trivial⟩ ?_
      rintro ⟨j,s1⟩ hj
      dsimp only at hj ⊢
      repeat' (first | apply triL_nil | (apply V;rfl;(first | (apply E_mv;rfl) | (apply E_as;rfl) | (apply E_fa;(apply plT;rfl);rfl;rfl;decide) | (apply E_ld;(apply tyT;rfl);rfl;(apply at_;rfl;rfl);rfl) | (apply E_len;(apply elT;rfl);rfl;rfl) | (apply E_add64;rfl;rfl;rfl;omega) | (apply E_add;rfl;rfl))) | (apply Vd;rfl;(apply E_lss;rfl;rfl);all_goals intro h_) | (apply s_region;rfl) | apply tri_seq | (apply tri_region;rfl) | apply tri_block | apply tri_skip | apply tri_exit | (apply tri_condT;rfl) | (apply tri_condF;rfl) | apply p_then | apply p_in | apply p_inN | apply p_thenE)
      · obtain ⟨f,hf⟩ : ∃ f,c.methods[j]? = some f := ⟨_,List.getElem?_eq_getElem (by omega)⟩
        repeat' (first | apply triL_nil | (apply V;rfl;(first | (apply E_mv;rfl) | (apply E_as;rfl) | (apply E_fe;(apply plT;rfl);rfl;rfl;decide) | (apply E_le;(apply tyT;rfl);rfl;rfl) | (apply E_add64;rfl;rfl;rfl;omega) | (apply E_add;rfl;rfl) | (apply E_ial (c := f);apply elT;rfl;rfl;rfl;rfl;exact encMe_len;omega;simpa using hf))) | (apply Vp;rfl;rfl;apply fnT;rfl;apply sp99;rintro _ ⟨n_,rfl⟩) | (apply tri_region;rfl) | apply p_then | apply p_inN)
        exact ⟨(j + 1,_),by dsimp only;omega,by dsimp only;omega,⟨rfl,rfl,rfl,rfl,vI_of (by omega),trivial⟩,rfl⟩
      · exact ⟨(k + 1,_),_,_,by dsimp only;omega,⟨by dsimp only;omega,by simp only [List.length_append];omega,pre_app hT,at_old hb⟩,⟨rfl,rfl,vI_of (by omega),trivial⟩,rfl⟩
  · exact ⟨_,rfl⟩
end Go.Proofs.YtokilnhpepbjlaaGreat
namespace Go.Proofs.YtokilnhpepbjlaaGreat
open Go Go.RowKit Go.Proofs.YtokilnhpepbjlaaGreat.Calc
set_option linter.unusedVariables false
set_option linter.unusedSimpArgs false
set_option maxRecDepth 100000
set_option maxHeartbeats 8000000
attribute [local irreducible] Tri TriL TriP CallT stepV stepW thenQ inQ endQ
theorem mayEx : ∀ n e (d : Int),szEx e ≤ n → szEx e ≤ 1000000 → BEx e → 0 ≤ d → d ≤ 100 → PC 74 [vEx e,vI d] (fun r => ∃ b,r = vB b ∧ (b = true → OKEx e)) := by
  intro n
  induction n using Nat.strongRecOn with
  | _ n ih => ?_
  rintro ⟨kd,num,t,na,ty,l,o,nth⟩ d hn hN hB hd0 hd1
  rw [BEx] at hB
  obtain ⟨hB1,hB2,hB3,hB4⟩ := hB
  rw [szEx] at hn hN
  have hlen := szExs_len l
  have har := arity_spec kd l.length
  have hs1 : na.size < 4611686018427387904 := by omega
  have hs2 : ty.size < 4611686018427387904 := by omega
  unfold vEx
  rw [encEx]
  intro S T M
  refine callT_go [] [] Tryz.func74 rfl Tryz.ntmps74 Tryz.results74 ?_
  repeat' (first | apply triL_nil | (apply V;rfl;(apply E_as;rfl)) | (apply Vw;rfl;(apply W_bxL;rfl;rfl;rfl)) | (apply s_region;rfl))
  refine s_mid (fun ρ st => st = ⟨S ++ [([vI kd,.d (dN num),vS t,vS na,vS ty,.d (rowEx l),vS o,vI nth],106)],T ++ [],M⟩ ∧ ∃ (b5 b6 b7 b8 : Bool),1 ≤ kd ∧ kd ≤ 18 ∧ hasR ρ [(1,vI d),(2,.ptr (S.length + 0) 0),(5,vB b5),(6,vB b6),(7,vB b7),(8,vB b8),(9,vI (arity kd l.length))]) ?_ ?_
  · repeat' (first | apply triL_nil | (apply V;rfl;(first | (apply E_mv;rfl) | (apply E_as;rfl) | (apply E_fa;(apply plT;rfl);rfl;rfl;decide) | (apply E_ld;(apply tyT;rfl);rfl;(apply at_;rfl;rfl);rfl) | (apply E_len;(apply elT;rfl);rfl;rfl) | (apply E_lens;(apply udT;rfl);rfl) | (apply E_pkT;rfl;rfl) | (apply E_pkF;rfl;rfl) | (apply E_not;rfl) | (apply E_max;rfl;rfl))) | (apply Vp;rfl;rfl;apply fnT;rfl;apply sp58;omega;rintro _ ⟨n_,rfl,hn1_,hn2_⟩) | (apply Vp;rfl;rfl;apply fnT;rfl;apply sp73;assumption;rintro _ ⟨(_ | _),rfl⟩) | (apply oP;rfl;rfl;rfl;apply fnT;rfl;apply sp73;assumption;rintro _ ⟨(_ | _),rfl⟩) | (apply Vp;rfl;rfl;apply fnT;rfl;apply sp71;assumption;rintro _ ⟨(_ | _),rfl⟩) | (apply oP;rfl;rfl;rfl;apply fnT;rfl;apply sp71;assumption;rintro _ ⟨(_ | _),rfl⟩) | (apply Vp;rfl;rfl;apply fnT;rfl;apply sp104;rintro _ ⟨(_ | _),rfl⟩) | (apply Vp;rfl;rfl;apply fnT;rfl;apply sp105;rintro _ ⟨(_ | _),rfl⟩) | (apply t_drawn (nt := 196) (.take 0 (.take 1 (.take 3 (.take 4 (.one 2 (.one 5 (.take 6 (.take 7 .nil)))))))) [] [];exact mixed;rfl;decide +kernel) | (apply t_drawn (nt := 196) (.take 0 (.take 1 (.take 3 (.take 4 (.take 5 (.take 6 (.one 2 (.take 7 (.take 8 .nil))))))))) [] [];exact mixed;rfl;decide +kernel) | (apply t_drawn (nt := 196) (.take 0 (.take 1 (.take 3 (.take 4 (.take 5 (.one 2 (.take 6 (.take 7 .nil)))))))) [] [];exact mixed;rfl;decide +kernel) | (apply t_drawn (nt := 196) (.take 0 (.take 1 (.take 3 (.take 4 (.take 6 (.take 7 (.take 8 (.one 2 (.one 5 (.take 9 (.take 10 (.take 11 .nil)))))))))))) [] [];exact mixed;rfl;decide +kernel) | (apply t_drawn (nt := 196) (.take 0 (.take 1 (.take 3 (.take 4 (.take 5 (.one 2 (.take 6 (.take 7 .nil)))))))) [] [];exact mixed;rfl;decide +kernel) | (apply Vd;rfl;(first | (apply E_lss;rfl;rfl) | (apply E_leq;rfl;rfl) | (apply E_geq;rfl;rfl) | (apply E_eql;rfl;rfl));all_goals intro h_) | (apply Vo;rfl) | (apply s_region;rfl) | apply tri_seq | (apply tri_region;rfl) | apply tri_block | apply tri_skip | apply tri_ret | (apply tri_condT;rfl) | (apply tri_condF;rfl) | (apply end_q _ (.inr rfl);(exact List.prefix_append _ _);(focus repeat (first | apply R_nil | (apply R_tmp;rfl)));rfl) | apply p_then | apply p_inN | apply p_inR | apply p_thenR | apply d_nil | (apply tV;rfl;rfl;(first | (apply E_mv;rfl) | (apply E_as;rfl) | (apply E_fa;(apply plT;rfl);rfl;rfl;decide) | (apply E_ld;(apply tyT;rfl);rfl;(apply at_;rfl;rfl);rfl) | (apply E_len;(apply elT;rfl);rfl;rfl) | (apply E_lens;(apply udT;rfl);rfl) | (apply E_pkT;rfl;rfl) | (apply E_pkF;rfl;rfl) | (apply E_not;rfl) | (apply E_max;rfl;rfl));rfl))
    all_goals first | exact ⟨false,rfl,nofun⟩ | exact ⟨rfl,_,_,_,_,by omega,by omega,rfl,rfl,rfl,rfl,rfl,rfl,vI_of (by first | omega | (split <;> omega)),trivial⟩
  rintro ρ _ ⟨rfl,b5,b6,b7,b8,hk1,hk2,hρ⟩
  refine tri_weak (hasR_le hρ) ?_
  apply tri_seq
  refine s_mid (fun ρ st => st = ⟨S ++ [([vI kd,.d (dN num),vS t,vS na,vS ty,.d (rowEx l),vS o,vI nth],106)],T ++ [],M⟩ ∧ ∃ b : Bool,(b = false → l.length = arity kd l.length ∧ d ≤ 40) ∧ hasR ρ [(1,vI d),(2,.ptr (S.length + 0) 0),(7,vB b7),(8,vB b8),(153,vB b)]) ?_ ?_
  · cases b5 <;> cases b6
    all_goals
      repeat' (first | apply triL_nil | (apply V;rfl;(first | (apply E_mv;rfl) | (apply E_fa;(apply plT;rfl);rfl;rfl;decide) | (apply E_ld;(apply tyT;rfl);rfl;(apply at_;rfl;rfl);rfl) | (apply E_len;(apply elT;rfl);rfl;rfl) | (apply E_pkT;rfl;rfl) | (apply E_pkF;rfl;rfl) | (apply E_not;rfl))) | (apply Vd;rfl;(first | (apply E_gtr;rfl;rfl) | (apply E_eql;rfl;rfl) | (apply E_neq;rfl;rfl) | (apply E_sneq;rfl;rfl));all_goals intro h_) | (apply Vo;rfl) | (apply tri_region;rfl) | apply p_then)
      all_goals exact ⟨rfl,_,by first | (intro;constructor <;> omega) | nofun,rfl,rfl,rfl,rfl,rfl,trivial⟩
  rintro ρ _ ⟨rfl,b,hb,hρ⟩
  refine tri_weak (hasR_le hρ) ?_
  cases b
  case true =>
    repeat' (first | apply triL_nil | (apply V;rfl;(apply E_as;rfl)) | (apply s_region;rfl) | apply tri_ret | (apply tri_condT;rfl) | (apply end_q _ (.inr rfl);(exact List.prefix_append _ _);(focus repeat (first | apply R_nil | (apply R_tmp;rfl)));rfl) | apply p_thenR)
    all_goals exact ⟨false,rfl,nofun⟩
  obtain ⟨hb,hd40⟩ := hb rfl
  apply tri_condF
  · rfl
  apply tri_skip
  apply p_then
  apply tri_seq
  refine s_mid (fun ρ st => st = ⟨S ++ [([vI kd,.d (dN num),vS t,vS na,vS ty,.d (rowEx l),vS o,vI nth],106)],T ++ [],M⟩ ∧ ∃ b : Bool,hasR ρ [(1,vI d),(2,.ptr (S.length + 0) 0),(179,vB b)]) ?_ ?_
  · cases b7 <;> cases b8
    all_goals
      repeat' (first | apply triL_nil | (apply V;rfl;(first | (apply E_mv;rfl) | (apply E_fa;(apply plT;rfl);rfl;rfl;decide) | (apply E_ld;(apply tyT;rfl);rfl;(apply at_;rfl;rfl);rfl) | (apply E_pkT;rfl;rfl) | (apply E_pkF;rfl;rfl) | (apply E_not;rfl))) | (apply Vp;rfl;rfl;apply fnT;rfl;apply sp106;rintro _ ⟨(_ | _),rfl⟩) | (apply Vp;rfl;rfl;apply fnT;rfl;apply sp107;rintro _ ⟨(_ | _),rfl⟩) | (apply Vd;rfl;(apply E_sneq;rfl;rfl);all_goals intro h_) | (apply Vo;rfl) | (apply tri_region;rfl) | apply p_then)
      all_goals exact ⟨rfl,_,rfl,rfl,rfl,trivial⟩
  rintro ρ _ ⟨rfl,b,hρ⟩
  refine tri_weak (hasR_le hρ) ?_
  cases b
  case true =>
    repeat' (first | apply triL_nil | (apply V;rfl;(apply E_as;rfl)) | (apply s_region;rfl) | apply tri_ret | (apply tri_condT;rfl) | (apply end_q _ (.inr rfl);(exact List.prefix_append _ _);(focus repeat (first | apply R_nil | (apply R_tmp;rfl)));rfl) | apply p_thenR)
    all_goals exact ⟨false,rfl,nofun⟩
  repeat' (first | apply triL_nil | (apply V;rfl;(apply E_as;rfl)) | (apply s_region;rfl) | apply tri_seq | apply tri_block | apply tri_skip | (apply tri_condF;rfl) | apply p_then)
  refine tri_fix (fun j : Nat => l.length - j) (fun j => [(1,vI d),(2,.ptr (S.length + 0) 0),(10,vI j)]) (fun j => j ≤ l.length ∧ ∀ k c,k < j → l[k]? = some c → OKEx c) 0 ⟨Nat.zero_le _,fun k c h => by omega⟩ ⟨rfl,rfl,rfl,trivial⟩ ?_
  rintro j ⟨hj,hpre⟩
  repeat' (first | apply triL_nil | (apply V;rfl;(first | (apply E_mv;rfl) | (apply E_as;rfl) | (apply E_fa;(apply plT;rfl);rfl;rfl;decide) | (apply E_ld;(apply tyT;rfl);rfl;(apply at_;rfl;rfl);rfl) | (apply E_len;(apply elT;rfl);rfl;rfl))) | (apply Vd;rfl;(apply E_lss;rfl;rfl);all_goals intro h_) | (apply s_region;rfl) | apply tri_seq | apply tri_block | apply tri_skip | apply tri_exit | apply tri_ret | (apply tri_condT;rfl) | (apply tri_condF;rfl) | (apply end_q _ (.inr rfl);(exact List.prefix_append _ _);(focus repeat (first | apply R_nil | (apply R_tmp;rfl)));rfl) | apply p_then | apply p_in | apply p_thenE)
  · obtain ⟨c,hc⟩ : ∃ c,l[j]? = some c := ⟨_,List.getElem?_eq_getElem (by omega)⟩
    have hsz := szEx_at hc
    have h74 := ih (szEx c) (by omega) c (d + 1) (Nat.le_refl _) (by omega) (BExs_at hB4 hc) (by omega) (by omega)
    repeat' (first | apply triL_nil | (apply V;rfl;(first | (apply E_mv;rfl) | (apply E_as;rfl) | (apply E_lea;(apply tyT;rfl);rfl;(first | rfl | apply encEx_len | apply encSm_len)) | (apply E_not;rfl) | (apply E_add64;rfl;rfl;rfl;omega) | (apply E_iae (c := c) (encExs_eq l) encEx_len;apply elT;rfl;rfl;rfl;rfl;omega;simpa using hc))) | (apply Vp;rfl;rfl;apply fnT;rfl;apply h74;rintro _ ⟨(_ | _),rfl,hok_⟩) | (apply s_region;rfl) | (apply tri_region;rfl) | apply tri_skip | apply tri_ret | (apply tri_condT;rfl) | (apply tri_condF;rfl) | (apply end_q _ (.inr rfl);(exact List.prefix_append _ _);(focus repeat (first | apply R_nil | (apply R_tmp;rfl)));rfl) | apply p_then | apply p_inN | apply p_inR | apply p_thenR)
    · exact ⟨false,rfl,nofun⟩
    · refine ⟨j + 1,by omega,⟨by omega,fun k c' hk hc' => ?_⟩,⟨rfl,rfl,vI_of (by omega),trivial⟩,rfl⟩
      by_cases hkj : k = j
      · subst hkj
        obtain rfl := Option.some.inj (hc.symm.trans hc')
        exact hok_ rfl
      · exact hpre k c' (by omega) hc'
  · exact ⟨true,rfl,fun _ => by rw [OKEx];exact ⟨hk1,hk2,hb,OKExs_all fun k c hk => hpre k c (by have := (List.getElem?_eq_some_iff.1 hk).1;omega) hk⟩⟩
theorem sp74 (e : Ex) (d : Int) (h : szEx e ≤ 1000000) (hb : BEx e) (h0 : 0 ≤ d ∧ d ≤ 100) : PC 74 [vEx e,vI d] (fun r => ∃ b,r = vB b ∧ (b = true → OKEx e)) := mayEx _ e d (Nat.le_refl _) h hb h0.1 h0.2
end Go.Proofs.YtokilnhpepbjlaaGreat
namespace Go.Proofs.YtokilnhpepbjlaaGreat
open Go Go.RowKit Go.Proofs.YtokilnhpepbjlaaGreat.Calc
set_option linter.unusedVariables false
set_option linter.unusedSimpArgs false
set_option maxRecDepth 100000
set_option maxHeartbeats 8000000
attribute [local irreducible] Tri TriL TriP CallT stepV stepW thenQ inQ endQ
def shOK (kd : Int) (n : Nat) : Prop := ((kd = 1 ∨ kd = 3 ∨ kd = 4 ∨ kd = 5 ∨ kd = 7 ∨ kd = 8 ∨ kd = 9) → n = 1) ∧ (kd = 2 → n = 2)
theorem sp127 (kd num : Int) (ty nm : ByteArray) (e : List Ex) (a b c : List Sm) (nth : Int) (ht : ty.size ≤ 1000000) (hn : nm.size ≤ 1000000) : PC 127 [vSm (.mk kd num ty nm e a b c nth)] (fun r => ∃ q,r = vB q ∧ (q = true → shOK kd e.length)) := by
  have hs1 : ty.size < 4611686018427387904 := by omega
  have hs2 : nm.size < 4611686018427387904 := by omega
  unfold vSm
  rw [encSm]
  intro S T M
  refine callT_go [] [] Tryz.func127 rfl Tryz.ntmps127 Tryz.results127 ?_
  repeat' (first | apply triL_nil | (apply V;rfl;(apply E_as;rfl)) | (apply Vw;rfl;(apply W_bxL;rfl;rfl;rfl)) | (apply s_region;rfl))
  refine s_mid (fun ρ st => st = ⟨S ++ [([vI kd,.d (dN num),vS ty,vS nm,.d (rowEx e),.d (rowSm a),.d (rowSm b),.d (rowSm c),vI nth],131)],T ++ [],M⟩ ∧ ∃ (b4 b5 b6 : Bool),hasR ρ [(1,.ptr (S.length + 0) 0),(3,vI e.length),(4,vB b4),(5,vB b5),(6,vB b6)]) ?_ ?_
  · repeat' (first | (apply t_drawn (nt := 234) (.take 0 (.take 1 (.take 2 (.take 3 (.take 4 (.take 5 (.take 6 (.take 7 (.take 8 (.take 9 (.take 10 (.take 11 (.take 12 (.take 13 (.take 14 (.take 15 (.take 16 (.take 17 (.take 18 .nil))))))))))))))))))) [] [];exact mixed;rfl;decide +kernel) | apply p_then | apply d_nil | (apply tV;rfl;rfl;(first | (apply E_as;rfl) | (apply E_fa;(apply plT;rfl);rfl;rfl;decide) | (apply E_ld;(apply tyT;rfl);rfl;(apply at_;rfl;rfl);rfl) | (apply E_len;(apply elT;rfl);rfl;rfl));rfl) | (apply tVd;rfl;rfl;(apply E_eql;rfl;rfl);rfl;all_goals intro h_))
    all_goals exact ⟨rfl,_,_,_,rfl,rfl,rfl,rfl,rfl,trivial⟩
  rintro ρ _ ⟨rfl,b4,b5,b6,hρ⟩
  refine tri_weak (hasR_le hρ) ?_
  refine s_mid (fun ρ st => st = ⟨S ++ [([vI kd,.d (dN num),vS ty,vS nm,.d (rowEx e),.d (rowSm a),.d (rowSm b),.d (rowSm c),vI nth],131)],T ++ [],M⟩ ∧ ∃ (b7 : Bool),hasR ρ [(1,.ptr (S.length + 0) 0),(3,vI e.length),(4,vB b4),(5,vB b5),(6,vB b6),(7,vB b7)]) ?_ ?_
  · repeat' (first | apply triL_nil | (apply V;rfl;(first | (apply E_mv;rfl) | (apply E_as;rfl) | (apply E_fa;(apply plT;rfl);rfl;rfl;decide) | (apply E_ld;(apply tyT;rfl);rfl;(apply at_;rfl;rfl);rfl) | (apply E_pkT;rfl;rfl) | (apply E_pkF;rfl;rfl))) | (apply Vd;rfl;(first | (apply E_eql;rfl;rfl) | (apply E_seql;rfl;rfl));all_goals intro h_) | (apply Vo;rfl) | (apply tri_region;rfl) | apply p_then)
    all_goals exact ⟨rfl,_,rfl,rfl,rfl,rfl,rfl,rfl,trivial⟩
  rintro ρ _ ⟨rfl,b7,hρ⟩
  refine tri_weak (hasR_le hρ) ?_
  by_cases he : e.length = 0
  · repeat' (first | apply triL_nil | (apply V;rfl;(first | (apply E_mv;rfl) | (apply E_as;rfl) | (apply E_fa;(apply plT;rfl);rfl;rfl;decide) | (apply E_ld;(apply tyT;rfl);rfl;(apply at_;rfl;rfl);rfl) | (apply E_pkT;rfl;rfl) | (apply E_pkF;rfl;rfl))) | (apply Vp;rfl;rfl;apply fnT;rfl;apply sp71;assumption;rintro _ ⟨(_ | _),rfl⟩) | (apply Vp;rfl;rfl;apply fnT;rfl;apply sp73;assumption;rintro _ ⟨(_ | _),rfl⟩) | (apply Vd;rfl;(first | (apply E_leq;rfl;rfl) | (apply E_eql;rfl;rfl));all_goals intro h_) | (apply Vo;rfl) | (apply s_region;rfl) | apply tri_seq | (apply tri_region;rfl) | apply tri_block | apply tri_skip | apply tri_ret | (apply tri_condT;rfl) | (apply tri_condF;rfl) | (apply end_q _ (.inr rfl);(exact List.prefix_append _ _);(focus repeat (first | apply R_nil | (apply R_tmp;rfl)));rfl) | apply p_then | apply p_inN | apply p_inR | apply p_thenR | (show TriL _ _ _ _ _ _;exfalso;omega) | (show TriL _ _ _ _ _ _;cases b4) | (show TriL _ _ _ _ _ _;cases b5) | (show TriL _ _ _ _ _ _;cases b6))
    all_goals first | exact ⟨false,rfl,nofun⟩ | exact ⟨_,rfl,fun _ => by unfold shOK;omega⟩
  · obtain ⟨⟨k0,n0,t0,na0,ty0,l0,o0,nth0⟩,hc⟩ : ∃ c,e[0]? = some c := ⟨_,List.getElem?_eq_getElem (by omega)⟩
    repeat' (first | apply triL_nil | (apply V;rfl;(first | (apply E_mv;rfl) | (apply E_as;rfl) | (apply E_fa;(apply plT;rfl);rfl;rfl;decide) | (apply E_fe;(apply plT;rfl);rfl;rfl;decide) | (apply E_ld;(apply tyT;rfl);rfl;(apply at_;rfl;rfl);rfl) | (apply E_le;(apply tyT;rfl);rfl;rfl) | (apply E_pkT;rfl;rfl) | (apply E_pkF;rfl;rfl) | (apply E_iae (encExs_eq e) encEx_len;apply elT;rfl;rfl;rfl;rfl;omega;simpa using hc))) | (apply Vp;rfl;rfl;apply fnT;rfl;apply sp72;assumption;rintro _ ⟨(_ | _),rfl⟩) | (apply Vp;rfl;rfl;apply fnT;rfl;apply sp71;assumption;rintro _ ⟨(_ | _),rfl⟩) | (apply Vp;rfl;rfl;apply fnT;rfl;apply sp73;assumption;rintro _ ⟨(_ | _),rfl⟩) | (apply Vp;rfl;rfl;apply fnT;rfl;apply sp121;rintro _ ⟨(_ | _),rfl⟩) | (apply Vp;rfl;rfl;apply fnT;rfl;apply sp122;rintro _ ⟨(_ | _),rfl⟩) | (apply Vd;rfl;(first | (apply E_leq;rfl;rfl) | (apply E_geq;rfl;rfl) | (apply E_eql;rfl;rfl) | (apply E_seql;rfl;rfl));all_goals intro h_) | (apply Vo;rfl) | (apply s_region;rfl) | apply tri_seq | (apply tri_region;rfl) | apply tri_block | apply tri_skip | apply tri_ret | (apply tri_condT;rfl) | (apply tri_condF;rfl) | (apply end_q _ (.inr rfl);(exact List.prefix_append _ _);(focus repeat (first | apply R_nil | (apply R_tmp;rfl)));rfl) | apply p_then | apply p_inN | apply p_inR | apply p_thenR | (show TriL _ _ _ _ _ _;cases b4) | (show TriL _ _ _ _ _ _;cases b5) | (show TriL _ _ _ _ _ _;cases b6) | (show TriL _ _ _ _ _ _;cases b7))
    all_goals first | exact ⟨false,rfl,nofun⟩ | exact ⟨_,rfl,fun _ => by unfold shOK;omega⟩
end Go.Proofs.YtokilnhpepbjlaaGreat
namespace Go.Proofs.YtokilnhpepbjlaaGreat
open Go Go.RowKit Go.Proofs.YtokilnhpepbjlaaGreat.Calc
set_option linter.unusedVariables false
set_option linter.unusedSimpArgs false
set_option maxRecDepth 100000
set_option maxHeartbeats 8000000
attribute [local irreducible] Tri TriL TriP CallT stepV stepW thenQ inQ endQ
mutual
def OKSm : Sm → Prop
  | .mk kd _ _ _ e a b c _ => shOK kd e.length ∧ OKExs e ∧ OKSms a ∧ OKSms b ∧ OKSms c
def OKSms : List Sm → Prop
  | [] => True
  | e :: l => OKSm e ∧ OKSms l
end
mutual
def BSm : Sm → Prop
  | .mk _ _ ty nm e a b c _ => ty.size ≤ 1000000 ∧ nm.size ≤ 1000000 ∧ BExs e ∧ BSms a ∧ BSms b ∧ BSms c
def BSms : List Sm → Prop
  | [] => True
  | e :: l => BSm e ∧ BSms l
end
theorem OKSms_all : ∀ {l : List Sm},(∀ (k : Nat) (c : Sm),l[k]? = some c → OKSm c) → OKSms l
  | [],_ => by rw [OKSms];trivial
  | e :: l,h => by
    rw [OKSms]
    exact ⟨h 0 e rfl,OKSms_all fun k c hk => h (k + 1) c (by simpa using hk)⟩
theorem BSms_at : ∀ {l : List Sm} {k : Nat} {c : Sm},BSms l → l[k]? = some c → BSm c
  | [],k,c,_,h => by simp at h
  | e :: l,0,c,hb,h => by
    rw [BSms] at hb
    simp only [List.getElem?_cons_zero,Option.some.injEq] at h
    exact h ▸ hb.1
  | e :: l,k + 1,c,hb,h => by
    rw [BSms] at hb
    exact BSms_at hb.2 (by simpa using h)
theorem OKSms_at : ∀ {l : List Sm} {k : Nat} {c : Sm},OKSms l → l[k]? = some c → OKSm c
  | [],k,c,_,h => by simp at h
  | e :: l,0,c,hb,h => by
    rw [OKSms] at hb
    simp only [List.getElem?_cons_zero,Option.some.injEq] at h
    exact h ▸ hb.1
  | e :: l,k + 1,c,hb,h => by
    rw [OKSms] at hb
    exact OKSms_at hb.2 (by simpa using h)
theorem maySm : ∀ n l (d : Int) (sup : Bool),szSms l ≤ n → szSms l ≤ 1000000 → BSms l → 0 ≤ d → d ≤ 100 → PC 108 [.d (rowSm l),vI d,vB sup] (fun r => ∃ b,r = vB b ∧ (b = true → OKSms l)) := by
  intro n
  induction n using Nat.strongRecOn with
  | _ n ih => ?_
  intro l d sup hn hN hB hd0 hd1
  have hlen := szSms_len l
  intro S T M
  refine callT_go [] [] Tryz.func108 rfl Tryz.ntmps108 Tryz.results108 ?_
  repeat' (first | apply triL_nil | (apply V;rfl;(apply E_as;rfl)) | (apply s_region;rfl) | apply tri_seq | apply tri_block)
  refine tri_grow (fun k : Nat => l.length - k) (fun k => [(0,.d (rowSm l)),(1,vI d),(2,vB sup),(7,vI k)]) (fun k S1 T1 => k ≤ l.length ∧ S.length ≤ S1.length ∧ T <+: T1 ∧ ∀ i c,i < k → l[i]? = some c → OKSm c) 0 ⟨Nat.zero_le _,by simp,by simp,fun i c h => by omega⟩ ⟨rfl,rfl,rfl,rfl,trivial⟩ ?_
  rintro k S1 T1 ⟨hk,hS,hT,hpre⟩
  repeat' (first | apply triL_nil | (apply V;rfl;(first | (apply E_mv;rfl) | (apply E_as;rfl) | (apply E_len;(apply elT;rfl);rfl;rfl))) | (apply Vd;rfl;(apply E_lss;rfl;rfl);all_goals intro h_) | (apply s_region;rfl) | apply tri_seq | apply tri_block | apply tri_skip | apply tri_exit | apply tri_ret | (apply tri_condT;rfl) | (apply tri_condF;rfl) | (apply end_q _ (.inr rfl);(apply pre_app;assumption);(focus repeat (first | apply R_nil | (apply R_tmp;rfl)));rfl) | apply p_then | apply p_in | apply p_thenE)
  · have hlt : k < l.length := by omega
    obtain ⟨⟨kd,num,ty,nm,e,a,b,c,nth⟩,hc⟩ : ∃ c,l[k]? = some c := ⟨_,List.getElem?_eq_getElem hlt⟩
    have hsz := szSm_at hc
    have hBc := BSms_at hB hc
    rw [szSm] at hsz
    rw [BSm] at hBc
    obtain ⟨hB1,hB2,hB3,hB4,hB5,hB6⟩ := hBc
    have hel := szExs_len e
    repeat' (first | apply triL_nil | (apply V;rfl;(first | (apply E_lea;(apply tyT;rfl);rfl;(first | rfl | apply encEx_len | apply encSm_len)) | (apply E_iae (encSms_eq l) encSm_len;apply elT;rfl;rfl;rfl;rfl;omega;simpa using hc))) | (apply Vw;rfl;(apply W_alL;rfl;(apply tyT;rfl))) | (apply Vs;rfl;(apply W_stL;rfl;(apply tyT;rfl);rfl;rfl;rfl;(first | apply okC_new | (apply okC_ge;omega));rfl;rfl;(first | decide | (apply Nat.le_of_ble_eq_true;rfl)))))
    apply tri_seq
    refine s_mid (fun ρ st => st = ⟨S1 ++ [([vI kd,.d (dN num),vS ty,vS nm,.d (rowEx e),.d (rowSm a),.d (rowSm b),.d (rowSm c),vI nth],131)],T1 ++ [],M⟩ ∧ ∃ q : Bool,(q = false → shOK kd e.length ∧ d ≤ 40) ∧ hasR ρ [(0,.d (rowSm l)),(1,vI d),(2,vB sup),(7,vI k),(8,.ptr (S1.length + 0) 0),(39,vB q)]) ?_ ?_
    · repeat' (first | apply triL_nil | (apply V;rfl;(first | (apply E_mv;rfl) | (apply E_fa;(apply plT;rfl);rfl;rfl;decide) | (apply E_lda;(apply tyT;rfl);rfl;(apply at_;rfl;rfl);rfl) | (apply E_ld;(apply tyT;rfl);rfl;(apply at_;rfl;rfl);rfl) | (apply E_pkT;rfl;rfl) | (apply E_pkF;rfl;rfl) | (apply E_not;rfl))) | (apply Vp;rfl;rfl;apply fnT;rfl;apply sp127;assumption;assumption;rintro _ ⟨(_ | _),rfl,hsh_⟩) | (apply Vd;rfl;(first | (apply E_gtr;rfl;rfl) | (apply E_eql;rfl;rfl));all_goals intro h_) | (apply Vo;rfl) | (apply tri_region;rfl) | apply p_then | (show TriL _ _ _ _ _ _;cases sup))
      all_goals exact ⟨rfl,_,by first | exact fun _ => ⟨hsh_ rfl,by omega⟩ | nofun,rfl,rfl,rfl,rfl,rfl,rfl,trivial⟩
    rintro ρ _ ⟨rfl,q,hq,hρ⟩
    refine tri_weak (hasR_le hρ) ?_
    cases q
    case true =>
      repeat' (first | apply triL_nil | (apply V;rfl;(apply E_as;rfl)) | (apply s_region;rfl) | apply tri_ret | (apply tri_condT;rfl) | (apply end_q _ (.inr rfl);(apply pre_app;assumption);(focus repeat (first | apply R_nil | (apply R_tmp;rfl)));rfl) | apply p_inR | apply p_thenR)
      all_goals exact ⟨false,rfl,nofun⟩
    obtain ⟨hsh,hd40⟩ := hq rfl
    apply tri_condF
    · rfl
    apply tri_skip
    apply p_then
    repeat' (first | apply triL_nil | (apply V;rfl;(apply E_as;rfl)) | (apply s_region;rfl) | apply tri_seq | apply tri_block)
    refine tri_fix (fun j : Nat => e.length - j) (fun j => [(0,.d (rowSm l)),(1,vI d),(2,vB sup),(7,vI k),(8,.ptr (S1.length + 0) 0),(9,vI j)]) (fun j => j ≤ e.length ∧ ∀ i c,i < j → e[i]? = some c → OKEx c) 0 ⟨Nat.zero_le _,fun i c h => by omega⟩ ⟨rfl,rfl,rfl,rfl,rfl,rfl,trivial⟩ ?_
    rintro j ⟨hj,hpe⟩
    repeat' (first | apply triL_nil | (apply V;rfl;(first | (apply E_mv;rfl) | (apply E_fa;(apply plT;rfl);rfl;rfl;decide) | (apply E_ld;(apply tyT;rfl);rfl;(apply at_;rfl;rfl);rfl) | (apply E_len;(apply elT;rfl);rfl;rfl) | (apply E_add64;rfl;rfl;rfl;omega))) | (apply Vd;rfl;(apply E_lss;rfl;rfl);all_goals intro h_) | (apply s_region;rfl) | apply tri_seq | apply tri_block | apply tri_skip | apply tri_exit | (apply tri_condT;rfl) | (apply tri_condF;rfl) | apply p_then | apply p_in | apply p_thenE)
    · obtain ⟨x,hx⟩ : ∃ c,e[j]? = some c := ⟨_,List.getElem?_eq_getElem (by omega)⟩
      have hxs := szEx_at hx
      have h74 := sp74 x d (by omega) (BExs_at hB3 hx) ⟨hd0,hd1⟩
      repeat' (first | apply triL_nil | (apply V;rfl;(first | (apply E_mv;rfl) | (apply E_as;rfl) | (apply E_lea;(apply tyT;rfl);rfl;(first | rfl | apply encEx_len | apply encSm_len)) | (apply E_not;rfl) | (apply E_add64;rfl;rfl;rfl;omega) | (apply E_iae (c := x) (encExs_eq e) encEx_len;apply elT;rfl;rfl;rfl;rfl;omega;simpa using hx))) | (apply Vp;rfl;rfl;apply fnT;rfl;apply h74;rintro _ ⟨(_ | _),rfl,hok_⟩) | (apply s_region;rfl) | (apply tri_region;rfl) | apply tri_skip | apply tri_ret | (apply tri_condT;rfl) | (apply tri_condF;rfl) | (apply end_q _ (.inr rfl);(apply pre_app;assumption);(focus repeat (first | apply R_nil | (apply R_tmp;rfl)));rfl) | apply p_then | apply p_inN | apply p_inR | apply p_thenR)
      · exact ⟨false,rfl,nofun⟩
      · refine ⟨j + 1,by omega,⟨by omega,fun i c' hi hc' => ?_⟩,⟨rfl,rfl,rfl,rfl,rfl,vI_of (by omega),trivial⟩,rfl⟩
        by_cases hij : i = j
        · subst hij
          obtain rfl := Option.some.inj (hx.symm.trans hc')
          exact hok_ rfl
        · exact hpe i c' (by omega) hc'
    · have hE : OKExs e := OKExs_all fun i c' hc' => hpe i c' (by have := (List.getElem?_eq_some_iff.1 hc').1;omega) hc'
      have h1 := ih (szSms a) (by omega) a (d + 1) false (Nat.le_refl _) (by omega) hB4 (by omega) (by omega)
      have h2 := ih (szSms b) (by omega) b (d + 1) false (Nat.le_refl _) (by omega) hB5 (by omega) (by omega)
      have h3 := ih (szSms c) (by omega) c (d + 1) false (Nat.le_refl _) (by omega) hB6 (by omega) (by omega)
      repeat' (first | apply triL_nil | (apply V;rfl;(first | (apply E_mv;rfl) | (apply E_as;rfl) | (apply E_fa;(apply plT;rfl);rfl;rfl;decide) | (apply E_ld;(apply tyT;rfl);rfl;(apply at_;rfl;rfl);rfl) | (apply E_pkT;rfl;rfl) | (apply E_pkF;rfl;rfl) | (apply E_not;rfl) | (apply E_add64;rfl;rfl;rfl;omega))) | (apply Vp;rfl;rfl;apply fnT;rfl;apply h1;rintro _ ⟨(_ | _),rfl,ha_⟩) | (apply Vp;rfl;rfl;apply fnT;rfl;apply h2;rintro _ ⟨(_ | _),rfl,hb_⟩) | (apply Vp;rfl;rfl;apply fnT;rfl;apply h3;rintro _ ⟨(_ | _),rfl,hc_⟩) | (apply Vo;rfl) | (apply s_region;rfl) | (apply tri_region;rfl) | apply tri_skip | apply tri_ret | (apply tri_condT;rfl) | (apply tri_condF;rfl) | (apply end_q _ (.inr rfl);(apply pre_app;assumption);(focus repeat (first | apply R_nil | (apply R_tmp;rfl)));rfl) | apply p_then | apply p_inN | apply p_inR | apply p_thenR)
      all_goals first | exact ⟨false,rfl,nofun⟩ | skip
      refine ⟨k + 1,_,_,by omega,⟨by omega,by simp only [List.length_append];omega,pre_app hT,fun i c' hi hc' => ?_⟩,⟨rfl,rfl,rfl,vI_of (by omega),trivial⟩,rfl⟩
      by_cases hik : i = k
      · subst hik
        obtain rfl := Option.some.inj (hc.symm.trans hc')
        rw [OKSm]
        exact ⟨hsh,hE,ha_ rfl,hb_ rfl,hc_ rfl⟩
      · exact hpre i c' (by omega) hc'
  · exact ⟨true,rfl,fun _ => OKSms_all fun i c hc => hpre i c (by have := (List.getElem?_eq_some_iff.1 hc).1;omega) hc⟩
theorem sp108 (l : List Sm) (d : Int) (sup : Bool) (h : szSms l ≤ 1000000) (hb : BSms l) (h0 : 0 ≤ d ∧ d ≤ 100) : PC 108 [.d (rowSm l),vI d,vB sup] (fun r => ∃ b,r = vB b ∧ (b = true → OKSms l)) := maySm _ l d sup (Nat.le_refl _) h hb h0.1 h0.2
end Go.Proofs.YtokilnhpepbjlaaGreat
namespace Go.Proofs.YtokilnhpepbjlaaGreat
open Go Go.RowKit Go.Proofs.YtokilnhpepbjlaaGreat.Calc
set_option linter.unusedVariables false
set_option linter.unusedSimpArgs false
set_option maxRecDepth 100000
set_option maxHeartbeats 8000000
attribute [local irreducible] Tri TriL TriP CallT stepV stepW thenQ inQ endQ
def vMe (m : Me) : BV := .agg ((encMe m).map .d)
def vCl (c : Cl) : BV := .agg ((encCl c).map .d)
def BPa (x : Pa) : Prop := x.typ.size ≤ 1000000 ∧ x.name.size ≤ 1000000
def BMe (m : Me) : Prop := m.typ.size ≤ 1000000 ∧ m.name.size ≤ 1000000 ∧ (∀ x ∈ m.params,BPa x) ∧ BSms m.body
def BFi (f : Fi) : Prop := f.typ.size ≤ 1000000 ∧ f.name.size ≤ 1000000 ∧ BExs f.init
def BCl (c : Cl) : Prop := c.name.size ≤ 1000000 ∧ c.super.size ≤ 1000000 ∧ (∀ f ∈ c.fields,BFi f) ∧ (∀ m ∈ c.methods,BMe m)
def BP (p : List Cl) : Prop := ∀ c ∈ p,BCl c
def OKFi (f : Fi) : Prop := f.init.length ≤ 1 ∧ OKExs f.init
def OKCl (c : Cl) : Prop := (∀ f ∈ c.fields,OKFi f) ∧ (∀ m ∈ c.methods,OKSms m.body)
def OKP (p : List Cl) : Prop := ∀ c ∈ p,OKCl c
def NE (p : List Cl) : Prop := ∀ c ∈ p,0 < c.name.size
theorem all_at {α : Type} {R : α → Prop} {l : List α} (h : ∀ (k : Nat) (c : α),l[k]? = some c → R c) : ∀ c ∈ l,R c := fun c hc => by
  obtain ⟨k,hk⟩ := List.getElem?_of_mem hc
  exact h k c hk
theorem sp75 (m : Me) (h : szMe m ≤ 1000000) (hb : BMe m) : PC 75 [vMe m] (fun r => ∃ q,r = vB q ∧ (q = true → OKSms m.body)) := by
  obtain ⟨hb1,hb2,hb3,hb4⟩ := hb
  have hs1 : m.typ.size < 4611686018427387904 := by omega
  have hs2 : m.name.size < 4611686018427387904 := by omega
  simp only [szMe] at h
  have h108 := sp108 m.body 1 m.ctor (by omega) hb4 ⟨by omega,by omega⟩
  obtain ⟨st0,ct,ty,nm,ps,body⟩ := m
  dsimp only at *
  unfold vMe encMe
  intro S T M
  refine callT_go [] [] Tryz.func75 rfl Tryz.ntmps75 Tryz.results75 ?_
  repeat' (first | apply triL_nil | (apply V;rfl;(apply E_as;rfl)) | (apply Vw;rfl;(apply W_bxL;rfl;rfl;rfl)) | (apply s_region;rfl))
  apply tri_seq
  refine s_mid (fun ρ st => st = ⟨S ++ [([vB st0,vB ct,vS ty,vS nm,.d (encL encPa ps),.d (rowSm body)],103)],T ++ [],M⟩ ∧ ∃ q : Bool,hasR ρ [(1,.ptr (S.length + 0) 0),(47,vB q)]) ?_ ?_
  · repeat' (first | apply triL_nil | (apply V;rfl;(first | (apply E_mv;rfl) | (apply E_fa;(apply plT;rfl);rfl;rfl;decide) | (apply E_ld;(apply tyT;rfl);rfl;(apply at_;rfl;rfl);rfl) | (apply E_len;(apply elT;rfl);rfl;rfl) | (apply E_pkT;rfl;rfl) | (apply E_pkF;rfl;rfl) | (apply E_not;rfl))) | (apply Vp;rfl;rfl;apply fnT;rfl;apply sp72;assumption;rintro _ ⟨(_ | _),rfl⟩) | (apply Vp;rfl;rfl;apply fnT;rfl;apply sp73;assumption;rintro _ ⟨(_ | _),rfl⟩) | (apply Vd;rfl;(first | (apply E_gtr;rfl;rfl) | (apply E_sneq;rfl;rfl));all_goals intro h_) | (apply Vo;rfl) | (apply tri_region;rfl) | apply p_then | (show TriL _ _ _ _ _ _;cases st0) | (show TriL _ _ _ _ _ _;cases ct))
    all_goals exact ⟨rfl,_,rfl,rfl,trivial⟩
  rintro ρ _ ⟨rfl,q,hρ⟩
  refine tri_weak (hasR_le hρ) ?_
  cases q
  case true =>
    repeat' (first | apply triL_nil | (apply V;rfl;(apply E_as;rfl)) | (apply s_region;rfl) | apply tri_ret | (apply tri_condT;rfl) | (apply end_q _ (.inr rfl);(exact List.prefix_append _ _);(focus repeat (first | apply R_nil | (apply R_tmp;rfl)));rfl) | apply p_thenR)
    all_goals exact ⟨false,rfl,nofun⟩
  repeat' (first | apply triL_nil | (apply V;rfl;(apply E_as;rfl)) | (apply s_region;rfl) | apply tri_seq | apply tri_block | apply tri_skip | (apply tri_condF;rfl) | apply p_then)
  refine tri_fix (fun j : Nat => ps.length - j) (fun j => [(1,.ptr (S.length + 0) 0),(3,vI j)]) (fun j => j ≤ ps.length) 0 (Nat.zero_le _) ⟨rfl,rfl,trivial⟩ ?_
  intro j hj
  repeat' (first | apply triL_nil | (apply V;rfl;(first | (apply E_mv;rfl) | (apply E_as;rfl) | (apply E_fa;(apply plT;rfl);rfl;rfl;decide) | (apply E_ld;(apply tyT;rfl);rfl;(apply at_;rfl;rfl);rfl) | (apply E_len;(apply elT;rfl);rfl;rfl))) | (apply Vp;rfl;rfl;apply fnT;rfl;apply h108;rintro _ ⟨q_,rfl,hq_⟩) | (apply Vd;rfl;(apply E_lss;rfl;rfl);all_goals intro h_) | (apply s_region;rfl) | apply tri_seq | apply tri_block | apply tri_skip | apply tri_exit | apply tri_ret | (apply tri_condT;rfl) | (apply tri_condF;rfl) | (apply end_q _ (.inr rfl);(exact List.prefix_append _ _);(focus repeat (first | apply R_nil | (apply R_tmp;rfl)));rfl) | apply p_then | apply p_in | apply p_thenE)
  · obtain ⟨x,hx⟩ : ∃ c,ps[j]? = some c := ⟨_,List.getElem?_eq_getElem (by omega)⟩
    obtain ⟨hx1,hx2⟩ := hb3 x (List.mem_of_getElem? hx)
    have hx3 : x.typ.size < 4611686018427387904 := by omega
    have hx4 : x.name.size < 4611686018427387904 := by omega
    repeat' (first | apply triL_nil | (apply V;rfl;(first | (apply E_mv;rfl) | (apply E_as;rfl) | (apply E_fa;(apply plT;rfl);rfl;rfl;decide) | (apply E_fe;(apply plT;rfl);rfl;rfl;decide) | (apply E_ld;(apply tyT;rfl);rfl;(apply at_;rfl;rfl);rfl) | (apply E_le;(apply tyT;rfl);rfl;rfl) | (apply E_pkT;rfl;rfl) | (apply E_pkF;rfl;rfl) | (apply E_not;rfl) | (apply E_add64;rfl;rfl;rfl;omega) | (apply E_ial (c := x);apply elT;rfl;rfl;rfl;rfl;exact encPa_len;omega;simpa using hx))) | (apply Vp;rfl;rfl;apply fnT;rfl;apply sp72;assumption;rintro _ ⟨(_ | _),rfl⟩) | (apply Vp;rfl;rfl;apply fnT;rfl;apply sp73;assumption;rintro _ ⟨(_ | _),rfl⟩) | (apply Vo;rfl) | (apply s_region;rfl) | (apply tri_region;rfl) | apply tri_skip | apply tri_ret | (apply tri_condT;rfl) | (apply tri_condF;rfl) | (apply end_q _ (.inr rfl);(exact List.prefix_append _ _);(focus repeat (first | apply R_nil | (apply R_tmp;rfl)));rfl) | apply p_then | apply p_inN | apply p_inR | apply p_thenR)
    all_goals first | exact ⟨false,rfl,nofun⟩ | exact ⟨j + 1,by omega,by omega,⟨rfl,vI_of (by omega),trivial⟩,rfl⟩
  · exact ⟨q_,rfl,hq_⟩
theorem sp42 (p : List Cl) (h : szP p ≤ 1000000) (hb : BP p) : PC 42 [vP p] (fun r => ∃ q,r = vB q ∧ (q = true → OKP p ∧ p.length ≤ 20 ∧ NE p)) := by
  have hlen := classes_len p
  intro S T M
  refine callT_go [] [] Tryz.func42 rfl Tryz.ntmps42 Tryz.results42 ?_
  repeat' (first | apply triL_nil | (apply V;rfl;(apply E_as;rfl)) | (apply Vw;rfl;(apply W_bxL;rfl;rfl;rfl)) | (apply s_region;rfl))
  apply tri_seq
  refine s_mid (fun ρ st => st = ⟨S ++ [([.d (encL encCl p)],25)],T ++ [],M⟩ ∧ ∃ q : Bool,(q = false → p.length ≤ 20) ∧ hasR ρ [(1,.ptr (S.length + 0) 0),(16,vB q)]) ?_ ?_
  · repeat' (first | apply triL_nil | (apply V;rfl;(first | (apply E_mv;rfl) | (apply E_fa;(apply plT;rfl);rfl;rfl;decide) | (apply E_lda;(apply tyT;rfl);rfl;(apply at_;rfl;rfl);rfl) | (apply E_ld;(apply tyT;rfl);rfl;(apply at_;rfl;rfl);rfl) | (apply E_len;(apply elT;rfl);rfl;rfl) | (apply E_pkT;rfl;rfl) | (apply E_pkF;rfl;rfl))) | (apply Vp;rfl;rfl;apply fnT;rfl;apply sp70;assumption;rintro _ ⟨n_,rfl⟩) | (apply Vd;rfl;(apply E_gtr;rfl;rfl);all_goals intro h_) | (apply Vo;rfl) | (apply tri_region;rfl) | apply p_then)
    all_goals exact ⟨rfl,_,by first | (intro;omega) | nofun,rfl,rfl,trivial⟩
  rintro ρ _ ⟨rfl,q,hq,hρ⟩
  refine tri_weak (hasR_le hρ) ?_
  cases q
  case true =>
    repeat' (first | apply triL_nil | (apply V;rfl;(apply E_as;rfl)) | (apply s_region;rfl) | apply tri_ret | (apply tri_condT;rfl) | (apply end_q _ (.inr rfl);(exact List.prefix_append _ _);(focus repeat (first | apply R_nil | (apply R_tmp;rfl)));rfl) | apply p_thenR)
    all_goals exact ⟨false,rfl,nofun⟩
  have hp20 := hq rfl
  repeat' (first | apply triL_nil | (apply V;rfl;(apply E_as;rfl)) | (apply s_region;rfl) | apply tri_seq | apply tri_block | apply tri_skip | (apply tri_condF;rfl) | apply p_then)
  refine tri_grow (fun k : Nat => p.length - k) (fun k => [(1,.ptr (S.length + 0) 0),(3,vI k)]) (fun k S1 T1 => k ≤ p.length ∧ S.length ≤ S1.length ∧ T <+: T1 ∧ S1[S.length + 0]? = some ([.d (encL encCl p)],25) ∧ ∀ i c,i < k → p[i]? = some c → OKCl c ∧ 0 < c.name.size) 0 ⟨Nat.zero_le _,by simp,by simp,at_ rfl rfl,fun i c h => by omega⟩ ⟨rfl,rfl,trivial⟩ ?_
  rintro k S1 T1 ⟨hk,hS,hT,hbx,hpre⟩
  repeat' (first | apply triL_nil | (apply V;rfl;(first | (apply E_mv;rfl) | (apply E_as;rfl) | (apply E_fa;(apply plT;rfl);rfl;rfl;decide) | (apply E_ld;(apply tyT;rfl);rfl;(apply at_old;assumption);rfl) | (apply E_len;(apply elT;rfl);rfl;rfl))) | (apply Vd;rfl;(apply E_lss;rfl;rfl);all_goals intro h_) | (apply s_region;rfl) | apply tri_seq | apply tri_block | apply tri_skip | apply tri_exit | apply tri_ret | (apply tri_condT;rfl) | (apply tri_condF;rfl) | (apply end_q _ (.inr rfl);(apply pre_app;assumption);(focus repeat (first | apply R_nil | (apply R_tmp;rfl)));rfl) | apply p_then | apply p_in | apply p_thenE)
  · obtain ⟨c,hc⟩ : ∃ c,p[k]? = some c := ⟨_,List.getElem?_eq_getElem (by omega)⟩
    have hcs := sum_at (f := szCl) hc
    have hfl := fields_len c
    have hml := methods_len c
    unfold szP at h hlen
    obtain ⟨hb1,hb2,hb3,hb4⟩ := hb c (List.mem_of_getElem? hc)
    have hs1 : c.name.size < 4611686018427387904 := by omega
    have hs2 : c.super.size < 4611686018427387904 := by omega
    repeat' (first | apply triL_nil | (apply V;rfl;(first | (apply E_lea;(apply tyT;rfl);rfl;(first | rfl | apply encEx_len | apply encSm_len)) | (apply E_ial (c := c);apply elT;rfl;rfl;rfl;rfl;exact encCl_len;omega;simpa using hc))) | (apply Vw;rfl;(apply W_alL;rfl;(apply tyT;rfl))) | (apply Vs;rfl;(apply W_stL;rfl;(apply tyT;rfl);rfl;rfl;rfl;(first | apply okC_new | (apply okC_ge;omega));rfl;rfl;(first | decide | (apply Nat.le_of_ble_eq_true;rfl)))))
    apply tri_seq
    refine s_mid (fun ρ st => st = ⟨S1 ++ [([vS c.name,vS c.super,.d (encL encFi c.fields),.d (encL encMe c.methods)],30)],T1 ++ [],M⟩ ∧ ∃ q : Bool,(q = false → 0 < c.name.size) ∧ hasR ρ [(1,.ptr (S.length + 0) 0),(3,vI k),(4,.ptr (S1.length + 0) 0),(55,vB q)]) ?_ ?_
    · repeat' (first | apply triL_nil | (apply V;rfl;(first | (apply E_mv;rfl) | (apply E_fa;(apply plT;rfl);rfl;rfl;decide) | (apply E_ld;(apply tyT;rfl);rfl;(apply at_;rfl;rfl);rfl) | (apply E_len;(apply elT;rfl);rfl;rfl) | (apply E_pkT;rfl;rfl) | (apply E_pkF;rfl;rfl) | (apply E_not;rfl))) | (apply Vp;rfl;rfl;apply fnT;rfl;apply (sp71n c.name);assumption;rintro _ ⟨(_ | _),rfl,hcn_⟩) | (apply Vp;rfl;rfl;apply fnT;rfl;apply sp71;assumption;rintro _ ⟨(_ | _),rfl⟩) | (apply Vd;rfl;(first | (apply E_gtr;rfl;rfl) | (apply E_sneq;rfl;rfl));all_goals intro h_) | (apply Vo;rfl) | (apply tri_region;rfl) | apply p_then)
      all_goals exact ⟨rfl,_,by first | exact fun _ => hcn_ rfl | nofun,rfl,rfl,rfl,rfl,trivial⟩
    rintro ρ _ ⟨rfl,q,hcn,hρ⟩
    refine tri_weak (hasR_le hρ) ?_
    cases q
    case true =>
      repeat' (first | apply triL_nil | (apply V;rfl;(apply E_as;rfl)) | (apply s_region;rfl) | apply tri_ret | (apply tri_condT;rfl) | (apply end_q _ (.inr rfl);(apply pre_app;assumption);(focus repeat (first | apply R_nil | (apply R_tmp;rfl)));rfl) | apply p_inR | apply p_thenR)
      all_goals exact ⟨false,rfl,nofun⟩
    repeat' (first | apply triL_nil | (apply V;rfl;(apply E_as;rfl)) | (apply s_region;rfl) | apply tri_seq | apply tri_block | apply tri_skip | (apply tri_condF;rfl) | apply p_then)
    refine tri_grow (fun j : Nat => c.fields.length - j) (fun j => [(1,.ptr (S.length + 0) 0),(3,vI k),(4,.ptr (S1.length + 0) 0),(5,vI j)]) (fun j S2 T2 => j ≤ c.fields.length ∧ S.length ≤ S2.length ∧ T <+: T2 ∧ S2[S.length + 0]? = some ([.d (encL encCl p)],25) ∧ S2[S1.length + 0]? = some ([vS c.name,vS c.super,.d (encL encFi c.fields),.d (encL encMe c.methods)],30) ∧ ∀ i f,i < j → c.fields[i]? = some f → OKFi f) 0 ⟨Nat.zero_le _,by simp only [List.length_append];omega,pre_app hT,at_old hbx,at_ rfl rfl,fun i f h => by omega⟩ ⟨rfl,rfl,rfl,rfl,trivial⟩ ?_
    rintro j S2 T2 ⟨hj,hS2,hT2,hbx2,hcx,hpf⟩
    repeat' (first | apply triL_nil | (apply V;rfl;(first | (apply E_mv;rfl) | (apply E_as;rfl) | (apply E_fa;(apply plT;rfl);rfl;rfl;decide) | (apply E_ld;(apply tyT;rfl);rfl;(apply at_old;assumption);rfl) | (apply E_len;(apply elT;rfl);rfl;rfl))) | (apply Vd;rfl;(apply E_lss;rfl;rfl);all_goals intro h_) | (apply s_region;rfl) | apply tri_seq | apply tri_block | apply tri_skip | apply tri_exit | (apply tri_condT;rfl) | (apply tri_condF;rfl) | apply p_then | apply p_in | apply p_thenE)
    · obtain ⟨f,hf⟩ : ∃ c0,c.fields[j]? = some c0 := ⟨_,List.getElem?_eq_getElem (by omega)⟩
      obtain ⟨hf1,hf2,hf3⟩ := hb3 f (List.mem_of_getElem? hf)
      have hfs := sum_at (f := szFi) hf
      simp only [szCl] at hcs hfl
      obtain ⟨fst0,fty,fnm,init⟩ := f
      simp only [szFi] at hfs
      dsimp only at hf1 hf2 hf3
      have hs3 : fty.size < 4611686018427387904 := by omega
      have hs4 : fnm.size < 4611686018427387904 := by omega
      repeat' (first | apply triL_nil | (apply V;rfl;(first | (apply E_fa;(apply plT;rfl);rfl;rfl;decide) | (apply E_ld;(apply tyT;rfl);rfl;(apply at_;rfl;rfl);rfl) | (apply E_lea;(apply tyT;rfl);rfl;(first | rfl | apply encEx_len | apply encSm_len)) | (apply E_ial (c := (⟨fst0,fty,fnm,init⟩ : Fi));apply elT;rfl;rfl;rfl;rfl;exact encFi_len;omega;simpa using hf))) | (apply Vw;rfl;(apply W_alL;rfl;(apply tyT;rfl))) | (apply Vs;rfl;(apply W_stL;rfl;(apply tyT;rfl);rfl;rfl;rfl;(first | apply okC_new | (apply okC_ge;omega));rfl;rfl;(first | decide | (apply Nat.le_of_ble_eq_true;rfl)))) | (apply s_region;rfl))
      have key : ∀ (hok : OKFi ⟨fst0,fty,fnm,init⟩) (i : Nat) (f0 : Fi),i < j + 1 → c.fields[i]? = some f0 → OKFi f0 := fun hok i f0 hi0 hf0 => by
        by_cases hij : i = j
        · subst hij
          obtain rfl := Option.some.inj (hf.symm.trans hf0)
          exact hok
        · exact hpf i f0 (by omega) hf0
      by_cases hi : init.length = 0
      · have hnil : init = [] := List.eq_nil_of_length_eq_zero hi
        repeat' (first | apply triL_nil | (apply V;rfl;(first | (apply E_mv;rfl) | (apply E_as;rfl) | (apply E_fa;(apply plT;rfl);rfl;rfl;decide) | (apply E_ld;(apply tyT;rfl);rfl;(apply at_;rfl;rfl);rfl) | (apply E_len;(apply elT;rfl);rfl;rfl) | (apply E_pkT;rfl;rfl) | (apply E_pkF;rfl;rfl) | (apply E_not;rfl) | (apply E_add64;rfl;rfl;rfl;omega))) | (apply Vp;rfl;rfl;apply fnT;rfl;apply sp72;assumption;rintro _ ⟨(_ | _),rfl⟩) | (apply Vp;rfl;rfl;apply fnT;rfl;apply sp73;assumption;rintro _ ⟨(_ | _),rfl⟩) | (apply Vd;rfl;(first | (apply E_gtr;rfl;rfl) | (apply E_eql;rfl;rfl));all_goals intro h_) | (apply Vo;rfl) | (apply s_region;rfl) | (apply tri_region;rfl) | apply tri_skip | apply tri_ret | (apply tri_condT;rfl) | (apply tri_condF;rfl) | (apply end_q _ (.inr rfl);(apply pre_app;assumption);(focus repeat (first | apply R_nil | (apply R_tmp;rfl)));rfl) | apply p_then | apply p_inN | apply p_inR | apply p_thenR | (show TriL _ _ _ _ _ _;exfalso;first | omega | (dsimp only at *;omega)))
        all_goals (try dsimp only at *)
        all_goals first | exact ⟨false,rfl,nofun⟩ | exact ⟨j + 1,_,_,by omega,⟨by omega,by simp only [List.length_append];omega,pre_app hT2,at_old hbx2,at_old hcx,key ⟨by dsimp only;omega,by rw [hnil,OKExs];trivial⟩⟩,⟨rfl,rfl,rfl,vI_of (by omega),trivial⟩,rfl⟩
      · obtain ⟨x,hx⟩ : ∃ c0,init[0]? = some c0 := ⟨_,List.getElem?_eq_getElem (by omega)⟩
        have hxs := szEx_at hx
        have h74 := sp74 x 1 (by omega) (BExs_at hf3 hx) ⟨by omega,by omega⟩
        have hone : init.length ≤ 1 → OKEx x → OKFi ⟨fst0,fty,fnm,init⟩ := fun h1 h2 => ⟨h1,OKExs_all fun i c0 hc0 => by
          have : i < init.length := (List.getElem?_eq_some_iff.1 hc0).1
          obtain rfl : i = 0 := by omega
          obtain rfl := Option.some.inj (hx.symm.trans hc0)
          exact h2⟩
        repeat' (first | apply triL_nil | (apply V;rfl;(first | (apply E_mv;rfl) | (apply E_as;rfl) | (apply E_fa;(apply plT;rfl);rfl;rfl;decide) | (apply E_ld;(apply tyT;rfl);rfl;(apply at_;rfl;rfl);rfl) | (apply E_lea;(apply tyT;rfl);rfl;(first | rfl | apply encEx_len | apply encSm_len)) | (apply E_len;(apply elT;rfl);rfl;rfl) | (apply E_pkT;rfl;rfl) | (apply E_pkF;rfl;rfl) | (apply E_not;rfl) | (apply E_add64;rfl;rfl;rfl;omega) | (apply E_iae (c := x) (encExs_eq init) encEx_len;apply elT;rfl;rfl;rfl;rfl;omega;simpa using hx))) | (apply Vp;rfl;rfl;apply fnT;rfl;apply sp72;assumption;rintro _ ⟨(_ | _),rfl⟩) | (apply Vp;rfl;rfl;apply fnT;rfl;apply sp73;assumption;rintro _ ⟨(_ | _),rfl⟩) | (apply Vp;rfl;rfl;apply fnT;rfl;apply h74;rintro _ ⟨(_ | _),rfl,hok_⟩) | (apply Vd;rfl;(first | (apply E_gtr;rfl;rfl) | (apply E_eql;rfl;rfl));all_goals intro h_) | (apply Vo;rfl) | (apply s_region;rfl) | (apply tri_region;rfl) | apply tri_skip | apply tri_ret | (apply tri_condT;rfl) | (apply tri_condF;rfl) | (apply end_q _ (.inr rfl);(apply pre_app;assumption);(focus repeat (first | apply R_nil | (apply R_tmp;rfl)));rfl) | apply p_then | apply p_inN | apply p_inR | apply p_thenR)
        all_goals (try dsimp only at *)
        all_goals first | exact ⟨false,rfl,nofun⟩ | (exfalso;omega) | exact ⟨j + 1,_,_,by omega,⟨by omega,by simp only [List.length_append];omega,pre_app hT2,at_old hbx2,at_old hcx,key (hone (by omega) (hok_ rfl))⟩,⟨rfl,rfl,rfl,vI_of (by omega),trivial⟩,rfl⟩
    · have hF : ∀ f ∈ c.fields,OKFi f := all_at fun i f hf => hpf i f (by have := (List.getElem?_eq_some_iff.1 hf).1;omega) hf
      refine tri_fix (fun j : Nat => c.methods.length - j) (fun j => [(1,.ptr (S.length + 0) 0),(3,vI k),(4,.ptr (S1.length + 0) 0),(7,vI j)]) (fun j => j ≤ c.methods.length ∧ ∀ i f,i < j → c.methods[i]? = some f → OKSms f.body) 0 ⟨Nat.zero_le _,fun i f h => by omega⟩ ⟨rfl,rfl,rfl,rfl,trivial⟩ ?_
      rintro j ⟨hj,hpm⟩
      repeat' (first | apply triL_nil | (apply V;rfl;(first | (apply E_mv;rfl) | (apply E_as;rfl) | (apply E_fa;(apply plT;rfl);rfl;rfl;decide) | (apply E_ld;(apply tyT;rfl);rfl;(apply at_old;assumption);rfl) | (apply E_len;(apply elT;rfl);rfl;rfl) | (apply E_add64;rfl;rfl;rfl;omega))) | (apply Vd;rfl;(apply E_lss;rfl;rfl);all_goals intro h_) | (apply s_region;rfl) | apply tri_seq | (apply tri_region;rfl) | apply tri_block | apply tri_skip | apply tri_exit | (apply tri_condT;rfl) | (apply tri_condF;rfl) | apply p_then | apply p_in | apply p_inN | apply p_thenE)
      · obtain ⟨m,hm⟩ : ∃ c0,c.methods[j]? = some c0 := ⟨_,List.getElem?_eq_getElem (by omega)⟩
        have hms := sum_at (f := szMe) hm
        simp only [szCl] at hcs hfl hml
        have h75 := sp75 m (by omega) (hb4 m (List.mem_of_getElem? hm))
        repeat' (first | apply triL_nil | (apply V;rfl;(first | (apply E_mv;rfl) | (apply E_as;rfl) | (apply E_lea;(apply tyT;rfl);rfl;(first | rfl | apply encEx_len | apply encSm_len)) | (apply E_not;rfl) | (apply E_add64;rfl;rfl;rfl;omega) | (apply E_ial (c := m);apply elT;rfl;rfl;rfl;rfl;exact encMe_len;omega;simpa using hm))) | (apply Vp;rfl;rfl;apply fnT;rfl;apply h75;rintro _ ⟨(_ | _),rfl,hok_⟩) | (apply s_region;rfl) | (apply tri_region;rfl) | apply tri_skip | apply tri_ret | (apply tri_condT;rfl) | (apply tri_condF;rfl) | (apply end_q _ (.inr rfl);(apply pre_app;assumption);(focus repeat (first | apply R_nil | (apply R_tmp;rfl)));rfl) | apply p_then | apply p_inN | apply p_inR | apply p_thenR)
        · exact ⟨false,rfl,nofun⟩
        · refine ⟨j + 1,by omega,⟨by omega,fun i f0 hi0 hf0 => ?_⟩,⟨rfl,rfl,rfl,vI_of (by omega),trivial⟩,rfl⟩
          by_cases hij : i = j
          · subst hij
            obtain rfl := Option.some.inj (hm.symm.trans hf0)
            exact hok_ rfl
          · exact hpm i f0 (by omega) hf0
      · have hM : ∀ m ∈ c.methods,OKSms m.body := all_at fun i f hf => hpm i f (by have := (List.getElem?_eq_some_iff.1 hf).1;omega) hf
        refine ⟨k + 1,_,_,by omega,⟨by omega,by simp only [List.length_append];omega,pre_app hT2,at_old hbx2,fun i c' hi0 hc' => ?_⟩,⟨rfl,vI_of (by omega),trivial⟩,rfl⟩
        by_cases hik : i = k
        · subst hik
          obtain rfl := Option.some.inj (hc.symm.trans hc')
          exact ⟨⟨hF,hM⟩,hcn rfl⟩
        · exact hpre i c' (by omega) hc'
  · have hA : ∀ c ∈ p,OKCl c ∧ 0 < c.name.size := all_at fun i c hc => hpre i c (by have := (List.getElem?_eq_some_iff.1 hc).1;omega) hc
    exact ⟨true,rfl,fun _ => ⟨fun c hc => (hA c hc).1,hp20,fun c hc => (hA c hc).2⟩⟩
end Go.Proofs.YtokilnhpepbjlaaGreat
namespace Go.Proofs.YtokilnhpepbjlaaGreat
open Go Go.RowKit Go.Proofs.YtokilnhpepbjlaaGreat.Calc
set_option linter.unusedVariables false
set_option linter.unusedSimpArgs false
set_option maxRecDepth 100000
set_option maxHeartbeats 8000000
attribute [local irreducible] Tri TriL TriP CallT stepV stepW thenQ inQ endQ
structure Ws where
  loc : Nat
  bad : Int
  whr : Int
  deep : Int
  late : Bool
  lateAt : Int
def encW (L : List Wd) (N : Int) (s : Ws) : List BV := [.d (encL encWd L),vI N,vI s.loc,vI s.bad,vI s.whr,vI s.deep,vB s.late,vI s.lateAt]
abbrev RC (L : List Wd) (N : Int) (s : Ws) (f : Nat) (args : List BV) (R : BV → Prop) : Prop := ∀ S T M id,S[id]? = some (encW L N s,73) → CallT Tryz.prog [] [] f (.ptr id 0 :: args) ⟨S,T,M⟩ (fun r s => s = ⟨S,T,M⟩ ∧ R r)
theorem encWd_len (w : Wd) : (encWd w).length = 3 := rfl
def isAt (L : List Wd) (s : Ws) (more : Nat) (kind : Int) (text : ByteArray) : Prop := s.bad = 0 ∧ ∃ w,L[s.loc + more]? = some w ∧ w.kind = kind ∧ (text = ⟨#[]⟩ ∨ w.text = text)
theorem sp64 (L : List Wd) (N : Int) (s : Ws) (more : Nat) (kind : Int) (text : ByteArray) (hL : L.length ≤ 8000) (hl : s.loc ≤ L.length) (hm : more ≤ 10) : RC L N s 64 [vI more,vI kind,vS text] (fun r => ∃ b,r = vB b ∧ (b = true ↔ isAt L s more kind text)) := by
  intro S T M id hid
  refine callT_go [] [] Tryz.func64 rfl Tryz.ntmps64 Tryz.results64 ?_
  by_cases hlt : s.loc + more < L.length
  · obtain ⟨w,hw⟩ : ∃ c,L[s.loc + more]? = some c := ⟨_,List.getElem?_eq_getElem hlt⟩
    have hw' : L[((s.loc : Int) + more).toNat]? = some w := by rw [show ((s.loc : Int) + more).toNat = s.loc + more by omega];exact hw
    repeat' (first | apply triL_nil | (apply V;rfl;(first | (apply E_mv;rfl) | (apply E_as;rfl) | (apply E_fa;(apply plT;rfl);rfl;rfl;decide) | (apply E_fe;(apply plT;rfl);rfl;rfl;decide) | (apply E_ld;(apply tyT;rfl);rfl;(apply at_old;assumption);rfl) | (apply E_le;(apply tyT;rfl);rfl;rfl) | (apply E_len;(apply elT;rfl);rfl;rfl) | (apply E_ncp;rfl) | (apply E_pkT;rfl;rfl) | (apply E_pkF;rfl;rfl) | (apply E_add64;rfl;rfl;rfl;omega) | (apply E_ial (c := w);apply elT;rfl;rfl;rfl;rfl;exact encWd_len;omega;exact hw'))) | (apply Vd;rfl;(first | (apply E_lss;rfl;rfl) | (apply E_eql;rfl;rfl) | (apply E_seql;rfl;rfl));all_goals intro h_) | (apply Vo;rfl) | (apply s_region;rfl) | apply tri_ret | (apply end_q _ (.inr rfl);(exact List.prefix_append _ _);(focus repeat (first | apply R_nil | (apply R_tmp;rfl)));rfl))
    all_goals first
      | exact ⟨true,rfl,fun _ => ⟨by assumption,w,hw,by assumption,by first | exact .inl (by assumption) | exact .inr (by assumption)⟩,fun _ => rfl⟩
      | (refine ⟨false,rfl,nofun,fun ⟨g1,w',g2,g3,g4⟩ => ?_⟩;exfalso;first | omega | (obtain rfl := Option.some.inj (hw.symm.trans g2);first | (exact absurd g3 (by assumption)) | (rcases g4 with g4 | g4 <;> contradiction)))
  · repeat' (first | apply triL_nil | (apply V;rfl;(first | (apply E_mv;rfl) | (apply E_as;rfl) | (apply E_fa;(apply plT;rfl);rfl;rfl;decide) | (apply E_ld;(apply tyT;rfl);rfl;(apply at_old;assumption);rfl) | (apply E_len;(apply elT;rfl);rfl;rfl) | (apply E_ncp;rfl) | (apply E_pkT;rfl;rfl) | (apply E_pkF;rfl;rfl) | (apply E_add64;rfl;rfl;rfl;omega))) | (apply Vd;rfl;(first | (apply E_lss;rfl;rfl) | (apply E_eql;rfl;rfl));all_goals intro h_) | (apply Vo;rfl) | (apply s_region;rfl) | apply tri_ret | (apply end_q _ (.inr rfl);(exact List.prefix_append _ _);(focus repeat (first | apply R_nil | (apply R_tmp;rfl)));rfl) | (show TriL _ _ _ _ _ _;exfalso;omega))
    all_goals exact ⟨false,rfl,nofun,fun ⟨g1,w',g2,g3,g4⟩ => by
      have := (List.getElem?_eq_some_iff.1 g2).1
      omega⟩
theorem pos_of_ne {s : ByteArray} (h : ¬ s = ⟨#[]⟩) : (0 : Int) < s.size := by
  rcases Nat.eq_zero_or_pos s.size with h0 | h0
  · exfalso
    apply h
    cases s with
    | mk a =>
      congr
      exact Array.eq_empty_of_size_eq_zero h0
  · omega
theorem sp40 (L : List Wd) (N : Int) (s : Ws) (text : ByteArray) (hL : L.length ≤ 8000) (hl : s.loc ≤ L.length) : RC L N s 40 [vS text] (fun r => ∃ b,r = vB b ∧ (b = true ↔ isAt L s 0 4 text)) := by
  intro S T M id hid
  refine callT_go [] [] Tryz.func40 rfl Tryz.ntmps40 Tryz.results40 ?_
  repeat' (first | apply triL_nil | (apply V;rfl;(first | (apply E_mv;rfl) | (apply E_as;rfl))) | (apply Vp;rfl;rfl;apply fnT;rfl;apply (sp64 (L := L) (s := s) (more := 0));assumption;assumption;omega;(first | (apply at_old;assumption) | (apply at_set;assumption));rintro _ ⟨(_ | _),rfl,hi_⟩) | (apply s_region;rfl) | apply tri_ret | (apply end_q _ (.inr rfl);(exact List.prefix_append _ _);(focus repeat (first | apply R_nil | (apply R_tmp;rfl)));rfl))
  all_goals exact ⟨_,rfl,hi_⟩
theorem sp63 (L : List Wd) (N : Int) (s : Ws) (text : ByteArray) (hL : L.length ≤ 8000) (hl : s.loc ≤ L.length) : RC L N s 63 [vS text] (fun r => ∃ b,r = vB b ∧ (b = true ↔ isAt L s 0 1 text)) := by
  intro S T M id hid
  refine callT_go [] [] Tryz.func63 rfl Tryz.ntmps63 Tryz.results63 ?_
  repeat' (first | apply triL_nil | (apply V;rfl;(first | (apply E_mv;rfl) | (apply E_as;rfl))) | (apply Vp;rfl;rfl;apply fnT;rfl;apply (sp64 (L := L) (s := s) (more := 0));assumption;assumption;omega;(first | (apply at_old;assumption) | (apply at_set;assumption));rintro _ ⟨(_ | _),rfl,hi_⟩) | (apply s_region;rfl) | apply tri_ret | (apply end_q _ (.inr rfl);(exact List.prefix_append _ _);(focus repeat (first | apply R_nil | (apply R_tmp;rfl)));rfl))
  all_goals exact ⟨_,rfl,hi_⟩
theorem sp123 (s : ByteArray) (hs : s.size ≤ 1000000) : PC 123 [vS s] isB := by
  intro S T M
  refine callT_go [] [] Tryz.func123 rfl Tryz.ntmps123 Tryz.results123 ?_
  repeat' (first | apply triL_nil | (apply V;rfl;(first | (apply E_mv;rfl) | (apply E_as;rfl) | (apply E_pkT;rfl;rfl) | (apply E_pkF;rfl;rfl) | (apply E_not;rfl) | (apply E_cvt;rfl;(apply udT;rfl);(apply udT;rfl)) | (apply E_idx;apply udT;rfl;rfl;rfl;(refine ⟨by omega,?_⟩;apply pos_of_ne;assumption)))) | (apply Vp;rfl;rfl;apply fnT;rfl;apply sp102;rintro _ ⟨(_ | _),rfl⟩) | (apply Vp;rfl;rfl;apply fnT;rfl;apply sp103;rintro _ ⟨(_ | _),rfl⟩) | (apply Vd;rfl;(apply E_sneq;rfl;rfl);all_goals intro h_) | (apply Vo;rfl) | (apply s_region;rfl) | apply tri_ret | (apply end_q _ (.inr rfl);(exact List.prefix_append _ _);(focus repeat (first | apply R_nil | (apply R_tmp;rfl)));rfl))
  all_goals exact ⟨_,rfl⟩
theorem sp92 (s : ByteArray) (hs : s.size ≤ 1000000) : PC 92 [vS s] isB := by
  intro S T M
  refine callT_go [] [] Tryz.func92 rfl Tryz.ntmps92 Tryz.results92 ?_
  repeat' (first | apply triL_nil | (apply V;rfl;(first | (apply E_mv;rfl) | (apply E_as;rfl) | (apply E_pkT;rfl;rfl) | (apply E_pkF;rfl;rfl) | (apply E_cvt;rfl;(apply udT;rfl);(apply udT;rfl)) | (apply E_idx;apply udT;rfl;rfl;rfl;(refine ⟨by omega,?_⟩;apply pos_of_ne;assumption)))) | (apply Vp;rfl;rfl;apply fnT;rfl;apply sp101;rintro _ ⟨(_ | _),rfl⟩) | (apply Vd;rfl;(apply E_sneq;rfl;rfl);all_goals intro h_) | (apply Vo;rfl) | (apply s_region;rfl) | apply tri_ret | (apply end_q _ (.inr rfl);(exact List.prefix_append _ _);(focus repeat (first | apply R_nil | (apply R_tmp;rfl)));rfl))
  all_goals exact ⟨_,rfl⟩
theorem sp95 (L : List Wd) (N : Int) (s : Ws) (more : Nat) (hL : L.length ≤ 8000) (hW : ∀ w ∈ L,w.text.size ≤ 1000000) (hl : s.loc ≤ L.length) (hm : more ≤ 10) : RC L N s 95 [vI more] (fun r => ∃ b,r = vB b ∧ (b = true → isAt L s more 1 ⟨#[]⟩)) := by
  intro S T M id hid
  refine callT_go [] [] Tryz.func95 rfl Tryz.ntmps95 Tryz.results95 ?_
  by_cases hat : isAt L s more 1 ⟨#[]⟩
  · obtain ⟨hb0,w,hw,hk,_⟩ := (show _ from hat)
    have hw' : L[((s.loc : Int) + more).toNat]? = some w := by rw [show ((s.loc : Int) + more).toNat = s.loc + more by omega];exact hw
    have hws := hW w (List.mem_of_getElem? hw)
    repeat' (first | apply triL_nil | (apply V;rfl;(first | (apply E_mv;rfl) | (apply E_as;rfl) | (apply E_fa;(apply plT;rfl);rfl;rfl;decide) | (apply E_fe;(apply plT;rfl);rfl;rfl;decide) | (apply E_ld;(apply tyT;rfl);rfl;(apply at_old;assumption);rfl) | (apply E_le;(apply tyT;rfl);rfl;rfl) | (apply E_ncp;rfl) | (apply E_pkT;rfl;rfl) | (apply E_pkF;rfl;rfl) | (apply E_add64;rfl;rfl;rfl;omega) | (apply E_ial (c := w);apply elT;rfl;rfl;rfl;rfl;exact encWd_len;omega;exact hw'))) | (apply s_drawn (nt := 24) (.take 0 (.take 1 (.one 2 (.take 3 (.take 4 (.take 5 (.take 6 (.take 7 (.take 8 (.take 9 (.take 10 (.take 11 (.take 12 (.take 13 (.take 14 (.take 15 (.take 16 (.one 17 (.take 18 (.take 19 .nil)))))))))))))))))))) [] [];exact mixed;rfl;decide +kernel) | (apply oP;rfl;rfl;rfl;apply fnT;rfl;apply (sp64 (L := L) (s := s) (more := more));assumption;assumption;omega;(first | (apply at_old;assumption) | (apply at_set;assumption));rintro _ ⟨(_ | _),rfl,hi_⟩) | (apply oP;rfl;rfl;rfl;apply fnT;rfl;apply sp123;assumption;rintro _ ⟨(_ | _),rfl⟩) | (apply s_region;rfl) | apply tri_ret | (apply end_q _ (.inr rfl);(exact List.prefix_append _ _);(focus repeat (first | apply R_nil | (apply R_tmp;rfl)));rfl) | apply d_nil | (apply tV;rfl;rfl;(first | (apply E_mv;rfl) | (apply E_as;rfl) | (apply E_fa;(apply plT;rfl);rfl;rfl;decide) | (apply E_fe;(apply plT;rfl);rfl;rfl;decide) | (apply E_ld;(apply tyT;rfl);rfl;(apply at_old;assumption);rfl) | (apply E_le;(apply tyT;rfl);rfl;rfl) | (apply E_ncp;rfl) | (apply E_pkT;rfl;rfl) | (apply E_pkF;rfl;rfl) | (apply E_add64;rfl;rfl;rfl;omega) | (apply E_ial (c := w);apply elT;rfl;rfl;rfl;rfl;exact encWd_len;omega;exact hw'));rfl) | (apply tVo;rfl;rfl) | (apply oVo;rfl;rfl))
    all_goals exact ⟨_,rfl,fun _ => hat⟩
  · repeat' (first | apply triL_nil | (apply V;rfl;(first | (apply E_mv;rfl) | (apply E_as;rfl) | (apply E_fa;(apply plT;rfl);rfl;rfl;decide) | (apply E_ld;(apply tyT;rfl);rfl;(apply at_old;assumption);rfl) | (apply E_ncp;rfl) | (apply E_pkF;rfl;rfl) | (apply E_add64;rfl;rfl;rfl;omega))) | (apply s_drawn (nt := 24) (.take 0 (.take 1 (.one 2 (.take 3 (.take 4 (.take 5 (.take 6 (.take 7 (.take 8 (.take 9 (.take 10 (.take 11 (.take 12 (.take 13 (.take 14 (.take 15 (.take 16 (.one 17 (.take 18 (.take 19 .nil)))))))))))))))))))) [] [];exact mixed;rfl;decide +kernel) | (apply oP;rfl;rfl;rfl;apply fnT;rfl;apply (sp64 (L := L) (s := s) (more := more));assumption;assumption;omega;(first | (apply at_old;assumption) | (apply at_set;assumption));rintro _ ⟨(_ | _),rfl,hi_⟩) | (apply s_region;rfl) | apply tri_ret | (apply end_q _ (.inr rfl);(exact List.prefix_append _ _);(focus repeat (first | apply R_nil | (apply R_tmp;rfl)));rfl) | apply d_nil | (apply tV;rfl;rfl;(first | (apply E_mv;rfl) | (apply E_as;rfl) | (apply E_fa;(apply plT;rfl);rfl;rfl;decide) | (apply E_ld;(apply tyT;rfl);rfl;(apply at_old;assumption);rfl) | (apply E_ncp;rfl) | (apply E_pkF;rfl;rfl) | (apply E_add64;rfl;rfl;rfl;omega));rfl) | (apply tVo;rfl;rfl) | (apply oVo;rfl;rfl) | (show TriP _ _ _ _ _ _ _ _;exact absurd (hi_.1 rfl) hat))
    all_goals exact ⟨_,rfl,nofun⟩
theorem sp61 (L : List Wd) (N : Int) (s : Ws) (more : Nat) (hL : L.length ≤ 8000) (hW : ∀ w ∈ L,w.text.size ≤ 1000000) (hl : s.loc ≤ L.length) (hm : more ≤ 10) : RC L N s 61 [vI more] (fun r => ∃ b,r = vB b ∧ (b = true → isAt L s more 1 ⟨#[]⟩)) := by
  intro S T M id hid
  refine callT_go [] [] Tryz.func61 rfl Tryz.ntmps61 Tryz.results61 ?_
  by_cases hat : isAt L s more 1 ⟨#[]⟩
  · obtain ⟨hb0,w,hw,hk,_⟩ := (show _ from hat)
    have hw' : L[((s.loc : Int) + more).toNat]? = some w := by rw [show ((s.loc : Int) + more).toNat = s.loc + more by omega];exact hw
    have hws := hW w (List.mem_of_getElem? hw)
    repeat' (first | apply triL_nil | (apply V;rfl;(first | (apply E_mv;rfl) | (apply E_as;rfl) | (apply E_fa;(apply plT;rfl);rfl;rfl;decide) | (apply E_fe;(apply plT;rfl);rfl;rfl;decide) | (apply E_ld;(apply tyT;rfl);rfl;(apply at_old;assumption);rfl) | (apply E_le;(apply tyT;rfl);rfl;rfl) | (apply E_ncp;rfl) | (apply E_pkT;rfl;rfl) | (apply E_pkF;rfl;rfl) | (apply E_add64;rfl;rfl;rfl;omega) | (apply E_ial (c := w);apply elT;rfl;rfl;rfl;rfl;exact encWd_len;omega;exact hw'))) | (apply s_drawn (nt := 24) (.take 0 (.take 1 (.one 2 (.take 3 (.take 4 (.take 5 (.take 6 (.take 7 (.take 8 (.take 9 (.take 10 (.take 11 (.take 12 (.take 13 (.take 14 (.take 15 (.take 16 (.one 17 (.take 18 (.take 19 .nil)))))))))))))))))))) [] [];exact mixed;rfl;decide +kernel) | (apply oP;rfl;rfl;rfl;apply fnT;rfl;apply (sp64 (L := L) (s := s) (more := more));assumption;assumption;omega;(first | (apply at_old;assumption) | (apply at_set;assumption));rintro _ ⟨(_ | _),rfl,hi_⟩) | (apply oP;rfl;rfl;rfl;apply fnT;rfl;apply sp92;assumption;rintro _ ⟨(_ | _),rfl⟩) | (apply s_region;rfl) | apply tri_ret | (apply end_q _ (.inr rfl);(exact List.prefix_append _ _);(focus repeat (first | apply R_nil | (apply R_tmp;rfl)));rfl) | apply d_nil | (apply tV;rfl;rfl;(first | (apply E_mv;rfl) | (apply E_as;rfl) | (apply E_fa;(apply plT;rfl);rfl;rfl;decide) | (apply E_fe;(apply plT;rfl);rfl;rfl;decide) | (apply E_ld;(apply tyT;rfl);rfl;(apply at_old;assumption);rfl) | (apply E_le;(apply tyT;rfl);rfl;rfl) | (apply E_ncp;rfl) | (apply E_pkT;rfl;rfl) | (apply E_pkF;rfl;rfl) | (apply E_add64;rfl;rfl;rfl;omega) | (apply E_ial (c := w);apply elT;rfl;rfl;rfl;rfl;exact encWd_len;omega;exact hw'));rfl) | (apply tVo;rfl;rfl) | (apply oVo;rfl;rfl))
    all_goals exact ⟨_,rfl,fun _ => hat⟩
  · repeat' (first | apply triL_nil | (apply V;rfl;(first | (apply E_mv;rfl) | (apply E_as;rfl) | (apply E_fa;(apply plT;rfl);rfl;rfl;decide) | (apply E_ld;(apply tyT;rfl);rfl;(apply at_old;assumption);rfl) | (apply E_ncp;rfl) | (apply E_pkF;rfl;rfl) | (apply E_add64;rfl;rfl;rfl;omega))) | (apply s_drawn (nt := 24) (.take 0 (.take 1 (.one 2 (.take 3 (.take 4 (.take 5 (.take 6 (.take 7 (.take 8 (.take 9 (.take 10 (.take 11 (.take 12 (.take 13 (.take 14 (.take 15 (.take 16 (.one 17 (.take 18 (.take 19 .nil)))))))))))))))))))) [] [];exact mixed;rfl;decide +kernel) | (apply oP;rfl;rfl;rfl;apply fnT;rfl;apply (sp64 (L := L) (s := s) (more := more));assumption;assumption;omega;(first | (apply at_old;assumption) | (apply at_set;assumption));rintro _ ⟨(_ | _),rfl,hi_⟩) | (apply s_region;rfl) | apply tri_ret | (apply end_q _ (.inr rfl);(exact List.prefix_append _ _);(focus repeat (first | apply R_nil | (apply R_tmp;rfl)));rfl) | apply d_nil | (apply tV;rfl;rfl;(first | (apply E_mv;rfl) | (apply E_as;rfl) | (apply E_fa;(apply plT;rfl);rfl;rfl;decide) | (apply E_ld;(apply tyT;rfl);rfl;(apply at_old;assumption);rfl) | (apply E_ncp;rfl) | (apply E_pkF;rfl;rfl) | (apply E_add64;rfl;rfl;rfl;omega));rfl) | (apply tVo;rfl;rfl) | (apply oVo;rfl;rfl) | (show TriP _ _ _ _ _ _ _ _;exact absurd (hi_.1 rfl) hat))
    all_goals exact ⟨_,rfl,nofun⟩
end Go.Proofs.YtokilnhpepbjlaaGreat
namespace Go.Proofs.YtokilnhpepbjlaaGreat
open Go Go.RowKit Go.Proofs.YtokilnhpepbjlaaGreat.Calc
set_option linter.unusedVariables false
set_option linter.unusedSimpArgs false
set_option maxRecDepth 100000
set_option maxHeartbeats 8000000
attribute [local irreducible] Tri TriL TriP CallT stepV stepW thenQ inQ endQ
abbrev WC (L : List Wd) (N : Int) (s : Ws) (f : Nat) (args : List BV) (R : Ws → BV → Prop) : Prop := ∀ S T M id,S[id]? = some (encW L N s,73) → CallT Tryz.prog [id] [] f (.ptr id 0 :: args) ⟨S,T,M⟩ (fun r st => ∃ s',st = ⟨S.set id (encW L N s',73),T,M⟩ ∧ R s' r)
def GW (L : List Wd) (s s' : Ws) : Prop := s.loc ≤ s'.loc ∧ s'.loc ≤ L.length ∧ s'.deep = s.deep ∧ (s'.bad = 0 → s.bad = 0)
theorem sp91 (L : List Wd) (N : Int) (s : Ws) (hL : L.length ≤ 8000) (hl : s.loc ≤ L.length) : RC L N s 91 [] isI := by
  intro S T M id hid
  refine callT_go [] [] Tryz.func91 rfl Tryz.ntmps91 Tryz.results91 ?_
  by_cases hlt : s.loc < L.length
  · obtain ⟨w,hw⟩ : ∃ c,L[s.loc]? = some c := ⟨_,List.getElem?_eq_getElem hlt⟩
    repeat' (first | apply triL_nil | (apply V;rfl;(first | (apply E_mv;rfl) | (apply E_as;rfl) | (apply E_fa;(apply plT;rfl);rfl;rfl;decide) | (apply E_fe;(apply plT;rfl);rfl;rfl;decide) | (apply E_ld;(apply tyT;rfl);rfl;(apply at_old;assumption);rfl) | (apply E_le;(apply tyT;rfl);rfl;rfl) | (apply E_len;(apply elT;rfl);rfl;rfl) | (apply E_ncp;rfl) | (apply E_ial (c := w);apply elT;rfl;rfl;rfl;rfl;exact encWd_len;omega;simpa using hw))) | (apply s_drawn (nt := 28) (.take 0 (.take 1 (.take 2 (.take 3 (.take 4 (.take 5 (.take 6 (.take 7 (.take 8 (.take 9 .nil)))))))))) [] [];exact mixed;rfl;decide +kernel) | (apply s_drawn (nt := 28) (.take 0 (.take 1 (.take 2 (.take 3 (.take 4 (.take 5 (.take 6 (.take 7 (.take 8 (.take 9 (.take 10 (.take 11 .nil)))))))))))) [] [];exact mixed;rfl;decide +kernel) | (apply s_region;rfl) | apply tri_seq | apply tri_skip | apply tri_ret | (apply tri_condT;rfl) | (apply tri_condF;rfl) | (apply end_q _ (.inr rfl);(exact List.prefix_append _ _);(focus repeat (first | apply R_nil | (apply R_tmp;rfl)));rfl) | apply p_then | apply p_thenR | apply d_nil | (apply tV;rfl;rfl;(first | (apply E_mv;rfl) | (apply E_as;rfl) | (apply E_fa;(apply plT;rfl);rfl;rfl;decide) | (apply E_fe;(apply plT;rfl);rfl;rfl;decide) | (apply E_ld;(apply tyT;rfl);rfl;(apply at_old;assumption);rfl) | (apply E_le;(apply tyT;rfl);rfl;rfl) | (apply E_len;(apply elT;rfl);rfl;rfl) | (apply E_ncp;rfl) | (apply E_ial (c := w);apply elT;rfl;rfl;rfl;rfl;exact encWd_len;omega;simpa using hw));rfl) | (apply tVd;rfl;rfl;(apply E_lss;rfl;rfl);rfl;all_goals intro h_))
    all_goals exact ⟨_,rfl⟩
  · repeat' (first | apply triL_nil | (apply V;rfl;(first | (apply E_mv;rfl) | (apply E_as;rfl) | (apply E_fa;(apply plT;rfl);rfl;rfl;decide) | (apply E_ld;(apply tyT;rfl);rfl;(apply at_old;assumption);rfl) | (apply E_len;(apply elT;rfl);rfl;rfl) | (apply E_ncp;rfl))) | (apply s_drawn (nt := 28) (.take 0 (.take 1 (.take 2 (.take 3 (.take 4 (.take 5 (.take 6 (.take 7 (.take 8 (.take 9 .nil)))))))))) [] [];exact mixed;rfl;decide +kernel) | (apply s_region;rfl) | apply tri_seq | apply tri_skip | apply tri_ret | (apply tri_condT;rfl) | (apply tri_condF;rfl) | (apply end_q _ (.inr rfl);(exact List.prefix_append _ _);(focus repeat (first | apply R_nil | (apply R_tmp;rfl)));rfl) | apply p_then | apply d_nil | (apply tV;rfl;rfl;(first | (apply E_mv;rfl) | (apply E_as;rfl) | (apply E_fa;(apply plT;rfl);rfl;rfl;decide) | (apply E_ld;(apply tyT;rfl);rfl;(apply at_old;assumption);rfl) | (apply E_len;(apply elT;rfl);rfl;rfl) | (apply E_ncp;rfl));rfl) | (apply tVd;rfl;rfl;(apply E_lss;rfl;rfl);rfl;all_goals intro h_) | (show Tri _ _ _ _ _;exfalso;omega))
    all_goals exact ⟨_,rfl⟩
theorem sp60 (L : List Wd) (N : Int) (s : Ws) (code : Int) (hc : code ≠ 0) (hL : L.length ≤ 8000) (hl : s.loc ≤ L.length) : WC L N s 60 [vI code] (fun s' r => s'.loc = s.loc ∧ s'.deep = s.deep ∧ s'.bad ≠ 0 ∧ r = .tup []) := by
  intro S T M id hid
  have hlt := (List.getElem?_eq_some_iff.1 hid).1
  refine callT_go [id] [] Tryz.func60 rfl Tryz.ntmps60 Tryz.results60 ?_
  repeat' (first | apply triL_nil | (apply V;rfl;(first | (apply E_mv;rfl) | (apply E_fa;(apply plT;rfl);rfl;rfl;decide) | (apply E_ld;(apply tyT;rfl);rfl;(apply at_old;assumption);rfl) | (apply E_ncp;rfl))) | (apply Vp;rfl;rfl;apply fnT;rfl;apply (sp91 (L := L) (s := s));assumption;assumption;(first | (apply at_old;assumption) | (apply at_set;assumption));rintro _ ⟨n_,rfl⟩) | (apply Vd;rfl;(apply E_eql;rfl;rfl);all_goals intro h_) | (apply Vs;rfl;(first | (apply W_stO2;(apply tyT;rfl);rfl;rfl;assumption;(apply okC_in;simp);rfl;rfl;(first | decide | (apply Nat.le_of_ble_eq_true;rfl))) | (apply W_stO;(apply tyT;rfl);rfl;rfl;assumption;(apply okC_in;simp);rfl;rfl;(first | decide | (apply Nat.le_of_ble_eq_true;rfl))))) | (apply s_region;rfl) | (apply tri_region;rfl) | apply tri_skip | (apply tri_condT;rfl) | (apply tri_condF;rfl) | (apply end_w _ (.inl rfl);(exact List.prefix_append _ _);(focus repeat (apply R_nil));rfl;(first | (apply at_set;assumption) | (apply at_old;assumption));rfl;rfl))
  · exact ⟨⟨s.loc,code,n_,s.deep,s.late,s.lateAt⟩,rfl,rfl,rfl,hc,rfl⟩
  · exact ⟨s,rfl,rfl,rfl,by assumption,rfl⟩
theorem sp120 (L : List Wd) (N : Int) (s : Ws) (n : Int) : WC L N s 120 [vI n] (fun s' r => s'.loc = s.loc ∧ s'.deep = s.deep ∧ s'.bad = s.bad ∧ r = .tup []) := by
  obtain ⟨l,b,w,d,la,lat⟩ := s
  intro S T M id hid
  have hlt := (List.getElem?_eq_some_iff.1 hid).1
  refine callT_go [id] [] Tryz.func120 rfl Tryz.ntmps120 Tryz.results120 ?_
  cases la
  all_goals
    repeat' (first | apply triL_nil | (apply V;rfl;(first | (apply E_mv;rfl) | (apply E_fa;(apply plT;rfl);rfl;rfl;decide) | (apply E_ld;(apply tyT;rfl);rfl;(apply at_old;assumption);rfl) | (apply E_ncp;rfl) | (apply E_pkT;rfl;rfl) | (apply E_pkF;rfl;rfl) | (apply E_not;rfl))) | (apply Vd;rfl;(apply E_lss;rfl;rfl);all_goals intro h_) | (apply Vo;rfl) | (apply Vs;rfl;(first | (apply W_stO2;(apply tyT;rfl);rfl;rfl;assumption;(apply okC_in;simp);rfl;rfl;(first | decide | (apply Nat.le_of_ble_eq_true;rfl))) | (apply W_stO;(apply tyT;rfl);rfl;rfl;assumption;(apply okC_in;simp);rfl;rfl;(first | decide | (apply Nat.le_of_ble_eq_true;rfl))))) | (apply s_region;rfl) | (apply tri_region;rfl) | apply tri_skip | (apply tri_condT;rfl) | (apply tri_condF;rfl) | (apply end_w _ (.inl rfl);(exact List.prefix_append _ _);(focus repeat (apply R_nil));rfl;(first | (apply at_set;assumption) | (apply at_old;assumption));rfl;rfl))
    all_goals first | exact ⟨⟨l,b,w,d,true,n⟩,rfl,rfl,rfl,rfl,rfl⟩ | exact ⟨⟨l,b,w,d,_,_⟩,rfl,rfl,rfl,rfl,rfl⟩
theorem sp39 (L : List Wd) (N : Int) (s : Ws) (text : ByteArray) (hL : L.length ≤ 8000) (hl : s.loc ≤ L.length) : WC L N s 39 [vS text] (fun s' r => s'.deep = s.deep ∧ s'.bad = s.bad ∧ s'.loc ≤ L.length ∧ ((r = vB true ∧ s'.loc = s.loc + 1 ∧ s.bad = 0) ∨ (r = vB false ∧ s'.loc = s.loc))) := by
  intro S T M id hid
  have hlt := (List.getElem?_eq_some_iff.1 hid).1
  have in_of : ∀ {k : Int},isAt L s 0 k text → s.loc < L.length ∧ s.bad = 0 := fun ⟨h0,w,hw,_⟩ => ⟨(List.getElem?_eq_some_iff.1 hw).1,h0⟩
  refine callT_go [id] [] Tryz.func39 rfl Tryz.ntmps39 Tryz.results39 ?_
  repeat' (first | apply triL_nil | (apply V;rfl;(first | (apply E_mv;rfl) | (apply E_as;rfl) | (apply E_fa;(apply plT;rfl);rfl;rfl;decide) | (apply E_ld;(apply tyT;rfl);rfl;(apply at_old;assumption);rfl) | (apply E_ncp;rfl) | (apply E_pkT;rfl;rfl) | (apply E_pkF;rfl;rfl) | (apply E_add64;rfl;rfl;rfl;omega))) | (apply Vp;rfl;rfl;apply fnT;rfl;apply (sp40 (L := L) (s := s));assumption;assumption;(first | (apply at_old;assumption) | (apply at_set;assumption));rintro _ ⟨(_ | _),rfl,hi_⟩) | (apply Vp;rfl;rfl;apply fnT;rfl;apply (sp63 (L := L) (s := s));assumption;assumption;(first | (apply at_old;assumption) | (apply at_set;assumption));rintro _ ⟨(_ | _),rfl,hk_⟩) | (apply Vo;rfl) | (apply Vs;rfl;(apply W_stO;(apply tyT;rfl);rfl;rfl;assumption;(apply okC_in;simp);rfl;rfl;(first | decide | (apply Nat.le_of_ble_eq_true;rfl)))) | (apply s_region;rfl) | apply tri_seq | apply tri_skip | apply tri_ret | (apply tri_condT;rfl) | (apply tri_condF;rfl) | (apply end_w _ (.inr rfl);(exact List.prefix_append _ _);(focus repeat (first | apply R_nil | (apply R_tmp;rfl)));rfl;(first | (apply at_set;assumption) | (apply at_old;assumption));rfl;rfl) | apply p_then | apply p_thenR)
  all_goals first
    | exact ⟨s,rfl,rfl,rfl,hl,.inr ⟨rfl,rfl⟩⟩
    | (have h1 := in_of (hi_.1 rfl);exact ⟨⟨s.loc + 1,s.bad,s.whr,s.deep,s.late,s.lateAt⟩,rfl,rfl,rfl,by dsimp only;omega,.inl ⟨rfl,rfl,h1.2⟩⟩)
    | (have h1 := in_of (hk_.1 rfl);exact ⟨⟨s.loc + 1,s.bad,s.whr,s.deep,s.late,s.lateAt⟩,rfl,rfl,rfl,by dsimp only;omega,.inl ⟨rfl,rfl,h1.2⟩⟩)
theorem sp37 (L : List Wd) (N : Int) (s : Ws) (text : ByteArray) (hL : L.length ≤ 8000) (hl : s.loc ≤ L.length) : WC L N s 37 [vS text] (fun s' r => s'.loc ≤ L.length ∧ s'.deep = s.deep ∧ r = .tup [] ∧ ((s'.loc = s.loc + 1 ∧ s'.bad = s.bad) ∨ (s'.loc = s.loc ∧ s'.bad ≠ 0))) := by
  intro S T M id hid
  have hlt := (List.getElem?_eq_some_iff.1 hid).1
  refine callT_go [id] [] Tryz.func37 rfl Tryz.ntmps37 Tryz.results37 ?_
  repeat' (first | apply triL_nil | (apply V;rfl;(first | (apply E_mv;rfl) | (apply E_not;rfl))) | (apply Vc;rfl;rfl;apply fnT;rfl;apply (sp39 (L := L) (s := s));assumption;assumption;(first | (apply at_old;assumption) | (apply at_set;assumption));(intro i_ hi_ _;obtain rfl := List.mem_singleton.1 hi_;(apply okC_in;simp));(intro i_ hi_;cases hi_);rintro _ _ ⟨s1,rfl,hd1,hb1,hl1,(⟨rfl,hc1,hz1⟩ | ⟨rfl,hc1⟩)⟩ <;> (first | rw [set_call2 (by assumption)] | rw [set_call (by assumption)] | skip)) | (apply Vc;rfl;rfl;apply fnT;rfl;apply (sp60 (L := L) (s := s1));decide;assumption;assumption;(first | (apply at_old;assumption) | (apply at_set;assumption));(intro i_ hi_ _;obtain rfl := List.mem_singleton.1 hi_;(apply okC_in;simp));(intro i_ hi_;cases hi_);rintro _ _ ⟨s2,rfl,hd2,hb2,hz2,rfl⟩ <;> (first | rw [set_call2 (by assumption)] | rw [set_call (by assumption)] | skip)) | (apply s_region;rfl) | (apply tri_region;rfl) | apply tri_skip | (apply tri_condT;rfl) | (apply tri_condF;rfl) | (apply end_w _ (.inl rfl);(exact List.prefix_append _ _);(focus repeat (apply R_nil));rfl;(first | (apply at_set;assumption) | (apply at_old;assumption));rfl;rfl))
  · exact ⟨s1,rfl,by omega,by omega,rfl,.inl ⟨hc1,hb1⟩⟩
  · exact ⟨s2,rfl,by omega,by omega,rfl,.inr ⟨by omega,hz2⟩⟩
end Go.Proofs.YtokilnhpepbjlaaGreat
namespace Go.Proofs.YtokilnhpepbjlaaGreat
open Go Go.RowKit Go.Proofs.YtokilnhpepbjlaaGreat.Calc
set_option linter.unusedVariables false
set_option linter.unusedSimpArgs false
set_option maxRecDepth 100000
set_option maxHeartbeats 8000000
attribute [local irreducible] Tri TriL TriP CallT stepV stepW thenQ inQ endQ
theorem sp93 (L : List Wd) (N : Int) (s : Ws) (hL : L.length ≤ 8000) (hl : s.loc ≤ L.length) (hd0 : 0 ≤ s.deep) (hd1 : s.deep ≤ 41) : WC L N s 93 [] (fun s' r => s'.loc = s.loc ∧ ((r = vB true ∧ s'.deep = s.deep + 1 ∧ s'.bad = s.bad ∧ s.deep ≤ 40) ∨ (r = vB false ∧ s'.deep = s.deep ∧ s'.bad ≠ 0))) := by
  intro S T M id hid
  have hlt := (List.getElem?_eq_some_iff.1 hid).1
  refine callT_go [id] [] Tryz.func93 rfl Tryz.ntmps93 Tryz.results93 ?_
  repeat' (first | apply triL_nil | (apply V;rfl;(first | (apply E_mv;rfl) | (apply E_as;rfl) | (apply E_fa;(apply plT;rfl);rfl;rfl;decide) | (apply E_ld;(apply tyT;rfl);rfl;(apply at_old;assumption);rfl) | (apply E_ncp;rfl) | (apply E_add64;rfl;rfl;rfl;omega))) | (apply Vc;rfl;rfl;apply fnT;rfl;apply (sp60 (L := L) (s := s));decide;assumption;assumption;(first | (apply at_old;assumption) | (apply at_set;assumption));(intro i_ hi_ _;obtain rfl := List.mem_singleton.1 hi_;(apply okC_in;simp));(intro i_ hi_;cases hi_);rintro _ _ ⟨s2,rfl,hd2,hb2,hz2,rfl⟩ <;> (first | rw [set_call2 (by assumption)] | rw [set_call (by assumption)] | skip)) | (apply Vd;rfl;(apply E_gtr;rfl;rfl);all_goals intro h_) | (apply Vs;rfl;(apply W_stO;(apply tyT;rfl);rfl;rfl;assumption;(apply okC_in;simp);rfl;rfl;(first | decide | (apply Nat.le_of_ble_eq_true;rfl)))) | (apply s_region;rfl) | apply tri_seq | apply tri_skip | apply tri_ret | (apply tri_condT;rfl) | (apply tri_condF;rfl) | (apply end_w _ (.inr rfl);(exact List.prefix_append _ _);(focus repeat (first | apply R_nil | (apply R_tmp;rfl)));rfl;(first | (apply at_set;assumption) | (apply at_old;assumption));rfl;rfl) | apply p_then | apply p_thenR)
  all_goals first
    | exact ⟨s2,rfl,by omega,.inr ⟨rfl,by omega,hz2⟩⟩
    | exact ⟨⟨s.loc,s.bad,s.whr,s.deep + 1,s.late,s.lateAt⟩,rfl,rfl,.inl ⟨rfl,rfl,rfl,by omega⟩⟩
def OneW (L : List Wd) (s s' : Ws) : Prop := s'.loc ≤ L.length ∧ s'.deep = s.deep ∧ ((s'.loc = s.loc + 1 ∧ s'.bad = 0 ∧ s.bad = 0) ∨ (s'.loc = s.loc ∧ s'.bad ≠ 0))
abbrev isT (r : BV) : Prop := ∃ t : ByteArray,r = vS t ∧ t.size ≤ 1000000
theorem wc_mono {L : List Wd} {N : Int} {s : Ws} {f : Nat} {args : List BV} {R R' : Ws → BV → Prop} (h : WC L N s f args R) (hR : ∀ s' r,R s' r → R' s' r) : WC L N s f args R' := fun S T M id hid => call_mono (h S T M id hid) fun _ _ ⟨s',e,hr⟩ => ⟨s',e,hR _ _ hr⟩
theorem sp62x (L : List Wd) (N : Int) (s : Ws) (hL : L.length ≤ 8000) (hW : ∀ w ∈ L,w.text.size ≤ 1000000) (hl : s.loc < L.length) (hb : s.bad = 0) : WC L N s 62 [] (fun s' r => OneW L s s' ∧ ∃ t : ByteArray,r = vS t ∧ t.size ≤ 1000000 ∧ (t = ⟨#[]⟩ ∨ ∃ w,L[s.loc]? = some w ∧ t = w.text)) := by
  intro S T M id hid
  have hlt := (List.getElem?_eq_some_iff.1 hid).1
  have hl' : s.loc ≤ L.length := by omega
  refine callT_go [id] [] Tryz.func62 rfl Tryz.ntmps62 Tryz.results62 ?_
  obtain ⟨w,hw⟩ : ∃ c,L[s.loc]? = some c := ⟨_,List.getElem?_eq_getElem hl⟩
  have hws := hW w (List.mem_of_getElem? hw)
  repeat' (first | apply triL_nil | (apply V;rfl;(first | (apply E_mv;rfl) | (apply E_as;rfl) | (apply E_fa;(apply plT;rfl);rfl;rfl;decide) | (apply E_fe;(apply plT;rfl);rfl;rfl;decide) | (apply E_ld;(apply tyT;rfl);rfl;(apply at_old;assumption);rfl) | (apply E_le;(apply tyT;rfl);rfl;rfl) | (apply E_lens;(apply udT;rfl);rfl) | (apply E_ncp;rfl) | (apply E_add64;rfl;rfl;rfl;omega) | (apply E_ial (c := w);apply elT;rfl;rfl;rfl;rfl;exact encWd_len;omega;simpa using hw))) | (apply s_drawn (nt := 28) (.take 0 (.take 1 (.take 2 (.take 3 (.take 4 (.take 5 (.take 6 (.take 7 (.take 8 (.take 9 (.take 10 (.take 11 .nil)))))))))))) [] [];exact mixed;rfl;decide +kernel) | (apply Vc;rfl;rfl;apply fnT;rfl;apply (sp60 (L := L) (s := s));decide;assumption;assumption;(first | (apply at_old;assumption) | (apply at_set;assumption));(intro i_ hi_ _;obtain rfl := List.mem_singleton.1 hi_;(apply okC_in;simp));(intro i_ hi_;cases hi_);rintro _ _ ⟨s2,rfl,hd2,hb2,hz2,rfl⟩ <;> (first | rw [set_call2 (by assumption)] | rw [set_call (by assumption)] | skip)) | (apply Vd;rfl;(apply E_gtr;rfl;rfl);all_goals intro h_) | (apply Vs;rfl;(apply W_stO;(apply tyT;rfl);rfl;rfl;assumption;(apply okC_in;simp);rfl;rfl;(first | decide | (apply Nat.le_of_ble_eq_true;rfl)))) | (apply s_region;rfl) | apply tri_seq | apply tri_skip | apply tri_ret | (apply tri_condT;rfl) | (apply tri_condF;rfl) | (apply end_w _ (.inr rfl);(exact List.prefix_append _ _);(focus repeat (first | apply R_nil | (apply R_tmp;rfl)));rfl;(first | (apply at_set;assumption) | (apply at_old;assumption));rfl;rfl) | apply p_then | apply p_thenR | apply d_nil | (apply tV;rfl;rfl;(first | (apply E_mv;rfl) | (apply E_as;rfl) | (apply E_fa;(apply plT;rfl);rfl;rfl;decide) | (apply E_fe;(apply plT;rfl);rfl;rfl;decide) | (apply E_ld;(apply tyT;rfl);rfl;(apply at_old;assumption);rfl) | (apply E_le;(apply tyT;rfl);rfl;rfl) | (apply E_lens;(apply udT;rfl);rfl) | (apply E_ncp;rfl) | (apply E_add64;rfl;rfl;rfl;omega) | (apply E_ial (c := w);apply elT;rfl;rfl;rfl;rfl;exact encWd_len;omega;simpa using hw));rfl))
  all_goals first
    | exact ⟨s2,rfl,⟨by omega,by omega,.inr ⟨by omega,hz2⟩⟩,_,rfl,by decide,.inl rfl⟩
    | exact ⟨⟨s.loc + 1,s.bad,s.whr,s.deep,s.late,s.lateAt⟩,rfl,⟨by dsimp only;omega,rfl,.inl ⟨rfl,hb,hb⟩⟩,_,rfl,hws,.inr ⟨w,hw,rfl⟩⟩
theorem sp62 (L : List Wd) (N : Int) (s : Ws) (hL : L.length ≤ 8000) (hW : ∀ w ∈ L,w.text.size ≤ 1000000) (hl : s.loc < L.length) (hb : s.bad = 0) : WC L N s 62 [] (fun s' r => OneW L s s' ∧ isT r) := wc_mono (sp62x L N s hL hW hl hb) fun _ _ ⟨h1,t,h2,h3,_⟩ => ⟨h1,t,h2,h3⟩
theorem at_lt {L : List Wd} {s : Ws} {more : Nat} {k : Int} {t : ByteArray} (h : isAt L s more k t) : s.loc + more < L.length ∧ s.bad = 0 := by
  obtain ⟨h0,w,hw,_⟩ := h
  exact ⟨(List.getElem?_eq_some_iff.1 hw).1,h0⟩
theorem sp67x (L : List Wd) (N : Int) (s : Ws) (hL : L.length ≤ 8000) (hW : ∀ w ∈ L,w.text.size ≤ 1000000) (hl : s.loc ≤ L.length) : WC L N s 67 [] (fun s' r => OneW L s s' ∧ ∃ t : ByteArray,r = vS t ∧ t.size ≤ 1000000 ∧ (t = ⟨#[]⟩ ∨ ∃ w ∈ L,w.kind = 1 ∧ t = w.text)) := by
  intro S T M id hid
  have hlt := (List.getElem?_eq_some_iff.1 hid).1
  refine callT_go [id] [] Tryz.func67 rfl Tryz.ntmps67 Tryz.results67 ?_
  repeat' (first | apply triL_nil | (apply V;rfl;(first | (apply E_mv;rfl) | (apply E_as;rfl) | (apply E_not;rfl))) | (apply Vp;rfl;rfl;apply fnT;rfl;apply (sp95 (L := L) (s := s) (more := 0));assumption;assumption;assumption;omega;(first | (apply at_old;assumption) | (apply at_set;assumption));rintro _ ⟨(_ | _),rfl,hi_⟩) | (apply Vc;rfl;rfl;apply fnT;rfl;apply (sp60 (L := L) (s := s));decide;assumption;assumption;(first | (apply at_old;assumption) | (apply at_set;assumption));(intro i_ hi_ _;obtain rfl := List.mem_singleton.1 hi_;(apply okC_in;simp));(intro i_ hi_;cases hi_);rintro _ _ ⟨s2,rfl,hd2,hb2,hz2,rfl⟩ <;> (first | rw [set_call2 (by assumption)] | rw [set_call (by assumption)] | skip)) | (apply Vc;rfl;rfl;apply fnT;rfl;apply (sp62x (L := L) (s := s));assumption;assumption;exact (at_lt (hi_ rfl)).1;exact (at_lt (hi_ rfl)).2;(first | (apply at_old;assumption) | (apply at_set;assumption));(intro i_ hi_ _;obtain rfl := List.mem_singleton.1 hi_;(apply okC_in;simp));(intro i_ hi_;cases hi_);rintro _ _ ⟨s3,rfl,ho_,t_,rfl,ht_,hx_⟩ <;> (first | rw [set_call2 (by assumption)] | rw [set_call (by assumption)] | skip)) | (apply s_region;rfl) | apply tri_seq | apply tri_skip | apply tri_ret | (apply tri_condT;rfl) | (apply tri_condF;rfl) | (apply end_w _ (.inr rfl);(exact List.prefix_append _ _);(focus repeat (first | apply R_nil | (apply R_tmp;rfl)));rfl;(first | (apply at_set;assumption) | (apply at_old;assumption));rfl;rfl) | apply p_then | apply p_thenR)
  all_goals first
    | exact ⟨s2,rfl,⟨by omega,by omega,.inr ⟨by omega,hz2⟩⟩,_,rfl,by decide,.inl rfl⟩
    | exact ⟨s3,rfl,ho_,_,rfl,ht_,hx_.elim .inl fun ⟨w,hw,e⟩ => by
        obtain ⟨_,w',hw',hk,_⟩ := hi_ rfl
        rw [Nat.add_zero] at hw'
        obtain rfl := Option.some.inj (hw.symm.trans hw')
        exact .inr ⟨w,List.mem_of_getElem? hw,hk,e⟩⟩
theorem sp67 (L : List Wd) (N : Int) (s : Ws) (hL : L.length ≤ 8000) (hW : ∀ w ∈ L,w.text.size ≤ 1000000) (hl : s.loc ≤ L.length) : WC L N s 67 [] (fun s' r => OneW L s s' ∧ isT r) := wc_mono (sp67x L N s hL hW hl) fun _ _ ⟨h1,t,h2,h3,_⟩ => ⟨h1,t,h2,h3⟩
def NBD : ByteArray := ⟨#[110,111,98,111,100,121]⟩
theorem sp67n (L : List Wd) (N : Int) (s : Ws) (hL : L.length ≤ 8000) (hW : ∀ w ∈ L,w.text.size ≤ 1000000) (hN : ∀ w ∈ L,w.kind = 1 → w.text ≠ NBD) (hl : s.loc ≤ L.length) : WC L N s 67 [] (fun s' r => OneW L s s' ∧ ∃ t : ByteArray,r = vS t ∧ t.size ≤ 1000000 ∧ t ≠ NBD) := wc_mono (sp67x L N s hL hW hl) fun _ _ ⟨h1,t,h2,h3,h4⟩ => ⟨h1,t,h2,h3,h4.elim (fun e h => absurd (e.symm.trans h) (by decide)) fun ⟨w,hw,hk,e⟩ h => hN w hw hk (e.symm.trans h)⟩
theorem sp38 (L : List Wd) (N : Int) (s : Ws) (hL : L.length ≤ 8000) (hW : ∀ w ∈ L,w.text.size ≤ 1000000) (hl : s.loc ≤ L.length) : WC L N s 38 [] (fun s' r => OneW L s s' ∧ isT r) := by
  intro S T M id hid
  have hlt := (List.getElem?_eq_some_iff.1 hid).1
  refine callT_go [id] [] Tryz.func38 rfl Tryz.ntmps38 Tryz.results38 ?_
  repeat' (first | apply triL_nil | (apply V;rfl;(first | (apply E_mv;rfl) | (apply E_as;rfl) | (apply E_not;rfl))) | (apply Vp;rfl;rfl;apply fnT;rfl;apply (sp61 (L := L) (s := s) (more := 0));assumption;assumption;assumption;omega;(first | (apply at_old;assumption) | (apply at_set;assumption));rintro _ ⟨(_ | _),rfl,hi_⟩) | (apply Vc;rfl;rfl;apply fnT;rfl;apply (sp60 (L := L) (s := s));decide;assumption;assumption;(first | (apply at_old;assumption) | (apply at_set;assumption));(intro i_ hi_ _;obtain rfl := List.mem_singleton.1 hi_;(apply okC_in;simp));(intro i_ hi_;cases hi_);rintro _ _ ⟨s2,rfl,hd2,hb2,hz2,rfl⟩ <;> (first | rw [set_call2 (by assumption)] | rw [set_call (by assumption)] | skip)) | (apply Vc;rfl;rfl;apply fnT;rfl;apply (sp62 (L := L) (s := s));assumption;assumption;exact (at_lt (hi_ rfl)).1;exact (at_lt (hi_ rfl)).2;(first | (apply at_old;assumption) | (apply at_set;assumption));(intro i_ hi_ _;obtain rfl := List.mem_singleton.1 hi_;(apply okC_in;simp));(intro i_ hi_;cases hi_);rintro _ _ ⟨s3,rfl,ho_,t_,rfl,ht_⟩ <;> (first | rw [set_call2 (by assumption)] | rw [set_call (by assumption)] | skip)) | (apply s_region;rfl) | apply tri_seq | apply tri_skip | apply tri_ret | (apply tri_condT;rfl) | (apply tri_condF;rfl) | (apply end_w _ (.inr rfl);(exact List.prefix_append _ _);(focus repeat (first | apply R_nil | (apply R_tmp;rfl)));rfl;(first | (apply at_set;assumption) | (apply at_old;assumption));rfl;rfl) | apply p_then | apply p_thenR)
  all_goals first
    | exact ⟨s2,rfl,⟨by omega,by omega,.inr ⟨by omega,hz2⟩⟩,_,rfl,by decide⟩
    | exact ⟨s3,rfl,ho_,_,rfl,ht_⟩
theorem sp96 (L : List Wd) (N : Int) (s : Ws) (more : Nat) (hL : L.length ≤ 8000) (hW : ∀ w ∈ L,w.text.size ≤ 1000000) (hl : s.loc ≤ L.length) (hm : more ≤ 10) : RC L N s 96 [vI more] (fun r => ∃ b,r = vB b ∧ (b = true → s.loc + more < L.length ∧ s.bad = 0)) := by
  intro S T M id hid
  refine callT_go [] [] Tryz.func96 rfl Tryz.ntmps96 Tryz.results96 ?_
  repeat' (first | apply triL_nil | (apply V;rfl;(first | (apply E_mv;rfl) | (apply E_as;rfl) | (apply E_pkT;rfl;rfl) | (apply E_pkF;rfl;rfl))) | (apply Vp;rfl;rfl;apply fnT;rfl;apply (sp64 (L := L) (s := s) (more := more));assumption;assumption;omega;(first | (apply at_old;assumption) | (apply at_set;assumption));rintro _ ⟨(_ | _),rfl,hi_⟩) | (apply Vp;rfl;rfl;apply fnT;rfl;apply (sp61 (L := L) (s := s) (more := more));assumption;assumption;assumption;omega;(first | (apply at_old;assumption) | (apply at_set;assumption));rintro _ ⟨(_ | _),rfl,hj_⟩) | (apply Vo;rfl) | (apply s_region;rfl) | apply tri_ret | (apply end_q _ (.inr rfl);(exact List.prefix_append _ _);(focus repeat (first | apply R_nil | (apply R_tmp;rfl)));rfl))
  all_goals first
    | exact ⟨true,rfl,fun _ => at_lt (hi_.1 rfl)⟩
    | exact ⟨true,rfl,fun _ => at_lt (hj_ rfl)⟩
    | exact ⟨false,rfl,fun h => Bool.noConfusion h⟩
theorem sp68 (L : List Wd) (N : Int) (s : Ws) (hL : L.length ≤ 8000) (hW : ∀ w ∈ L,w.text.size ≤ 1000000) (hl : s.loc ≤ L.length) : WC L N s 68 [] (fun s' r => OneW L s s' ∧ isT r) := by
  intro S T M id hid
  have hlt := (List.getElem?_eq_some_iff.1 hid).1
  refine callT_go [id] [] Tryz.func68 rfl Tryz.ntmps68 Tryz.results68 ?_
  repeat' (first | apply triL_nil | (apply V;rfl;(first | (apply E_mv;rfl) | (apply E_as;rfl) | (apply E_not;rfl))) | (apply Vp;rfl;rfl;apply fnT;rfl;apply (sp96 (L := L) (s := s) (more := 0));assumption;assumption;assumption;omega;(first | (apply at_old;assumption) | (apply at_set;assumption));rintro _ ⟨(_ | _),rfl,hi_⟩) | (apply Vc;rfl;rfl;apply fnT;rfl;apply (sp60 (L := L) (s := s));decide;assumption;assumption;(first | (apply at_old;assumption) | (apply at_set;assumption));(intro i_ hi_ _;obtain rfl := List.mem_singleton.1 hi_;(apply okC_in;simp));(intro i_ hi_;cases hi_);rintro _ _ ⟨s2,rfl,hd2,hb2,hz2,rfl⟩ <;> (first | rw [set_call2 (by assumption)] | rw [set_call (by assumption)] | skip)) | (apply Vc;rfl;rfl;apply fnT;rfl;apply (sp62 (L := L) (s := s));assumption;assumption;exact (hi_ rfl).1;exact (hi_ rfl).2;(first | (apply at_old;assumption) | (apply at_set;assumption));(intro i_ hi_ _;obtain rfl := List.mem_singleton.1 hi_;(apply okC_in;simp));(intro i_ hi_;cases hi_);rintro _ _ ⟨s3,rfl,ho_,t_,rfl,ht_⟩ <;> (first | rw [set_call2 (by assumption)] | rw [set_call (by assumption)] | skip)) | (apply s_region;rfl) | apply tri_seq | apply tri_skip | apply tri_ret | (apply tri_condT;rfl) | (apply tri_condF;rfl) | (apply end_w _ (.inr rfl);(exact List.prefix_append _ _);(focus repeat (first | apply R_nil | (apply R_tmp;rfl)));rfl;(first | (apply at_set;assumption) | (apply at_old;assumption));rfl;rfl) | apply p_then | apply p_thenR)
  all_goals first
    | exact ⟨s2,rfl,⟨by omega,by omega,.inr ⟨by omega,hz2⟩⟩,_,rfl,by decide⟩
    | exact ⟨s3,rfl,ho_,_,rfl,ht_⟩
theorem sp125 (t : ByteArray) : PC 125 [vS t] isI := by
  intro S T M
  refine callT_go [] [] Tryz.func125 rfl Tryz.ntmps125 Tryz.results125 ?_
  repeat' (first | apply triL_nil | (apply V;rfl;(first | (apply E_mv;rfl) | (apply E_as;rfl))) | (apply Vd;rfl;(apply E_seql;rfl;rfl);all_goals intro h_) | (apply s_region;rfl) | apply tri_seq | (apply tri_region;rfl) | apply tri_block | apply tri_skip | apply tri_ret | (apply tri_condT;rfl) | (apply tri_condF;rfl) | (apply end_q _ (.inr rfl);(exact List.prefix_append _ _);(focus repeat (first | apply R_nil | (apply R_tmp;rfl)));rfl) | apply p_then | apply p_inN | apply p_inR | apply p_thenR)
  all_goals exact ⟨_,rfl⟩
theorem u8_at (x : Int) : 0 ≤ IntKind.u8.wrap x ∧ IntKind.u8.wrap x ≤ 255 := by
  simp only [IntKind.wrap,IntKind.signed,IntKind.bits,Bool.false_and,Bool.false_eq_true,if_false]
  omega
theorem add_small {n : Int} (h0 : 0 ≤ n) (h1 : n ≤ 1099511627776) (x : Int) : IntKind.i64.wrap (n * 10 + IntKind.u8.wrap x) = n * 10 + IntKind.u8.wrap x := IntWalk.i64_in _ (by have := u8_at x;omega)
theorem u8_small (x : Int) : IntKind.i64.wrap (IntKind.u8.wrap x) = IntKind.u8.wrap x := IntWalk.i64_in _ (by have := u8_at x;omega)
theorem min_ok {n : Int} (h0 : 0 ≤ n) (x : Int) : 0 ≤ (if (1099511627776 : Int) < n * 10 + IntKind.u8.wrap x then 1099511627776 else n * 10 + IntKind.u8.wrap x) ∧ (if (1099511627776 : Int) < n * 10 + IntKind.u8.wrap x then 1099511627776 else n * 10 + IntKind.u8.wrap x) ≤ 1099511627776 := by
  have := u8_at x
  split <;> omega
theorem E_addK' {P : Program} {st : St} {ρ : Rg} {x y : Operand} {t ty : Nat} {k : IntKind} {a b c : Int} (hx : fl ρ x = some (.int k a)) (hy : fl ρ y = some (.int k b)) (hc : k.wrap (a + b) = c) : stepV P st ρ (.binOp .add t x y ty) = some (.d (.flat (.int k c))) := by
  subst hc
  exact E_add hx hy
theorem E_mulK {P : Program} {st : St} {ρ : Rg} {x y : Operand} {t ty : Nat} {k : IntKind} {a b c : Int} (hx : fl ρ x = some (.int k a)) (hy : fl ρ y = some (.int k b)) (hc : k.wrap (a * b) = c) : stepV P st ρ (.binOp .mul t x y ty) = some (.d (.flat (.int k c))) := by
  subst hc
  exact E_mul hx hy
theorem E_cvK' {P : Program} {st : St} {ρ : Rg} {x : Operand} {s d : Nat} {u : TypeDesc} {j k : IntKind} {n c : Int} (hx : fl ρ x = some (.int j n)) (hs : P.underlying s = some u) (hd : P.underlying d = some (.int k)) (hc : k.wrap n = c) : stepV P st ρ (.convert s d x) = some (.d (.flat (.int k c))) := by
  subst hc
  exact E_cvt hx hs hd
theorem sp118 (L : List Wd) (N : Int) (s : Ws) (most : Int) (hL : L.length ≤ 8000) (hW : ∀ w ∈ L,w.text.size ≤ 1000000) (hl : s.loc ≤ L.length) : WC L N s 118 [vI most] (fun s' r => OneW L s s' ∧ ∃ n,r = .d (dN n)) := by
  intro S T M id hid
  have hlt := (List.getElem?_eq_some_iff.1 hid).1
  refine callT_go [id] [] Tryz.func118 rfl Tryz.ntmps118 Tryz.results118 ?_
  by_cases hat : isAt L s 0 2 ⟨#[]⟩
  · obtain ⟨hb0,w,hw,_⟩ := (show _ from hat)
    have hw' : L[((s.loc : Nat) : Int).toNat]? = some w := by simpa using hw
    have hws := hW w (List.mem_of_getElem? hw)
    have hlx := (at_lt hat).1
    repeat' (first | apply triL_nil | (apply V;rfl;(first | (apply E_mv;rfl) | (apply E_as;rfl) | (apply E_fa;(apply plT;rfl);rfl;rfl;decide) | (apply E_fe;(apply plT;rfl);rfl;rfl;decide) | (apply E_ld;(apply tyT;rfl);rfl;(apply at_old;assumption);rfl) | (apply E_le;(apply tyT;rfl);rfl;rfl) | (apply E_ncp;rfl) | (apply E_not;rfl) | (apply E_ial (c := w);apply elT;rfl;rfl;rfl;rfl;exact encWd_len;omega;exact hw'))) | (apply Vp;rfl;rfl;apply fnT;rfl;apply (sp64 (L := L) (s := s) (more := 0));assumption;assumption;omega;(first | (apply at_old;assumption) | (apply at_set;assumption));rintro _ ⟨(_ | _),rfl,hi_⟩) | (apply s_drawn (nt := 53) (.take 0 (.take 1 (.take 2 (.take 3 (.take 4 (.take 5 (.take 6 (.take 7 (.take 8 (.take 9 (.take 10 (.take 11 .nil)))))))))))) [] [];exact mixed;rfl;decide +kernel) | (apply s_region;rfl) | apply tri_seq | apply tri_block | apply tri_skip | (apply tri_condT;rfl) | (apply tri_condF;rfl) | apply p_then | apply d_nil | (apply tV;rfl;rfl;(first | (apply E_mv;rfl) | (apply E_as;rfl) | (apply E_fa;(apply plT;rfl);rfl;rfl;decide) | (apply E_fe;(apply plT;rfl);rfl;rfl;decide) | (apply E_ld;(apply tyT;rfl);rfl;(apply at_old;assumption);rfl) | (apply E_le;(apply tyT;rfl);rfl;rfl) | (apply E_ncp;rfl) | (apply E_not;rfl) | (apply E_ial (c := w);apply elT;rfl;rfl;rfl;rfl;exact encWd_len;omega;exact hw'));rfl) | (exfalso;have := hi_.2 hat;contradiction))
    refine tri_fix (fun k : Nat × Int => w.text.size - k.1) (fun k => [(0,.ptr id 0),(1,vI most),(5,vS w.text),(6,vI k.2),(7,vI k.1)]) (fun k => k.1 ≤ w.text.size ∧ 0 ≤ k.2 ∧ k.2 ≤ 1099511627776) (0,0) ⟨Nat.zero_le _,by decide,by decide⟩ ⟨rfl,rfl,rfl,rfl,rfl,trivial⟩ ?_
    rintro ⟨k,n⟩ ⟨hk,hn0,hn1⟩
    dsimp only at hk hn0 hn1 ⊢
    repeat' (first | apply triL_nil | (apply V;rfl;(first | (apply E_mulK;rfl;rfl;exact IntWalk.i64_in _ (by omega)) | (apply E_cvK';rfl;apply udT;rfl;apply udT;rfl;exact u8_small _) | (apply E_addK';rfl;rfl;exact add_small hn0 hn1 _) | (apply E_mv;rfl) | (apply E_as;rfl) | (apply E_fa;(apply plT;rfl);rfl;rfl;decide) | (apply E_ld;(apply tyT;rfl);rfl;(apply at_old;assumption);rfl) | (apply E_lens;(apply udT;rfl);rfl) | (apply E_ncp;rfl) | (apply E_cvt;rfl;(apply udT;rfl);(apply udT;rfl)) | (apply E_idx;(apply udT;rfl);rfl;rfl;omega) | (apply E_add64;rfl;rfl;rfl;omega) | (apply E_sub;rfl;rfl) | (apply E_min;rfl;rfl))) | (apply Vc;rfl;rfl;apply fnT;rfl;apply (sp60 (L := L) (s := s));decide;assumption;assumption;(first | (apply at_old;assumption) | (apply at_set;assumption));(intro i_ hi_ _;obtain rfl := List.mem_singleton.1 hi_;(apply okC_in;simp));(intro i_ hi_;cases hi_);rintro _ _ ⟨s2,rfl,hd2,hb2,hz2,rfl⟩ <;> (first | rw [set_call2 (by assumption)] | rw [set_call (by assumption)] | skip)) | (apply Vd;rfl;(first | (apply E_lss;rfl;rfl) | (apply E_gtr;rfl;rfl));all_goals intro h_) | (apply Vs;rfl;(apply W_stO;(apply tyT;rfl);rfl;rfl;assumption;(apply okC_in;simp);rfl;rfl;(first | decide | (apply Nat.le_of_ble_eq_true;rfl)))) | (apply s_region;rfl) | apply tri_seq | (apply tri_region;rfl) | apply tri_block | apply tri_skip | apply tri_exit | apply tri_ret | (apply tri_condT;rfl) | (apply tri_condF;rfl) | (apply end_w _ (.inr rfl);(exact List.prefix_append _ _);(focus repeat (first | apply R_nil | (apply R_tmp;rfl)));rfl;(first | (apply at_set;assumption) | (apply at_old;assumption));rfl;rfl) | apply p_then | apply p_in | apply p_inN | apply p_thenR | apply p_thenE)
    · exact ⟨(k + 1,_),by dsimp only;omega,⟨by dsimp only;omega,(min_ok hn0 _).1,(min_ok hn0 _).2⟩,⟨rfl,rfl,rfl,rfl,vI_of (by omega),trivial⟩,rfl⟩
    · exact ⟨s2,rfl,⟨by omega,by omega,.inr ⟨by omega,hz2⟩⟩,_,rfl⟩
    · exact ⟨⟨s.loc + 1,s.bad,s.whr,s.deep,s.late,s.lateAt⟩,rfl,⟨by dsimp only;omega,rfl,.inl ⟨rfl,hb0,hb0⟩⟩,_,rfl⟩
  · repeat' (first | apply triL_nil | (apply V;rfl;(first | (apply E_mv;rfl) | (apply E_as;rfl) | (apply E_not;rfl))) | (apply Vp;rfl;rfl;apply fnT;rfl;apply (sp64 (L := L) (s := s) (more := 0));assumption;assumption;omega;(first | (apply at_old;assumption) | (apply at_set;assumption));rintro _ ⟨(_ | _),rfl,hi_⟩) | (apply Vc;rfl;rfl;apply fnT;rfl;apply (sp60 (L := L) (s := s));decide;assumption;assumption;(first | (apply at_old;assumption) | (apply at_set;assumption));(intro i_ hi_ _;obtain rfl := List.mem_singleton.1 hi_;(apply okC_in;simp));(intro i_ hi_;cases hi_);rintro _ _ ⟨s2,rfl,hd2,hb2,hz2,rfl⟩ <;> (first | rw [set_call2 (by assumption)] | rw [set_call (by assumption)] | skip)) | (apply s_region;rfl) | apply tri_seq | apply tri_skip | apply tri_ret | (apply tri_condT;rfl) | (apply tri_condF;rfl) | (apply end_w _ (.inr rfl);(exact List.prefix_append _ _);(focus repeat (first | apply R_nil | (apply R_tmp;rfl)));rfl;(first | (apply at_set;assumption) | (apply at_old;assumption));rfl;rfl) | apply p_then | apply p_thenR | (exfalso;exact hat (hi_.1 rfl)))
    all_goals exact ⟨s2,rfl,⟨by omega,by omega,.inr ⟨by omega,hz2⟩⟩,_,rfl⟩
end Go.Proofs.YtokilnhpepbjlaaGreat
