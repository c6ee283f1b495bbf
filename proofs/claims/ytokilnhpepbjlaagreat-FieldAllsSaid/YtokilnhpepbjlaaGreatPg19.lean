/- Texts of the claim, merged: FY. No conditions. -/
import Derived.Test.YtokilnhpepbjlaaGreatPg17
import Derived.Test.YtokilnhpepbjlaaGreatPg6
import Derived.Test.YtokilnhpepbjlaaGreatPg15
import Derived.Test.YtokilnhpepbjlaaGreatPg18
namespace Go.Proofs.YtokilnhpepbjlaaGreat
open Go Go.RowKit Go.Proofs.YtokilnhpepbjlaaGreat.Calc
set_option linter.unusedVariables false
set_option linter.unusedSimpArgs false
set_option maxRecDepth 100000
set_option maxHeartbeats 8000000
theorem u64_mild (n : Nat) (h : n ≤ 1000000) : IntKind.u64.wrap (n : Int) = n := by
  show (n : Int) % 18446744073709551616 = n
  omega
theorem E_slP {P : Program} {st : St} {ρ : Rg} {x hi : Operand} {t e : Nat} {U LL : List Tq} (he : elOf P t = some (e,2)) (hx : evB ρ x = some (.d (encL encTq LL))) (hh : bndB ρ (some hi) LL.length = some U.length) (hle : U.length ≤ LL.length) (hs : (LL.flatMap encTq).take (U.length * 2) = U.flatMap encTq) : stepV P st ρ (.slice t x none (some hi) none) = some (.d (encL encTq U)) := by
  rw [E_slr (l := 0) (h := U.length) (cs := LL.flatMap encTq) (n := LL.length) he hx rfl (by intro v h;cases h) rfl hh (Nat.zero_le _) hle,Nat.zero_mul,List.drop_zero,Nat.sub_zero,hs]
theorem E_sneF {P : Program} {st : St} {ρ : Rg} {x y : Operand} {t ty : Nat} {a b : ByteArray} (hx : fl ρ x = some (.string a)) (hy : fl ρ y = some (.string b)) (h : a = b) : stepV P st ρ (.binOp .neq t x y ty) = some (vB false) := by
  rw [E_sneq hx hy,decide_eq_false (fun h2 => h2 h)]
theorem tq_flat (l : List Tq) : (l.flatMap encTq).length = l.length * 2 := by rw [flatMap_len (k := 2) encTq_len]
theorem allL_mem {p : List Cl} {t : Tq} : ∀ {l : List ByteArray},t ∈ allL p l → t.own ∈ l ∧ ∃ n : Nat,t.nth = n ∧ n < (classC p t.own).fields.length
  | [],h => by cases h
  | c :: l,h => by
    rw [allL] at h
    rcases List.mem_append.1 h with h | h
    · obtain ⟨h1,n,h2,f,h3,_⟩ := alF_mem c _ 0 t h
      rw [h1]
      exact ⟨List.mem_cons_self ..,n,by rw [h2];omega,(List.getElem?_eq_some_iff.1 h3).1⟩
    · obtain ⟨h1,h2⟩ := allL_mem h
      exact ⟨List.mem_cons_of_mem _ h1,h2⟩
theorem own_size {p : List Cl} (hB : BP p) {a : ByteArray} (h : isC p a = true) : a.size ≤ 1000000 := by
  rcases List.mem_append.1 (is_name h) with h | h
  · have : ∀ x ∈ BS,x.size ≤ 1000000 := by decide
    exact this a h
  · obtain ⟨c,hc,rfl⟩ := List.mem_map.1 h
    exact (hB c hc).1
theorem all_ok {p : List Cl} (hp : Small p) (hB : BP p) (a : ByteArray) : ∀ t ∈ allL p (chC p a).reverse,t.own.size ≤ maxLen ∧ (Lit.int .i64 t.nth).wf = true := fun t ht => by
  obtain ⟨h1,n,h2,h3⟩ := allL_mem ht
  have h4 := own_size hB (ch_is (List.mem_reverse.1 h1))
  have h5 := class_fields hp t.own
  exact ⟨Nat.le_trans h4 (by decide),encTq_wf (by omega) (by omega)⟩
theorem allL_len {p : List Cl} (hp : Small p) : ∀ l : List ByteArray,(allL p l).length ≤ 1000000 * l.length
  | [] => Nat.zero_le _
  | c :: l => by
    rw [allL,List.length_append,alF_len,List.length_cons]
    have h1 := cnt_le (classC p c).fields
    have h2 := class_fields hp c
    have h3 := allL_len hp l
    omega
attribute [local irreducible] Tri TriL TriP CallT stepV stepW thenQ inQ endQ endN
theorem sp4 (l : List (List Int)) (a : Int) : PC 4 [.d (encL encIs l),vI a] (fun r => r = vB true) := by
  have h6 := sp6 l
  have h9 := sp9
  intro S T M
  refine callT_go [] [] Tryz.func4 rfl Tryz.ntmps4 Tryz.results4 ?_
  repeat' (first | apply triL_nil | (apply V;rfl;(first | (apply E_mv;rfl) | (apply E_as;rfl) | (apply E_fa;(apply plT;rfl);rfl;rfl;decide) | (apply E_ld;(apply tyT;rfl);rfl;(apply at_;rfl;rfl);rfl) | (apply E_len;(apply elT;rfl);rfl;rfl))) | (apply Vp;rfl;rfl;apply fnT;rfl;apply h6;rintro _ ⟨p,rfl,hp⟩) | (apply Vd;rfl;(apply E_eql;rfl;rfl);all_goals intro h_) | (apply Vw;rfl;(apply W_alL;rfl;(apply tyT;rfl))) | (apply Vs;rfl;(apply W_stL;rfl;(apply tyT;rfl);rfl;rfl;rfl;(first | apply okC_new | (apply okC_ge;omega));rfl;rfl;(first | decide | (apply Nat.le_of_ble_eq_true;rfl)))) | (apply s_region;rfl) | apply tri_seq | apply tri_skip | apply tri_ret | (apply tri_condT;rfl) | (apply tri_condF;rfl) | (apply end_q _ (.inr rfl);(exact List.prefix_append _ _);(focus repeat (first | apply R_nil | (apply R_tmp;rfl)));rfl) | apply p_then | apply p_thenR)
  · exact absurd (List.eq_nil_of_length_eq_zero (by simp_all)) hp.2.2.2.2.1
  obtain ⟨hz,hB,hC,hF,hne,hNE,hNB⟩ := hp
  have hs := Small_of hz
  have hpl := hs.1
  have hp0 : 0 < p.length := List.length_pos_iff.2 hne
  obtain ⟨d,hd,hlt⟩ := u64_mod2 a p.length hp0
  obtain ⟨c,hc⟩ : ∃ c,p[d]? = some c := ⟨_,List.getElem?_eq_getElem hlt⟩
  have hu := u64_mild p.length hpl
  have hci := cls_is hc
  have hfl := hs.2 c (List.mem_of_getElem? hc)
  have h12 := sp12 p c.name hs hC hci
  rw [all_split hC hNE hc] at h12
  have hok := all_ok hs hB c.super
  have hUl := allL_len hs (chC p c.super).reverse
  rw [List.length_reverse] at hUl
  have hcl := ch_len p c.super
  have hAl := alF_len c.name c.fields 0
  have hcl2 := cnt_le c.fields
  have hmem := alF_mem c.name c.fields 0
  have hup := alF_up c.name c.fields 0
  have hcc := classC_self hC hc
  obtain ⟨X,hX1,hX2,hX3⟩ : ∃ X : BV,(c.super = NIL → X = .tight [] 0) ∧ (c.super ≠ NIL → X = .d (encL encTq (allL p (chC p c.super).reverse))) ∧ wk X = .d (encL encTq (allL p (chC p c.super).reverse)) := by
    by_cases h : c.super = NIL
    · exact ⟨.tight [] 0,fun _ => rfl,fun h2 => absurd h h2,by rw [up_nil hNE h];rfl⟩
    · exact ⟨_,fun h2 => absurd h2 h,fun _ => rfl,rfl⟩
  have hX4 : rowB X = some ((allL p (chC p c.super).reverse).flatMap encTq,(allL p (chC p c.super).reverse).length) := by
    by_cases h : c.super = NIL
    · rw [hX1 h,up_nil hNE h];rfl
    · rw [hX2 h];rfl
  have h13 : PC 13 [.d (encL encTq (allL p (chC p c.super).reverse)),X] (fun r => r = vB true) := fun S T M => call_wk (by show [_,wk X] = _;rw [hX3];rfl) (sp13 _ (by omega) hok S T M)
  have h12s : c.super ≠ NIL → PC 12 [vP p,vS c.super] (fun r => r = X) := fun h => by
    rw [hX2 h]
    exact sp12 p c.super hs hC (sup_is hC hc h)
  generalize allL p (chC p c.super).reverse = U at *
  generalize alF c.name c.fields 0 = A at *
  have hlen : (U ++ A).length = U.length + A.length := List.length_append
  have hsl : ((U ++ A).flatMap encTq).take (U.length * 2) = U.flatMap encTq := by rw [List.flatMap_append,← tq_flat,List.take_left]
  have hget : ∀ i : Nat,U.length ≤ i → (U ++ A)[i]? = A[i - U.length]? := fun i h => List.getElem?_append_right h
  generalize U ++ A = LL at *
  clear hok hX3
  repeat' (first | apply triL_nil | (apply V;rfl;(first | (apply E_mv;rfl) | (apply E_as;rfl) | (apply E_fa;(apply plT;rfl);rfl;rfl;decide) | (apply E_lda;(apply tyT;rfl);rfl;(apply at_;rfl;rfl);rfl) | (apply E_ld;(apply tyT;rfl);rfl;(apply at_;rfl;rfl);rfl) | (apply E_lea;(apply tyT;rfl);rfl;(first | rfl | apply encEx_len | apply encSm_len)) | (apply E_len;(apply elT;rfl);rfl;rfl) | (apply E_cvt;rfl;(apply udT;rfl);(apply udT;rfl)) | (apply E_remW;rfl;rfl;(show IntKind.u64.wrap (p.length : Int) ≠ 0;rw [hu];omega);exact (congrArg (Int.tmod (IntKind.u64.wrap a)) hu).trans hd) | (apply E_ial (c := c);apply elT;rfl;rfl;rfl;rfl;exact encCl_len;omega;simpa using hc))) | (apply t_drawn (nt := 128) (.take 0 (.take 1 (.take 2 (.take 3 (.take 4 (.take 5 (.take 6 (.take 7 (.take 8 (.take 9 (.take 10 (.one 11 (.one 12 .nil))))))))))))) [] [12];exact mixed;rfl;decide +kernel) | (apply Vp;rfl;rfl;apply fnT;rfl;apply h12;rintro _ rfl) | (apply Vp;rfl;rfl;apply fnT;rfl;apply (h12s (by assumption));rintro _ rfl) | (show Tri _ (.seq (.seq (.region 7 _ _) _) _) _ _ _;apply s_mid (fun ρ st => st = ⟨S ++ [([.d (encL encCl p)],25),([vS c.name,vS c.super,.d (encL encFi c.fields),.d (encL encMe c.methods)],30)],T ++ [],M⟩ ∧ hasR ρ [(5,.ptr (S.length + 0) 0),(6,.ptr (S.length + 1) 0),(7,.d (encL encTq LL)),(8,X)])) | (apply Vd;rfl;(apply E_sneq;rfl;rfl);all_goals intro h_) | (apply s_region;rfl) | (apply tri_region;rfl) | apply tri_skip | (apply tri_condT;rfl) | (apply tri_condF;rfl) | apply p_then | apply d_nil | (apply tV;rfl;rfl;(first | (apply E_mv;rfl) | (apply E_as;rfl) | (apply E_fa;(apply plT;rfl);rfl;rfl;decide) | (apply E_lda;(apply tyT;rfl);rfl;(apply at_;rfl;rfl);rfl) | (apply E_ld;(apply tyT;rfl);rfl;(apply at_;rfl;rfl);rfl) | (apply E_lea;(apply tyT;rfl);rfl;(first | rfl | apply encEx_len | apply encSm_len)) | (apply E_len;(apply elT;rfl);rfl;rfl) | (apply E_cvt;rfl;(apply udT;rfl);(apply udT;rfl)) | (apply E_remW;rfl;rfl;(show IntKind.u64.wrap (p.length : Int) ≠ 0;rw [hu];omega);exact (congrArg (Int.tmod (IntKind.u64.wrap a)) hu).trans hd) | (apply E_ial (c := c);apply elT;rfl;rfl;rfl;rfl;exact encCl_len;omega;simpa using hc));rfl) | (apply oW;rfl;rfl;(apply W_alL;rfl;(apply tyT;rfl))) | (apply oS;rfl;rfl;(apply W_stL;rfl;(apply tyT;rfl);rfl;rfl;rfl;(first | (apply okD_new;rfl) | (apply okD_ge;omega;rfl));rfl;rfl;(first | decide | (apply Nat.le_of_ble_eq_true;rfl)))))
  · exact ⟨rfl,rfl,rfl,rfl,rfl,trivial⟩
  · refine ⟨rfl,rfl,rfl,rfl,?_,trivial⟩
    have hsup : c.super = NIL := by first | assumption | exact Classical.not_not.1 (by assumption)
    rw [hX1 hsup]
    rfl
  rintro ρ st ⟨rfl,hR⟩
  refine tri_weak (hasR_le hR) ?_
  clear hR hX1 hX2 h12s h12
  repeat' (first | apply triL_nil | (apply V;rfl;(apply E_as;rfl)) | (apply s_region;rfl) | apply tri_seq | apply tri_block)
  refine tri_fix (fun k : Nat × Nat => c.fields.length - k.1) (fun k => [(5,.ptr (S.length + 0) 0),(6,.ptr (S.length + 1) 0),(7,.d (encL encTq LL)),(8,X),(9,vI k.2),(10,vI k.1)]) (fun k => k.1 ≤ c.fields.length ∧ k.2 + cntF (c.fields.drop k.1) = cntF c.fields) (0,0) ⟨Nat.zero_le _,by simp⟩ ⟨rfl,rfl,rfl,rfl,rfl,rfl,trivial⟩ ?_
  rintro ⟨k,m⟩ ⟨hk,hm⟩
  dsimp only at hk hm ⊢
  by_cases hlk : k < c.fields.length
  · obtain ⟨f,hf⟩ : ∃ f,c.fields[k]? = some f := ⟨_,List.getElem?_eq_getElem hlk⟩
    rw [cnt_drop hf] at hm
    obtain ⟨fs,ft,fn,fi⟩ := f
    have hm2 := cnt_le (c.fields.drop (k + 1))
    rw [List.length_drop] at hm2
    cases fs
    all_goals
      repeat' (first | apply triL_nil | (apply V;rfl;(first | (apply E_mv;rfl) | (apply E_as;rfl) | (apply E_fa;(apply plT;rfl);rfl;rfl;decide) | (apply E_fe;(apply plT;rfl);rfl;rfl;decide) | (apply E_ld;(apply tyT;rfl);rfl;(apply at_;rfl;rfl);rfl) | (apply E_le;(apply tyT;rfl);rfl;rfl) | (apply E_len;(apply elT;rfl);rfl;rfl) | (apply E_not;rfl) | (apply E_add64;rfl;rfl;rfl;omega) | (apply E_ial (c := (⟨_,ft,fn,fi⟩ : Fi));apply elT;rfl;rfl;rfl;rfl;exact encFi_len;omega;simpa using hf))) | (apply Vd;rfl;(apply E_lss;rfl;rfl);all_goals intro h_) | (apply s_region;rfl) | apply tri_seq | (apply tri_region;rfl) | apply tri_block | apply tri_skip | apply tri_exit | (apply tri_condT;rfl) | (apply tri_condF;rfl) | apply p_then | apply p_in | apply p_inN | apply p_thenE | (exfalso;omega))
      all_goals dsimp only at hm
    · exact ⟨(k + 1,m + 1),by dsimp only;omega,⟨by dsimp only;omega,by dsimp only;rw [if_neg (by decide)] at hm;omega⟩,⟨rfl,rfl,rfl,rfl,vI_of (by omega),vI_of (by omega),trivial⟩,rfl⟩
    · exact ⟨(k + 1,m),by dsimp only;omega,⟨by dsimp only;omega,by dsimp only;rw [if_pos rfl] at hm;omega⟩,⟨rfl,rfl,rfl,rfl,rfl,vI_of (by omega),trivial⟩,rfl⟩
  rw [List.drop_of_length_le (by omega),cntF] at hm
  repeat' (first | apply triL_nil | (apply V;rfl;(first | (apply E_len;apply elT;rfl;rfl;exact hX4) | (apply E_mv;rfl) | (apply E_as;rfl) | (apply E_fa;(apply plT;rfl);rfl;rfl;decide) | (apply E_ld;(apply tyT;rfl);rfl;(apply at_;rfl;rfl);rfl) | (apply E_len;(apply elT;rfl);rfl;rfl) | (apply E_pkT;rfl;rfl) | (apply E_pkF;rfl;rfl) | (apply E_not;rfl) | (apply E_add64;rfl;rfl;rfl;omega) | (apply E_slP;apply elT;rfl;rfl;(show (if (0 : Int) ≤ U.length then some (U.length : Int).toNat else none) = some U.length;rw [if_pos (by omega)];rfl);omega;exact hsl))) | (apply Vp;rfl;rfl;apply fnT;rfl;apply h13;rintro _ rfl) | (apply Vd;rfl;(first | (apply E_lss;rfl;rfl) | (apply E_neq;rfl;rfl));all_goals intro h_) | (apply Vo;rfl) | (apply s_region;rfl) | apply tri_seq | apply tri_block | apply tri_skip | apply tri_exit | apply tri_ret | (apply tri_condT;rfl) | (apply tri_condF;rfl) | (apply end_q _ (.inr rfl);(exact List.prefix_append _ _);(focus repeat (first | apply R_nil | (apply R_tmp;rfl)));rfl) | apply p_then | apply p_in | apply p_thenR | apply p_thenE | (exfalso;omega))
  all_goals try (exfalso;omega)
  refine tri_grow (fun k : Nat => LL.length - k) (fun k => [(5,.ptr (S.length + 0) 0),(6,.ptr (S.length + 1) 0),(7,.d (encL encTq LL)),(8,X),(11,vI k)]) (fun k S1 T1 => U.length ≤ k ∧ k ≤ LL.length ∧ S.length + 2 ≤ S1.length ∧ T <+: T1 ∧ S1[S.length + 0]? = some ([.d (encL encCl p)],25) ∧ S1[S.length + 1]? = some ([vS c.name,vS c.super,.d (encL encFi c.fields),.d (encL encMe c.methods)],30)) U.length ⟨Nat.le_refl _,by omega,by simp,by simp,at_ rfl rfl,at_ rfl rfl⟩ ⟨rfl,rfl,rfl,rfl,rfl,trivial⟩ ?_
  rintro k S1 T1 ⟨hk0,hk,hS,hT,g0,g1⟩
  by_cases hlk : k < LL.length
  · obtain ⟨t,ht⟩ : ∃ t,A[k - U.length]? = some t := ⟨_,List.getElem?_eq_getElem (by omega)⟩
    have htL := hget k hk0
    rw [ht] at htL
    obtain ⟨ho,n,hn,f,hf,hfs⟩ := hmem t (List.mem_of_getElem? ht)
    obtain ⟨s,hs1⟩ : ∃ s : Tq,U.length < k → LL[((k : Int) - 1).toNat]? = some s ∧ s.nth < t.nth := by
      by_cases h : U.length < k
      · have e : ((k : Int) - 1).toNat = k - 1 := by omega
        have e2 := hget (k - 1) (by omega)
        obtain ⟨s,hsA⟩ : ∃ s,A[k - 1 - U.length]? = some s := ⟨_,List.getElem?_eq_getElem (by omega)⟩
        rw [hsA] at e2
        refine ⟨s,fun _ => ⟨by rw [e];exact e2,hup (k - 1 - U.length) s t hsA ?_⟩⟩
        rw [show k - 1 - U.length + 1 = k - U.length by omega]
        exact ht
      · exact ⟨⟨⟨#[]⟩,0⟩,fun h2 => absurd h2 h⟩
    obtain ⟨to,tn⟩ := t
    obtain ⟨fs,ft,fn,fi⟩ := f
    dsimp only at ho hn hfs hs1
    subst ho hfs
    have hn2 := (List.getElem?_eq_some_iff.1 hf).1
    have h10 := sp10 p c.name tn ⟨false,ft,fn,fi⟩ hs hC (by omega) (by rw [hcc,hn,show ((0 + n : Nat) : Int).toNat = n by omega];exact hf)
    repeat' (first | apply triL_nil | (apply V;rfl;(first | (apply E_len;apply elT;rfl;rfl;exact hX4) | (apply E_sneF;rfl;rfl;rfl) | (apply E_mv;rfl) | (apply E_as;rfl) | (apply E_fa;(apply plT;rfl);rfl;rfl;decide) | (apply E_fe;(apply plT;rfl);rfl;rfl;decide) | (apply E_ld;(apply tyT;rfl);rfl;(first | (apply at_;rfl;rfl) | (apply at_old;assumption));rfl) | (apply E_lea;(apply tyT;rfl);rfl;(first | rfl | apply encEx_len | apply encSm_len)) | (apply E_le;(apply tyT;rfl);rfl;rfl) | (apply E_len;(apply elT;rfl);rfl;rfl) | (apply E_pkT;rfl;rfl) | (apply E_pkF;rfl;rfl) | (apply E_ex;rfl;rfl) | (apply E_not;rfl) | (apply E_add64;rfl;rfl;rfl;omega) | (apply E_sub64;rfl;rfl;rfl;omega) | (apply E_ial (c := (⟨c.name,tn⟩ : Tq));apply elT;rfl;rfl;rfl;rfl;exact encTq_len;omega;simpa using htL) | (apply E_ial (c := s);apply elT;rfl;rfl;rfl;rfl;exact encTq_len;omega;exact (hs1 (by omega)).1))) | (apply s_drawn (nt := 128) (.take 0 (.take 1 (.take 2 (.take 3 (.take 4 (.fork 5 (.take 6 (.take 7 (.take 8 (.one 9 (.one 10 (.take 11 .nil)))))) 9 (.one 5 (.take 6 (.take 7 (.take 8 (.one 10 (.take 11 .nil)))))))))))) [S1.length + 0] [];exact mixed;rfl;decide +kernel) | apply d_fork | (apply tV;rfl;rfl;(apply E_lda;(apply tyT;rfl);rfl;(apply at_old;assumption);rfl);(apply stab_ne;rfl;(focus (first | (simp;done) | (simp;omega))))) | (apply oS;rfl;rfl;(apply W_stL;rfl;(apply tyT;rfl);rfl;rfl;rfl;(apply okD_geW;omega;(simp));rfl;rfl;(apply Nat.le_of_ble_eq_true;rfl))) | (apply s_drawn (nt := 128) (.take 0 (.take 1 (.take 2 (.take 3 (.take 4 (.take 5 (.take 6 (.take 7 (.take 8 (.take 9 (.take 10 (.take 11 (.take 12 (.take 13 (.take 14 (.take 15 (.take 16 (.take 17 (.take 18 (.take 19 (.take 20 (.take 21 (.take 22 (.take 23 (.take 24 (.take 25 (.take 26 (.take 27 (.take 28 (.take 29 (.take 30 (.take 31 (.take 32 (.take 33 (.take 34 (.take 35 .nil)))))))))))))))))))))))))))))))))))) [] [];exact mixed;rfl;decide +kernel) | (apply oP;rfl;rfl;rfl;apply fnT;rfl;apply h10;rintro _ rfl) | (apply Vd;rfl;(first | (apply E_lss;rfl;rfl) | (apply E_leq;rfl;rfl) | (apply E_gtr;rfl;rfl));all_goals intro h_) | (apply s_region;rfl) | apply tri_seq | (apply tri_region;rfl) | apply tri_block | apply tri_skip | apply tri_exit | apply tri_ret | (apply tri_condT;rfl) | (apply tri_condF;rfl) | (apply end_q _ (.inr rfl);(apply pre_app;assumption);(focus repeat (first | apply R_nil | (apply R_tmp;rfl)));rfl) | apply p_then | apply p_in | apply p_inN | apply p_inR | apply p_thenR | apply p_thenE | apply d_nil | (apply tV;rfl;rfl;(first | (apply E_len;apply elT;rfl;rfl;exact hX4) | (apply E_sneF;rfl;rfl;rfl) | (apply E_mv;rfl) | (apply E_as;rfl) | (apply E_fa;(apply plT;rfl);rfl;rfl;decide) | (apply E_fe;(apply plT;rfl);rfl;rfl;decide) | (apply E_ld;(apply tyT;rfl);rfl;(first | (apply at_;rfl;rfl) | (apply at_old;assumption));rfl) | (apply E_lea;(apply tyT;rfl);rfl;(first | rfl | apply encEx_len | apply encSm_len)) | (apply E_le;(apply tyT;rfl);rfl;rfl) | (apply E_len;(apply elT;rfl);rfl;rfl) | (apply E_pkT;rfl;rfl) | (apply E_pkF;rfl;rfl) | (apply E_ex;rfl;rfl) | (apply E_not;rfl) | (apply E_add64;rfl;rfl;rfl;omega) | (apply E_sub64;rfl;rfl;rfl;omega) | (apply E_ial (c := (⟨c.name,tn⟩ : Tq));apply elT;rfl;rfl;rfl;rfl;exact encTq_len;omega;simpa using htL) | (apply E_ial (c := s);apply elT;rfl;rfl;rfl;rfl;exact encTq_len;omega;exact (hs1 (by omega)).1));rfl) | (apply tVd;rfl;rfl;(first | (apply E_lss;rfl;rfl) | (apply E_leq;rfl;rfl) | (apply E_gtr;rfl;rfl));rfl;all_goals intro h_) | (apply tVo;rfl;rfl) | (apply oW;rfl;rfl;(apply W_alL;rfl;(apply tyT;rfl))) | (exfalso;omega))
    all_goals first
      | (exfalso;have h := (hs1 (by omega)).2;dsimp only at *;omega)
      | exact ⟨k + 1,_,_,by omega,⟨by omega,by omega,by simp only [List.length_append];omega,pre_app hT,at_old g0,at_old g1⟩,⟨rfl,rfl,rfl,rfl,vI_of (by omega),trivial⟩,rfl⟩
  · repeat' (first | apply triL_nil | (apply V;rfl;(first | (apply E_mv;rfl) | (apply E_as;rfl) | (apply E_len;(apply elT;rfl);rfl;rfl))) | (apply Vp;rfl;rfl;apply fnT;rfl;apply h9;rintro _ rfl) | (apply Vd;rfl;(apply E_lss;rfl;rfl);all_goals intro h_) | (apply s_region;rfl) | apply tri_seq | apply tri_block | apply tri_skip | apply tri_exit | apply tri_ret | (apply tri_condT;rfl) | (apply tri_condF;rfl) | (apply end_q _ (.inr rfl);(apply pre_app;assumption);(focus repeat (first | apply R_nil | (apply R_tmp;rfl)));rfl) | apply p_then | apply p_in | apply p_thenE | (exfalso;omega))
    all_goals first | rfl | skip
end Go.Proofs.YtokilnhpepbjlaaGreat
