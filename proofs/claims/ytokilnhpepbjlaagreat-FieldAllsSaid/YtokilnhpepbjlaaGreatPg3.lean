/- Texts of the claim, merged: SG, Calc12, Calc18. No conditions. -/
import Derived.Test.YtokilnhpepbjlaaGreatPg2
import Derived.Test.YtokilnhpepbjlaaGreatPg1
import Derived.DeepKeys3
namespace Go.Proofs.YtokilnhpepbjlaaGreat
open Go Go.RowKit Go.Proofs.YtokilnhpepbjlaaGreat.Calc
set_option linter.unusedVariables false
set_option linter.unusedSimpArgs false
set_option maxRecDepth 100000
set_option maxHeartbeats 8000000
def encI (x : Int) : List DV := [dI x]
def encIs (q : List Int) : List DV := [encL encI q]
theorem encI_len (x : Int) : (encI x).length = 1 := rfl
theorem encIs_len (x : List Int) : (encIs x).length = 1 := rfl
section
variable {P : Program} {ρ : Rg} {st : St} {x y : Operand} {t ty : Nat}
theorem E_remW {a b c : Int} (hx : fl ρ x = some (.int .u64 a)) (hy : fl ρ y = some (.int .u64 b)) (hb : b ≠ 0) (hc : a.tmod b = c) : stepV P st ρ (.binOp .rem t x y ty) = some (.d (.flat (.int .u64 c))) := by
  subst hc
  simp [stepV,hx,hy,eqGuard,binOp,Op.intDiv,hb,quiet_pure,quiet_bind,constB,cellB,flatV]
end
theorem u64_small (n : Nat) (h : n ≤ 1000) : IntKind.u64.wrap (n : Int) = n := by
  show (n : Int) % 18446744073709551616 = n
  omega
theorem i64_small (n : Nat) (h : n ≤ 1000) : IntKind.i64.wrap (n : Int) = n := by
  have h1 : (n : Int) % 18446744073709551616 = n := by omega
  show (if (true && decide ((n : Int) % 18446744073709551616 ≥ 9223372036854775808)) = true then (n : Int) % 18446744073709551616 - 18446744073709551616 else (n : Int) % 18446744073709551616) = n
  rw [h1,if_neg]
  simp
  omega
theorem u64_mod2 (w : Int) (m : Nat) (hm : 0 < m) : ∃ d : Nat,(IntKind.u64.wrap w).tmod m = (d : Int) ∧ d < m := by
  have hu := u64_nn w
  have h1 := Int.tmod_nonneg (m : Int) hu
  have h2 := Int.tmod_lt_of_pos (IntKind.u64.wrap w) (b := (m : Int)) (by omega)
  exact ⟨((IntKind.u64.wrap w).tmod m).toNat,by rw [Int.toNat_of_nonneg h1],by omega⟩
def obL : List UInt8 → Bool
  | a :: b :: l => !(Nat.beq a.toNat 111 && Nat.beq b.toNat 98) && obL (b :: l)
  | _ => true
def fbL : List UInt8 → Bool
  | a :: _ => !(Nat.beq a.toNat 98)
  | [] => true
def lastL : List UInt8 → Bool
  | [a] => !(Nat.beq a.toNat 111)
  | _ :: l => lastL l
  | [] => false
def obB (t : ByteArray) : Bool := obL t.data.toList && fbL t.data.toList
def endB (t : ByteArray) : Bool := lastL t.data.toList
abbrev LE (t : ByteArray) (n : Nat) : Prop := t.size ≤ n ∧ obB t = true
def leB (t : ByteArray) (n : Nat) : Bool := decide (t.size ≤ n) && obB t
theorem le_closed {t : ByteArray} {n : Nat} (h : leB t n = true) : LE t n := by
  unfold leB at h
  rw [Bool.and_eq_true,decide_eq_true_eq] at h
  exact h
theorem obL_tail {a : UInt8} {l : List UInt8} (h : obL (a :: l) = true) : obL l = true := by
  cases l with
  | nil => rfl
  | cons b l => rw [obL,Bool.and_eq_true] at h;exact h.2
theorem obL_take : ∀ (n : Nat) (l : List UInt8),obL l = true → obL (l.take n) = true
  | 0,l,_ => rfl
  | n + 1,[],h => h
  | 1,[a],_ => rfl
  | n + 2,[a],_ => rfl
  | 1,a :: b :: l,_ => rfl
  | n + 2,a :: b :: l,h => by
    have h2 := obL_take (n + 1) (b :: l) (obL_tail h)
    rw [obL,Bool.and_eq_true] at h
    rw [List.take_succ_cons,List.take_succ_cons,obL,Bool.and_eq_true]
    exact ⟨h.1,h2⟩
theorem obL_drop : ∀ (n : Nat) (l : List UInt8),obL l = true → obL (l.drop n) = true
  | 0,l,h => h
  | n + 1,[],h => h
  | n + 1,a :: l,h => by rw [List.drop_succ_cons];exact obL_drop n l (obL_tail h)
theorem obL_app : ∀ (l m : List UInt8),obL l = true → obL m = true → (lastL l = true ∨ fbL m = true) → obL (l ++ m) = true
  | [],m,_,h,_ => h
  | [a],[],_,_,_ => rfl
  | [a],b :: m,_,h,h2 => by
    show (!(Nat.beq a.toNat 111 && Nat.beq b.toNat 98) && obL (b :: m)) = true
    rw [h,Bool.and_true]
    rcases h2 with h2 | h2
    · have : Nat.beq a.toNat 111 = false := by simpa [lastL] using h2
      rw [this]
      rfl
    · have : Nat.beq b.toNat 98 = false := by simpa [fbL] using h2
      rw [this,Bool.and_false]
      rfl
  | a :: b :: l,m,h1,h,h2 => by
    have h3 := obL_app (b :: l) m (obL_tail h1) h (by rcases h2 with h2 | h2;exact .inl h2;exact .inr h2)
    rw [obL,Bool.and_eq_true] at h1
    show (!(Nat.beq a.toNat 111 && Nat.beq b.toNat 98) && obL (b :: l ++ m)) = true
    rw [h3,h1.1]
    rfl
theorem lastL_app : ∀ (l m : List UInt8),lastL m = true → lastL (l ++ m) = true
  | [],m,h => h
  | [a],m,h => by cases m with
    | nil => cases h
    | cons b m => exact h
  | a :: b :: l,m,h => lastL_app (b :: l) m h
theorem fbL_app {l m : List UInt8} (h : fbL l = true) (h2 : fbL m = true) : fbL (l ++ m) = true := by
  cases l with
  | nil => exact h2
  | cons a l => exact h
theorem fbL_app2 {l m : List UInt8} (h : fbL l = true) (h2 : lastL l = true) : fbL (l ++ m) = true := by
  cases l with
  | nil => cases h2
  | cons a l => exact h
theorem fbL_take : ∀ (n : Nat) (l : List UInt8),fbL l = true → fbL (l.take n) = true
  | 0,l,_ => rfl
  | n + 1,[],h => h
  | n + 1,a :: l,h => h
theorem list_app (a b : ByteArray) : (a ++ b).data.toList = a.data.toList ++ b.data.toList := by simp
theorem list_ext (s : ByteArray) (i j : Nat) : (s.extract i j).data.toList = (s.data.toList.drop i).take (j - i) := by simp
theorem ob_app {a b : ByteArray} (ha : obB a = true) (hb : obB b = true) : obB (a ++ b) = true := by
  unfold obB at *
  rw [Bool.and_eq_true] at *
  rw [list_app]
  exact ⟨obL_app _ _ ha.1 hb.1 (.inr hb.2),fbL_app ha.2 hb.2⟩
theorem ob_rep {s b : ByteArray} {j k l : Nat} (hs : obB s = true) (hb : obB b = true) (he : endB b = true) : obB (s.extract 0 j ++ b ++ s.extract k l) = true := by
  unfold obB at *
  unfold endB at he
  rw [Bool.and_eq_true] at *
  rw [list_app,list_app,list_ext,list_ext]
  have h1 : obL ((s.data.toList.drop 0).take (j - 0)) = true := obL_take _ _ (obL_drop _ _ hs.1)
  have h2 : fbL ((s.data.toList.drop 0).take (j - 0)) = true := fbL_take _ _ hs.2
  have h4 := lastL_app ((s.data.toList.drop 0).take (j - 0)) _ he
  exact ⟨obL_app _ _ (obL_app _ _ h1 hb.1 (.inr hb.2)) (obL_take _ _ (obL_drop _ _ hs.1)) (.inl h4),fbL_app2 (fbL_app h2 hb.2) h4⟩
theorem nb_ext {s : ByteArray} (h : obB s = true) (i j : Nat) : s.extract i j ≠ NBD := by
  intro e
  unfold obB at h
  rw [Bool.and_eq_true] at h
  have h1 := obL_take (j - i) _ (obL_drop i _ h.1)
  rw [← list_ext,e] at h1
  exact absurd h1 (by decide +kernel)
def txtB : DV → Bool
  | .flat (.string t) => leB t 100
  | _ => false
theorem txt_of : ∀ {d : DV},txtB d = true → ∃ t : ByteArray,d = dS t ∧ LE t 100
  | .flat (.string t),h => ⟨t,rfl,le_closed h⟩
theorem txt_at {cs : List DV} (h : cs.all txtB = true) {k : Nat} (hk : k < cs.length) : ∃ t : ByteArray,(cs.drop (k * 1)).take 1 = [dS t] ∧ LE t 100 := by
  have e : cs[k]? = some cs[k] := List.getElem?_eq_getElem hk
  obtain ⟨t,ht,hs⟩ := txt_of (List.all_eq_true.1 h _ (List.mem_of_getElem? e))
  refine ⟨t,?_,hs⟩
  rw [Nat.mul_one,List.drop_eq_getElem_cons hk,List.take_succ_cons,ht]
  rfl
def isX (n : Nat) (r : BV) : Prop := ∃ t : ByteArray,r = vS t ∧ LE t n
attribute [local irreducible] Tri TriL TriP CallT stepV stepW thenQ inQ endQ
theorem tri_cut {C : Cx} {c : Code} {ρ : Rg} {st : St} {Q : Post} (N : Rg → St → Prop) (h : N ρ st) (k : ∀ ρ st,N ρ st → Tri C c ρ st Q) : Tri C c ρ st Q := k _ _ h
theorem sp44 (l : List (List Int)) (i : Nat) : PC 44 [.d (encL encIs l),vI i] (fun r => ∃ q : List Int,r = .d (encL encI q)) := by
  intro S T M
  refine callT_go [] [] Tryz.func44 rfl Tryz.ntmps44 Tryz.results44 ?_
  by_cases hi : i < l.length
  · obtain ⟨q,hq⟩ : ∃ q,l[i]? = some q := ⟨_,List.getElem?_eq_getElem hi⟩
    repeat' (first | apply triL_nil | (apply V;rfl;(first | (apply E_mv;rfl) | (apply E_as;rfl) | (apply E_le;(apply tyT;rfl);rfl;rfl) | (apply E_len;(apply elT;rfl);rfl;rfl) | (apply E_ial (c := q);apply elT;rfl;rfl;rfl;rfl;exact encIs_len;omega;simpa using hq))) | (apply Vd;rfl;(apply E_lss;rfl;rfl);all_goals intro h_) | (apply s_region;rfl) | apply tri_seq | apply tri_skip | apply tri_ret | (apply tri_condT;rfl) | (apply tri_condF;rfl) | (apply end_q _ (.inr rfl);(exact List.prefix_append _ _);(focus repeat (first | apply R_nil | (apply R_tmp;rfl)));rfl) | apply p_then | apply p_thenR)
    all_goals first | exact ⟨q,rfl⟩ | omega
  · repeat' (first | apply triL_nil | (apply V;rfl;(first | (apply E_mv;rfl) | (apply E_as;rfl) | (apply E_len;(apply elT;rfl);rfl;rfl))) | (apply Vd;rfl;(apply E_lss;rfl;rfl);all_goals intro h_) | (apply s_region;rfl) | apply tri_seq | apply tri_skip | apply tri_ret | (apply tri_condT;rfl) | (apply tri_condF;rfl) | (apply end_q _ (.inr rfl);(exact List.prefix_append _ _);(focus repeat (first | apply R_nil | (apply R_tmp;rfl)));rfl) | apply p_then | (exfalso;omega))
    all_goals first | exact ⟨[],rfl⟩ | omega
theorem sp45 (cs : List DV) (n : Nat) (k : Int) (h : cs.all txtB = true) (hn : cs.length = n) (h0 : 0 < n) (h1 : n ≤ 1000) : PC 45 [.d (.sl cs n),vI k] (isX 100) := by
  intro S T M
  obtain ⟨d,hd,hlt⟩ := u64_mod2 k n h0
  obtain ⟨t,ht,hs⟩ := txt_at h (k := d) (by omega)
  have hu := u64_small n h1
  have hi := i64_small d (by omega)
  refine callT_go [] [] Tryz.func45 rfl Tryz.ntmps45 Tryz.results45 ?_
  repeat' (first | apply triL_nil | (apply V;rfl;(first | (apply E_mv;rfl) | (apply E_as;rfl) | (apply E_len;(apply elT;rfl);rfl;rfl) | (apply E_cvt;rfl;(apply udT;rfl);(apply udT;rfl)) | (apply E_remW;rfl;rfl;(show IntKind.u64.wrap (n : Int) ≠ 0;rw [hu];omega);exact (congrArg (Int.tmod (IntKind.u64.wrap k)) hu).trans hd) | (apply E_ia;apply elT;rfl;rfl;rfl;rfl;(show 0 ≤ IntKind.i64.wrap (d : Int) ∧ IntKind.i64.wrap (d : Int) < n;rw [hi];omega)) | (apply E_le (b := vS t);apply tyT;rfl;rfl;(show Calc.part _ _ 0 (List.map BV.d ((cs.drop ((IntKind.i64.wrap (d : Int)).toNat * 1)).take 1)) = some (vS t);rw [hi,Int.toNat_natCast,ht];try rfl)))) | (apply s_region;rfl) | apply tri_ret | (apply end_q _ (.inr rfl);(exact List.prefix_append _ _);(focus repeat (first | apply R_nil | (apply R_tmp;rfl)));rfl))
  all_goals exact ⟨t,rfl,hs⟩
theorem sp46 (s a b : ByteArray) (m : Nat) (hs0 : LE s m) (hm : m ≤ 100000) (ha : a.size ≤ 1000) (hb0 : LE b 1000) (hbe : endB b = true) : PC 46 [vS s,vS a,vS b] (isX (m + 1000)) := by
  obtain ⟨hs,hso⟩ := hs0
  obtain ⟨hb,hbo⟩ := hb0
  intro S T M
  refine callT_go [] [] Tryz.func46 rfl Tryz.ntmps46 Tryz.results46 ?_
  repeat' (first | apply triL_nil | (apply V;rfl;(apply E_as;rfl)) | (apply s_region;rfl) | apply tri_seq | apply tri_block)
  refine tri_grow (fun k : Nat => s.size + 1 - k) (fun k => [(0,vS s),(1,vS a),(2,vS b),(7,vI k)]) (fun k S1 T1 => k ≤ s.size + 1 ∧ S.length ≤ S1.length ∧ T <+: T1) 0 ⟨Nat.zero_le _,by simp,by simp⟩ ⟨rfl,rfl,rfl,rfl,trivial⟩ ?_
  rintro k S1 T1 ⟨hk,hS,hT⟩
  have hk0 : (0 : Int) ≤ k := by omega
  repeat' (first | apply triL_nil | (apply V;rfl;(first | (apply E_mv;rfl) | (apply E_as;rfl) | (apply E_lens;(apply udT;rfl);rfl) | (apply E_add64;rfl;rfl;rfl;omega) | (apply E_sls;(apply udT;rfl);rfl;rfl;rfl;(first | exact .inr ⟨_,_,rfl,by omega,rfl⟩ | exact .inl ⟨rfl,rfl⟩);(first | exact .inr ⟨_,_,rfl,by omega,rfl⟩ | exact .inl ⟨rfl,rfl⟩);(first | omega | (simp only [ByteArray.size_append,ByteArray.size_extract,size_mk,List.size_toArray,List.length_cons,List.length_nil,List.length_append] at *;omega));(first | omega | (simp only [ByteArray.size_append,ByteArray.size_extract,size_mk,List.size_toArray,List.length_cons,List.length_nil,List.length_append] at *;omega))) | (apply E_cat;rfl;rfl;(first | omega | (simp only [ByteArray.size_append,ByteArray.size_extract,size_mk,List.size_toArray,List.length_cons,List.length_nil,List.length_append] at *;omega))))) | (apply s_drawn (nt := 39) (.take 0 (.take 1 (.take 2 (.take 3 (.take 4 (.take 5 (.take 6 (.take 7 (.take 8 (.take 9 (.take 10 (.take 11 (.take 12 .nil))))))))))))) [] [];exact mixed;rfl;decide +kernel) | (apply Vd;rfl;(first | (apply E_leq;rfl;rfl) | (apply E_seql;rfl;rfl));all_goals intro h_) | (apply s_region;rfl) | apply tri_seq | (apply tri_region;rfl) | apply tri_block | apply tri_skip | apply tri_exit | apply tri_ret | (apply tri_condT;rfl) | (apply tri_condF;rfl) | (apply end_q _ (.inr rfl);(apply pre_app;assumption);(focus repeat (first | apply R_nil | (apply R_tmp;rfl)));rfl) | apply p_then | apply p_in | apply p_inN | apply p_inR | apply p_thenR | apply p_thenE | apply d_nil | (apply tV;rfl;rfl;(first | (apply E_mv;rfl) | (apply E_as;rfl) | (apply E_lens;(apply udT;rfl);rfl) | (apply E_add64;rfl;rfl;rfl;omega) | (apply E_sls;(apply udT;rfl);rfl;rfl;rfl;(first | exact .inr ⟨_,_,rfl,by omega,rfl⟩ | exact .inl ⟨rfl,rfl⟩);(first | exact .inr ⟨_,_,rfl,by omega,rfl⟩ | exact .inl ⟨rfl,rfl⟩);(first | omega | (simp only [ByteArray.size_append,ByteArray.size_extract,size_mk,List.size_toArray,List.length_cons,List.length_nil,List.length_append] at *;omega));(first | omega | (simp only [ByteArray.size_append,ByteArray.size_extract,size_mk,List.size_toArray,List.length_cons,List.length_nil,List.length_append] at *;omega))) | (apply E_cat;rfl;rfl;(first | omega | (simp only [ByteArray.size_append,ByteArray.size_extract,size_mk,List.size_toArray,List.length_cons,List.length_nil,List.length_append] at *;omega))));rfl))
  · exact ⟨_,rfl,by simp only [ByteArray.size_append,ByteArray.size_extract];omega,ob_rep hso hbo hbe⟩
  · exact ⟨k + 1,_,_,by omega,⟨by omega,by simpa using hS,pre_app hT⟩,⟨rfl,rfl,rfl,rfl,trivial⟩,rfl⟩
  · exact ⟨_,rfl,by omega,hso⟩
theorem sp43 (q : List Int) (m : Nat) (hm : m ≤ 4) (b : Bool) : PC 43 [.d (encL encI q),vI m,vB b] (isX 404) := by
  intro S T M
  refine callT_go [] [] Tryz.func43 rfl Tryz.ntmps43 Tryz.results43 ?_
  cases b
  all_goals
    repeat' (first | apply triL_nil | (apply V;rfl;(first | (apply E_mv;rfl) | (apply E_as;rfl))) | (show Tri _ (.seq (.seq (.region 2 _ _) _) _) _ _ _;apply s_mid (fun ρ st => ∃ tg cs n T1,st = ⟨S ++ [],T1,M⟩ ∧ T <+: T1 ∧ cs.all txtB = true ∧ cs.length = n ∧ 0 < n ∧ n ≤ 1000 ∧ hasR ρ [(0,.d (encL encI q)),(1,vI m),(7,.own 9 1 tg cs n)])) | (apply Vw;rfl;(first | (apply W_bsL;rfl;(apply elT;rfl);(apply tyT;rfl);rfl;decide;rfl;rfl) | (apply W_ap;(apply elT;rfl);(apply tyT;rfl);(apply byT;rfl);rfl;rfl;rfl;decide;rfl;(apply A_ownX;rfl;decide;decide;decide;rfl)))) | (apply s_region;rfl) | (apply tri_region;rfl) | apply tri_skip | (apply tri_condT;rfl) | (apply tri_condF;rfl) | apply p_then)
    exact ⟨_,_,_,_,rfl,List.prefix_append _ _,by decide +kernel,rfl,by decide,by decide,rfl,rfl,rfl,trivial⟩
    rintro ρ st ⟨tg,cs,n,T1,rfl,hT1,hcs,hn,h0,h1,hR⟩
    refine tri_weak (hasR_le hR) ?_
    clear hR
    repeat' (first | apply triL_nil | (apply V;rfl;(apply E_as;rfl)) | (apply s_region;rfl) | apply tri_seq | apply tri_block)
    refine tri_grow (fun k : Nat × ByteArray => 5 - k.1) (fun k => [(0,.d (encL encI q)),(1,vI m),(7,.own 9 1 tg cs n),(8,vS k.2),(9,vI k.1)]) (fun k S2 T2 => k.1 ≤ 4 ∧ LE k.2 (101 * k.1) ∧ S.length ≤ S2.length ∧ T <+: T2) (0,⟨#[]⟩) ⟨Nat.zero_le _,⟨by decide,by decide +kernel⟩,by simp,hT1⟩ ⟨rfl,rfl,rfl,rfl,rfl,trivial⟩ ?_
    rintro ⟨k,t⟩ S2 T2 ⟨hk,⟨ht,hto⟩,hS,hT⟩
    dsimp only at hk ht ⊢
    have hk0 : (0 : Int) ≤ k := by omega
    by_cases hq : k < q.length
    · obtain ⟨x,hx⟩ : ∃ x,q[k]? = some x := ⟨_,List.getElem?_eq_getElem hq⟩
      repeat' (first | apply triL_nil | (apply V;rfl;(first | (apply E_mv;rfl) | (apply E_as;rfl) | (apply E_le;(apply tyT;rfl);rfl;rfl) | (apply E_len;(apply elT;rfl);rfl;rfl) | (apply E_pkT;rfl;rfl) | (apply E_pkF;rfl;rfl) | (apply E_add64;rfl;rfl;rfl;omega) | (apply E_cat;rfl;rfl;(first | omega | (simp only [ByteArray.size_append,ByteArray.size_extract,size_mk,List.size_toArray,List.length_cons,List.length_nil,List.length_append] at *;omega))) | (apply E_ial (c := x);apply elT;rfl;rfl;rfl;rfl;exact encI_len;omega;simpa using hx))) | (apply Vp;rfl;rfl;apply fnT;rfl;apply call_wk;rfl;apply (sp45 cs n x hcs hn h0 h1);rintro _ ⟨t2,rfl,ht2,ht2o⟩) | (apply Vd;rfl;(apply E_lss;rfl;rfl);all_goals intro h_) | (apply Vo;rfl) | (apply s_region;rfl) | apply tri_seq | (apply tri_region;rfl) | apply tri_block | apply tri_skip | apply tri_exit | apply tri_ret | (apply tri_condT;rfl) | (apply tri_condF;rfl) | (apply end_q _ (.inr rfl);(apply pre_app;assumption);(focus repeat (first | apply R_nil | (apply R_tmp;rfl)));rfl) | apply p_then | apply p_in | apply p_inN | apply p_thenE | (exfalso;omega))
      all_goals first | exact ⟨t,rfl,by omega,hto⟩ | contradiction | skip
      exact ⟨(k + 1,_),_,_,by dsimp only;omega,⟨by dsimp only;omega,⟨by simp only [ByteArray.size_append,size_mk,List.size_toArray,List.length_cons,List.length_nil];omega,ob_app (ob_app hto (by decide +kernel)) ht2o⟩,by simpa using hS,pre_app hT⟩,⟨rfl,rfl,rfl,rfl,rfl,trivial⟩,rfl⟩
    · repeat' (first | apply triL_nil | (apply V;rfl;(first | (apply E_mv;rfl) | (apply E_as;rfl) | (apply E_len;(apply elT;rfl);rfl;rfl) | (apply E_pkT;rfl;rfl) | (apply E_pkF;rfl;rfl) | (apply E_cat;rfl;rfl;(first | omega | (simp only [ByteArray.size_append,ByteArray.size_extract,size_mk,List.size_toArray,List.length_cons,List.length_nil,List.length_append] at *;omega))))) | (apply Vd;rfl;(apply E_lss;rfl;rfl);all_goals intro h_) | (apply Vo;rfl) | (apply s_region;rfl) | apply tri_seq | (apply tri_region;rfl) | apply tri_block | apply tri_skip | apply tri_exit | apply tri_ret | (apply tri_condT;rfl) | (apply tri_condF;rfl) | (apply end_q _ (.inr rfl);(apply pre_app;assumption);(focus repeat (first | apply R_nil | (apply R_tmp;rfl)));rfl) | apply p_then | apply p_in | apply p_thenE | (exfalso;omega))
      all_goals first | exact ⟨t,rfl,by omega,hto⟩ | omega
theorem sp47 (q : List Int) : PC 47 [.d (encL encI q)] (isX 404) := by
  intro S T M
  refine callT_go [] [] Tryz.func47 rfl Tryz.ntmps47 Tryz.results47 ?_
  · skip
    repeat' (first | apply triL_nil | (apply V;rfl;(apply E_as;rfl)) | (show Tri _ (.seq (.region 2 _ _) _) _ _ _;apply tri_cut (fun ρ st => ∃ tg cs n T1,st = ⟨S ++ [],T1,M⟩ ∧ T <+: T1 ∧ cs.all txtB = true ∧ cs.length = n ∧ 0 < n ∧ n ≤ 1000 ∧ hasR ρ [(0,.d (encL encI q)),(3,.own 9 1 tg cs n)])) | (apply Vw;rfl;(apply W_bsL;rfl;(apply elT;rfl);(apply tyT;rfl);rfl;decide;rfl;rfl)) | (apply s_region;rfl))
    exact ⟨_,_,_,_,rfl,List.prefix_append _ _,by decide +kernel,rfl,by decide,by decide,rfl,rfl,trivial⟩
    rintro ρ st ⟨tg,cs,n,T1,rfl,hT1,hcs,hn,h0,h1,hR⟩
    refine tri_weak (hasR_le hR) ?_
    clear hR
    repeat' (first | apply triL_nil | (apply V;rfl;(apply E_as;rfl)) | (apply s_region;rfl) | apply tri_seq | apply tri_block)
    refine tri_grow (fun k : Nat × ByteArray => 5 - k.1) (fun k => [(0,.d (encL encI q)),(3,.own 9 1 tg cs n),(4,vS k.2),(5,vI k.1)]) (fun k S2 T2 => k.1 ≤ 4 ∧ LE k.2 (101 * k.1) ∧ S.length ≤ S2.length ∧ T <+: T2) (0,⟨#[]⟩) ⟨Nat.zero_le _,⟨by decide,by decide +kernel⟩,by simp,hT1⟩ ⟨rfl,rfl,rfl,rfl,trivial⟩ ?_
    rintro ⟨k,t⟩ S2 T2 ⟨hk,⟨ht,hto⟩,hS,hT⟩
    dsimp only at hk ht ⊢
    have hk0 : (0 : Int) ≤ k := by omega
    by_cases hq : k < q.length
    · obtain ⟨x,hx⟩ : ∃ x,q[k]? = some x := ⟨_,List.getElem?_eq_getElem hq⟩
      repeat' (first | apply triL_nil | (apply V;rfl;(first | (apply E_mv;rfl) | (apply E_as;rfl) | (apply E_le;(apply tyT;rfl);rfl;rfl) | (apply E_len;(apply elT;rfl);rfl;rfl) | (apply E_pkT;rfl;rfl) | (apply E_pkF;rfl;rfl) | (apply E_add64;rfl;rfl;rfl;omega) | (apply E_cat;rfl;rfl;(first | omega | (simp only [ByteArray.size_append,ByteArray.size_extract,size_mk,List.size_toArray,List.length_cons,List.length_nil,List.length_append] at *;omega))) | (apply E_ial (c := x);apply elT;rfl;rfl;rfl;rfl;exact encI_len;omega;simpa using hx))) | (apply Vp;rfl;rfl;apply fnT;rfl;apply call_wk;rfl;apply (sp45 cs n x hcs hn h0 h1);rintro _ ⟨t2,rfl,ht2,ht2o⟩) | (apply Vd;rfl;(apply E_lss;rfl;rfl);all_goals intro h_) | (apply Vo;rfl) | (apply s_region;rfl) | apply tri_seq | (apply tri_region;rfl) | apply tri_block | apply tri_skip | apply tri_exit | apply tri_ret | (apply tri_condT;rfl) | (apply tri_condF;rfl) | (apply end_q _ (.inr rfl);(apply pre_app;assumption);(focus repeat (first | apply R_nil | (apply R_tmp;rfl)));rfl) | apply p_then | apply p_in | apply p_inN | apply p_thenE | (exfalso;omega))
      all_goals first | exact ⟨t,rfl,by omega,hto⟩ | contradiction | skip
      exact ⟨(k + 1,_),_,_,by dsimp only;omega,⟨by dsimp only;omega,⟨by simp only [ByteArray.size_append,size_mk,List.size_toArray,List.length_cons,List.length_nil];omega,ob_app (ob_app hto (by decide +kernel)) ht2o⟩,by simpa using hS,pre_app hT⟩,⟨rfl,rfl,rfl,rfl,trivial⟩,rfl⟩
    · repeat' (first | apply triL_nil | (apply V;rfl;(first | (apply E_mv;rfl) | (apply E_as;rfl) | (apply E_len;(apply elT;rfl);rfl;rfl) | (apply E_pkT;rfl;rfl) | (apply E_pkF;rfl;rfl) | (apply E_cat;rfl;rfl;(first | omega | (simp only [ByteArray.size_append,ByteArray.size_extract,size_mk,List.size_toArray,List.length_cons,List.length_nil,List.length_append] at *;omega))))) | (apply Vd;rfl;(apply E_lss;rfl;rfl);all_goals intro h_) | (apply Vo;rfl) | (apply s_region;rfl) | apply tri_seq | (apply tri_region;rfl) | apply tri_block | apply tri_skip | apply tri_exit | apply tri_ret | (apply tri_condT;rfl) | (apply tri_condF;rfl) | (apply end_q _ (.inr rfl);(apply pre_app;assumption);(focus repeat (first | apply R_nil | (apply R_tmp;rfl)));rfl) | apply p_then | apply p_in | apply p_thenE | (exfalso;omega))
      all_goals first | exact ⟨t,rfl,by omega,hto⟩ | omega
theorem cat_le {a b : ByteArray} {m n : Nat} (ha : LE a m) (hb : LE b n) : LE (a ++ b) (m + n) := by
  have h1 := ha.1
  have h2 := hb.1
  exact ⟨by rw [ByteArray.size_append];omega,ob_app ha.2 hb.2⟩
theorem sz_ok {a b : ByteArray} {m n : Nat} (ha : LE a m) (hb : LE b n) (h : m + n ≤ 9223372036854775807) : a.size + b.size ≤ 9223372036854775807 := by
  have h1 := ha.1
  have h2 := hb.1
  omega
theorem le_tr {t : ByteArray} {m n : Nat} (h : LE t m) (h2 : m ≤ n) : LE t n := ⟨Nat.le_trans h.1 h2,h.2⟩
theorem sp17 (l : List (List Int)) : PC 17 [.d (encL encIs l)] (isX 100000) := by
  intro S T M
  refine callT_go [] [] Tryz.func17 rfl Tryz.ntmps17 Tryz.results17 ?_
  repeat' (first | apply triL_nil | (apply V;rfl;(first | (apply E_cat;rfl;rfl;(apply sz_ok;(focus repeat' (first | assumption | apply cat_le | (apply (le_closed (n := 1000));decide +kernel)));(focus repeat' (first | assumption | apply cat_le | (apply (le_closed (n := 1000));decide +kernel)));(first | decide | omega))) | (apply E_mv;rfl) | (apply E_as;rfl))) | (apply Vp;rfl;rfl;apply fnT;rfl;apply (sp44 l 0);rintro _ ⟨q0,rfl⟩) | (apply Vp;rfl;rfl;apply fnT;rfl;apply (sp43 q0 4 (by decide) false);rintro _ ⟨t0,rfl,ht0⟩) | (show Tri _ (.seq (.seq (.region 3 _ _) _) _) _ _ _;apply tri_cut (fun ρ st => ∃ (t3 t4 : ByteArray) (T1 : List Nat),LE t3 10000 ∧ LE t4 100 ∧ T <+: T1 ∧ st = ⟨S ++ [],T1,M⟩ ∧ hasR ρ [(0,.d (encL encIs l)),(3,vS t3),(4,vS t4)])) | (apply s_region;rfl))
  · exact ⟨_,_,_,by first | (apply le_tr;(focus repeat' (first | assumption | apply cat_le | (apply (le_closed (n := 1000));decide +kernel)));(first | decide | omega)),by first | assumption | (apply le_closed;decide +kernel),by first | exact List.prefix_append _ _ | (apply pre_app;assumption),rfl,rfl,rfl,rfl,trivial⟩
  rintro ρ st ⟨t3,t4,T1,ht3,ht4,hT1,rfl,hR⟩
  refine tri_weak (hasR_le hR) ?_
  clear hR
  rw [← List.append_nil T1]
  apply s_mid (fun ρ st => ∃ (t3 t4 : ByteArray) (T1 : List Nat),LE t3 20000 ∧ LE t4 100 ∧ T <+: T1 ∧ st = ⟨S ++ [],T1,M⟩ ∧ hasR ρ [(0,.d (encL encIs l)),(3,vS t3),(4,vS t4)])
  · obtain ⟨q1,hq1⟩ : ∃ q,1 < l.length → l[1]? = some q := by
      by_cases h : 1 < l.length
      · exact ⟨_,fun _ => List.getElem?_eq_getElem h⟩
      · exact ⟨[],fun h2 => absurd h2 h⟩
    repeat' (first | apply triL_nil | (apply V;rfl;(first | (apply E_cat;rfl;rfl;(apply sz_ok;(focus repeat' (first | assumption | apply cat_le | (apply (le_closed (n := 1000));decide +kernel)));(focus repeat' (first | assumption | apply cat_le | (apply (le_closed (n := 1000));decide +kernel)));(first | decide | omega))) | (apply E_mv;rfl) | (apply E_as;rfl) | (apply E_le;(apply tyT;rfl);rfl;rfl) | (apply E_len;(apply elT;rfl);rfl;rfl) | (apply E_ial (c := q1);apply elT;rfl;rfl;rfl;rfl;exact encIs_len;omega;exact hq1 (by omega)))) | (apply Vp;rfl;rfl;apply fnT;rfl;apply (sp44 l 1);rintro _ ⟨q8,rfl⟩) | (apply Vp;rfl;rfl;apply fnT;rfl;apply (sp43 q8 4 (by decide) true);rintro _ ⟨t7,rfl,ht7⟩) | (apply Vp;rfl;rfl;apply fnT;rfl;apply call_wk;rfl;apply sp45;(first | decide +kernel | (simp only [List.all_cons,List.all_nil,txtB,leB,Bool.and_true,Bool.and_eq_true,decide_eq_true_eq];exact ⟨⟨Nat.le_of_ble_eq_true rfl,by decide +kernel⟩,by assumption⟩));rfl;decide;decide;rintro _ ⟨t8,rfl,ht8⟩) | (apply Vd;rfl;(apply E_gtr;rfl;rfl);all_goals intro h_) | (apply Vw;rfl;(apply W_bsL;rfl;(apply elT;rfl);(apply tyT;rfl);rfl;decide;rfl;rfl)) | (apply s_region;rfl) | (apply tri_region;rfl) | apply tri_skip | (apply tri_condT;rfl) | (apply tri_condF;rfl) | apply p_then)
    all_goals exact ⟨_,_,_,by first | (apply le_tr;(focus repeat' (first | assumption | apply cat_le | (apply (le_closed (n := 1000));decide +kernel)));(first | decide | omega)),by first | assumption | (apply le_closed;decide +kernel),by first | assumption | exact List.prefix_append _ _ | (apply pre_app;assumption),rfl,rfl,rfl,rfl,trivial⟩
  rintro ρ st ⟨t3,t4,T1,ht3,ht4,hT1,rfl,hR⟩
  refine tri_weak (hasR_le hR) ?_
  clear hR
  rw [← List.append_nil T1]
  apply s_mid (fun ρ st => ∃ (t3 t4 : ByteArray) (T1 : List Nat),LE t3 40000 ∧ LE t4 100 ∧ T <+: T1 ∧ st = ⟨S ++ [],T1,M⟩ ∧ hasR ρ [(0,.d (encL encIs l)),(3,vS t3),(4,vS t4)])
  · obtain ⟨q2,hq2⟩ : ∃ q,2 < l.length → l[2]? = some q := by
      by_cases h : 2 < l.length
      · exact ⟨_,fun _ => List.getElem?_eq_getElem h⟩
      · exact ⟨[],fun h2 => absurd h2 h⟩
    repeat' (first | apply triL_nil | (apply V;rfl;(first | (apply E_cat;rfl;rfl;(apply sz_ok;(focus repeat' (first | assumption | apply cat_le | (apply (le_closed (n := 1000));decide +kernel)));(focus repeat' (first | assumption | apply cat_le | (apply (le_closed (n := 1000));decide +kernel)));(first | decide | omega))) | (apply E_mv;rfl) | (apply E_as;rfl) | (apply E_le;(apply tyT;rfl);rfl;rfl) | (apply E_len;(apply elT;rfl);rfl;rfl) | (apply E_ial (c := q2);apply elT;rfl;rfl;rfl;rfl;exact encIs_len;omega;exact hq2 (by omega)))) | (apply Vp;rfl;rfl;apply fnT;rfl;apply (sp44 l 2);rintro _ ⟨q8,rfl⟩) | (apply Vp;rfl;rfl;apply fnT;rfl;apply (sp43 q8 2 (by decide) false);rintro _ ⟨t7,rfl,ht7⟩) | (apply Vp;rfl;rfl;apply fnT;rfl;apply sp46;(focus repeat' (first | assumption | apply cat_le | (apply (le_closed (n := 1000));decide +kernel)));(first | decide | omega);exact Nat.le_of_ble_eq_true rfl;(apply (le_closed (n := 1000));decide +kernel);decide +kernel;rintro _ ⟨t6,rfl,ht6⟩) | (apply Vp;rfl;rfl;apply fnT;rfl;apply call_wk;rfl;apply sp45;(first | decide +kernel | (simp only [List.all_cons,List.all_nil,txtB,leB,Bool.and_true,Bool.and_eq_true,decide_eq_true_eq];exact ⟨⟨Nat.le_of_ble_eq_true rfl,by decide +kernel⟩,by assumption⟩));rfl;decide;decide;rintro _ ⟨t8,rfl,ht8⟩) | (apply Vd;rfl;(apply E_gtr;rfl;rfl);all_goals intro h_) | (apply Vw;rfl;(apply W_bsL;rfl;(apply elT;rfl);(apply tyT;rfl);rfl;decide;rfl;rfl)) | (apply s_region;rfl) | (apply tri_region;rfl) | apply tri_skip | (apply tri_condT;rfl) | (apply tri_condF;rfl) | apply p_then)
    all_goals exact ⟨_,_,_,by first | (apply le_tr;(focus repeat' (first | assumption | apply cat_le | (apply (le_closed (n := 1000));decide +kernel)));(first | decide | omega)),by first | assumption | (apply le_closed;decide +kernel),by first | assumption | exact List.prefix_append _ _ | (apply pre_app;assumption),rfl,rfl,rfl,rfl,trivial⟩
  rintro ρ st ⟨t3,t4,T1,ht3,ht4,hT1,rfl,hR⟩
  refine tri_weak (hasR_le hR) ?_
  clear hR
  rw [← List.append_nil T1]
  repeat' (first | apply triL_nil | (apply V;rfl;(first | (apply E_cat;rfl;rfl;(apply sz_ok;(focus repeat' (first | assumption | apply cat_le | (apply (le_closed (n := 1000));decide +kernel)));(focus repeat' (first | assumption | apply cat_le | (apply (le_closed (n := 1000));decide +kernel)));(first | decide | omega))) | (apply E_mv;rfl) | (apply E_as;rfl))) | (apply Vp;rfl;rfl;apply fnT;rfl;apply (sp44 l 3);rintro _ ⟨q8,rfl⟩) | (apply Vp;rfl;rfl;apply fnT;rfl;apply (sp47 q8);rintro _ ⟨t7,rfl,ht7⟩) | (apply s_region;rfl) | apply tri_ret | (apply end_q _ (.inr rfl);(apply pre_app;assumption);(focus repeat (first | apply R_nil | (apply R_tmp;rfl)));rfl))
  all_goals exact ⟨_,rfl,by apply le_tr;(focus repeat' (first | assumption | apply cat_le | (apply (le_closed (n := 1000));decide +kernel)));(first | decide | omega)⟩
end Go.Proofs.YtokilnhpepbjlaaGreat
namespace Go.Proofs.YtokilnhpepbjlaaGreat.Calc
open Go Go.RowKit
set_option linter.unusedVariables false
set_option linter.unusedSimpArgs false
-- Only boxes below nb,rows below nt,maps below nm.
mutual
def inD (nm : Nat) : DV → Bool
  | .flat _ => true
  | .sl cs _ => inDs nm cs
  | .agg l => inDs nm l
  | .iface _ y => inD nm y
  | .map id => Nat.blt id nm
def inDs (nm : Nat) : List DV → Bool
  | [] => true
  | d :: l => inD nm d && inDs nm l
end
mutual
def inB (nb nt nm : Nat) : BV → Bool
  | .d y => inD nm y
  | .agg l => inBs nb nt nm l
  | .own _ _ t cs _ => Nat.blt t nt && inDs nm cs
  | .tight cs _ => inDs nm cs
  | .ptr id _ => Nat.blt id nb
  | .eptr cs => inDs nm cs
  | .fn _ cap => inBs nb nt nm cap
  | .tup l => inBs nb nt nm l
  | .bsl id _ => Nat.blt id nb
  | .any => true
def inBs (nb nt nm : Nat) : List BV → Bool
  | [] => true
  | b :: l => inB nb nt nm b && inBs nb nt nm l
end
structure Fewer (z z' : Full) (nb nt nm : Nat) : Prop where
  w : z'.w = z.w
  F : z'.F = z.F
  pb : ∀ i,i < nb → z'.pb i = z.pb i
  pt : ∀ i,i < nt → z'.pt i = z.pt i
  pm : ∀ i,i < nm → z'.pm i = z.pm i
  S : nb ≤ z'.st.S.length
  T : ∀ t k,t < nt → z.st.T[t]? = some k → z'.st.T[t]? = some k
  M : nm ≤ z'.st.M.length
theorem blt_of {a b : Nat} (h : Nat.blt a b = true) : a < b := Nat.le_of_ble_eq_true h
mutual
theorem few_repD {z z' : Full} {nb nt nm : Nat} (h : Fewer z z' nb nt nm) : ∀ {d : DV} {v : Value},RepD z d v → inD nm d = true → RepD z' d v
  | _,_,.flat v hf,hi => .flat v hf
  | _,_,.nil,hi => .nil
  | _,_,.emp a cap hm,hi => .emp a cap hm
  | _,_,.sl b off n cap cs vs hc hm h1 hv hr,hi => by
    rw [inD] at hi
    refine .sl b off n cap cs vs hc hm h1 (fun i u hu => ?_) (few_repDs h hr hi)
    rw [h.F,h.w]
    exact hv i u hu
  | _,_,.agg l vs hr,hi => by
    rw [inD] at hi
    exact .agg l vs (few_repDs h hr hi)
  | _,_,.iface t y v hr,hi => by
    rw [inD] at hi
    exact .iface t y v (few_repD h hr hi)
  | _,_,.map id hl,hi => by
    rw [inD] at hi
    have hlt := blt_of hi
    rw [← h.pm id hlt]
    exact .map id (Nat.lt_of_lt_of_le hlt h.M)
theorem few_repDs {z z' : Full} {nb nt nm : Nat} (h : Fewer z z' nb nt nm) : ∀ {l : List DV} {vs : List Value},RepDs z l vs → inDs nm l = true → RepDs z' l vs
  | _,_,.nil,hi => .nil
  | _,_,.cons y v l vs h1 h2,hi => by
    rw [inDs,Bool.and_eq_true] at hi
    exact .cons y v l vs (few_repD h h1 hi.1) (few_repDs h h2 hi.2)
end
mutual
theorem few_rep {z z' : Full} {nb nt nm : Nat} (h : Fewer z z' nb nt nm) : ∀ {b : BV} {v : Value},RepB z b v → inB nb nt nm b = true → RepB z' b v
  | _,_,.d y v hr,hi => by
    rw [inB] at hi
    exact .d y v (few_repD h hr hi)
  | _,_,.agg l vs hr,hi => by
    rw [inB] at hi
    exact .agg l vs (few_reps h hr hi)
  | _,_,.own e sz t cs n k v hr hk hle ho,hi => by
    rw [inB,Bool.and_eq_true] at hi
    have hlt := blt_of hi.1
    have hD : inD nm (.sl cs n) = true := by rw [inD];exact hi.2
    refine .own e sz t cs n k v (few_repD h hr hD) (h.T t k hlt hk) hle (fun e1 => ?_)
    rcases ho e1 with ⟨a1,vs,a2,a3⟩ | a
    · exact .inl ⟨a1.trans (h.pt t hlt).symm,vs,by rw [h.w];exact a2,few_repDs h a3 hi.2⟩
    · exact .inr ⟨(h.pt t hlt).trans a.1,a.2⟩
  | _,_,.tight cs n base hr,hi => by
    rw [inB] at hi
    exact .tight cs n base (few_repD h hr (by rw [inD];exact hi))
  | _,_,.ptr id off hl,hi => by
    rw [inB] at hi
    have hlt := blt_of hi
    rw [← h.pb id hlt]
    exact .ptr id off (Nat.lt_of_lt_of_le hlt h.S)
  | _,_,.eptr b off cs vs hv hr,hi => by
    rw [inB] at hi
    refine .eptr b off cs vs (fun i u hu => ?_) (few_repDs h hr hi)
    rw [h.F,h.w]
    exact hv i u hu
  | _,_,.fn f cap vs hr,hi => by
    rw [inB] at hi
    exact .fn f cap vs (few_reps h hr hi)
  | _,_,.tup l vs hr,hi => by
    rw [inB] at hi
    exact .tup l vs (few_reps h hr hi)
  | _,_,.bsl id n cap hl hc hm,hi => by
    rw [inB] at hi
    have hlt := blt_of hi
    rw [← h.pb id hlt]
    exact .bsl id n cap (Nat.lt_of_lt_of_le hlt h.S) hc hm
  | _,_,.any v,hi => .any v
theorem few_reps {z z' : Full} {nb nt nm : Nat} (h : Fewer z z' nb nt nm) : ∀ {l : List BV} {vs : List Value},RepBs z l vs → inBs nb nt nm l = true → RepBs z' l vs
  | _,_,.nil,hi => .nil
  | _,_,.cons y v l vs h1 h2,hi => by
    rw [inBs,Bool.and_eq_true] at hi
    exact .cons y v l vs (few_rep h h1 hi.1) (few_reps h h2 hi.2)
end
def inSt (st : St) : Bool := st.S.all (fun c => inBs st.S.length st.T.length st.M.length c.1) && st.M.all (fun es => es.all fun e => inD st.M.length e.2)
def plus (st : St) (B : List (List BV × Nat)) (U : List Nat) (N : List (List (Value × DV))) : St := ⟨st.S ++ B,st.T ++ U,st.M ++ N⟩
mutual
theorem inD_rep {z : Full} : ∀ {d : DV} {v : Value},RepD z d v → inD z.st.M.length d = true
  | _,_,.flat v hf => rfl
  | _,_,.nil => rfl
  | _,_,.emp a cap hm => by rw [inD];rfl
  | _,_,.sl b off n cap cs vs hc hm h1 hv hr => by rw [inD];exact inDs_rep hr
  | _,_,.agg l vs hr => by rw [inD];exact inDs_rep hr
  | _,_,.iface t y v hr => by rw [inD];exact inD_rep hr
  | _,_,.map id hl => by rw [inD];exact Nat.ble_eq_true_of_le hl
theorem inDs_rep {z : Full} : ∀ {l : List DV} {vs : List Value},RepDs z l vs → inDs z.st.M.length l = true
  | _,_,.nil => rfl
  | _,_,.cons y v l vs h1 h2 => by rw [inDs,inD_rep h1,inDs_rep h2];rfl
end
mutual
theorem inB_rep {z : Full} : ∀ {b : BV} {v : Value},RepB z b v → inB z.st.S.length z.st.T.length z.st.M.length b = true
  | _,_,.d y v hr => by rw [inB];exact inD_rep hr
  | _,_,.agg l vs hr => by rw [inB];exact inBs_rep hr
  | _,_,.own e sz t cs n k v hr hk hle ho => by
    have hD := inD_rep hr
    rw [inD] at hD
    rw [inB,hD,Bool.and_true]
    exact Nat.ble_eq_true_of_le (List.getElem?_eq_some_iff.1 hk).1
  | _,_,.tight cs n base hr => by
    have hD := inD_rep hr
    rw [inD] at hD
    rw [inB]
    exact hD
  | _,_,.ptr id off hl => by rw [inB];exact Nat.ble_eq_true_of_le hl
  | _,_,.eptr b off cs vs hv hr => by rw [inB];exact inDs_rep hr
  | _,_,.fn f cap vs hr => by rw [inB];exact inBs_rep hr
  | _,_,.tup l vs hr => by rw [inB];exact inBs_rep hr
  | _,_,.bsl id n cap hl hc hm => by rw [inB];exact Nat.ble_eq_true_of_le hl
  | _,_,.any v => rfl
theorem inBs_rep {z : Full} : ∀ {l : List BV} {vs : List Value},RepBs z l vs → inBs z.st.S.length z.st.T.length z.st.M.length l = true
  | _,_,.nil => rfl
  | _,_,.cons y v l vs h1 h2 => by rw [inBs,inB_rep h1,inBs_rep h2];rfl
end
-- Only boxes below nb,rows below nt,whatever the data.
mutual
def okB (nb nt : Nat) : BV → Bool
  | .d _ => true
  | .agg l => okBs nb nt l
  | .own _ _ t _ _ => Nat.blt t nt
  | .tight _ _ => true
  | .ptr id _ => Nat.blt id nb
  | .eptr _ => true
  | .fn _ cap => okBs nb nt cap
  | .tup l => okBs nb nt l
  | .bsl id _ => Nat.blt id nb
  | .any => true
def okBs (nb nt : Nat) : List BV → Bool
  | [] => true
  | b :: l => okB nb nt b && okBs nb nt l
end
mutual
theorem ok_in {nb nt nb' nt' nm : Nat} : ∀ {b : BV},okB nb nt b = true → inB nb' nt' nm b = true → inB nb nt nm b = true
  | .d _,h,k => by rw [inB] at k ⊢;exact k
  | .agg l,h,k => by rw [inB] at k ⊢;rw [okB] at h;exact ok_ins h k
  | .own _ _ t cs _,h,k => by
    rw [inB,Bool.and_eq_true] at k ⊢
    rw [okB] at h
    exact ⟨h,k.2⟩
  | .tight _ _,h,k => by rw [inB] at k ⊢;exact k
  | .ptr id _,h,k => by rw [inB];rw [okB] at h;exact h
  | .eptr _,h,k => by rw [inB] at k ⊢;exact k
  | .fn _ cap,h,k => by rw [inB] at k ⊢;rw [okB] at h;exact ok_ins h k
  | .tup l,h,k => by rw [inB] at k ⊢;rw [okB] at h;exact ok_ins h k
  | .bsl id _,h,k => by rw [inB];rw [okB] at h;exact h
  | .any,h,k => by rw [inB] at k ⊢
theorem ok_ins {nb nt nb' nt' nm : Nat} : ∀ {l : List BV},okBs nb nt l = true → inBs nb' nt' nm l = true → inBs nb nt nm l = true
  | [],h,k => rfl
  | b :: l,h,k => by
    rw [inBs,Bool.and_eq_true] at k ⊢
    rw [okBs,Bool.and_eq_true] at h
    exact ⟨ok_in h.1 k.1,ok_ins h.2 k.2⟩
end
def okSt (st : St) : Bool := st.S.all (fun c => okBs st.S.length st.T.length c.1)
theorem getElem?_left {α : Type} {l m : List α} {i : Nat} (h : i < l.length) : (l ++ m)[i]? = l[i]? := List.getElem?_append_left h
theorem getElem?_right {α : Type} {l m : List α} {i : Nat} (h : l.length ≤ i) : (l ++ m)[i]? = m[i - l.length]? := List.getElem?_append_right h
theorem call_frame {P : Program} {Wr : List Nat} {f : Nat} {ars : List BV} {st : St} {Q : BV → St → Prop} (B : List (List BV × Nat)) (U : List Nat) (N : List (List (Value × DV)))
    (h : CallT P Wr [] f ars st (fun r s => s.S.length = st.S.length ∧ s.T.length = st.T.length ∧ s.M.length = st.M.length ∧ Q r s))
    (hi : okSt st = true) (ha : okBs st.S.length st.T.length ars = true) (hN : N = [] ∨ (inSt st = true ∧ inBs st.S.length st.T.length st.M.length ars = true)) (hWr : ∀ i ∈ Wr,i < st.S.length) : CallT P Wr [] f ars (plus st B U N) (fun r s => ∃ s',s = plus s' B U N ∧ Q r s') := by
  intro x vs hx hg hargs
  have hxS : x.st.S = st.S ++ B := by rw [hx];rfl
  have hxT : x.st.T = st.T ++ U := by rw [hx];rfl
  have hxM : x.st.M = st.M ++ N := by rw [hx];rfl
  have lS : x.st.S.length = st.S.length + B.length := by rw [hxS,List.length_append]
  have lT : x.st.T.length = st.T.length + U.length := by rw [hxT,List.length_append]
  have lM : x.st.M.length = st.M.length + N.length := by rw [hxM,List.length_append]
  let x' : Full := ⟨st,x.pb,x.pt,x.pm,x.F,x.w⟩
  have hf : Fewer x x' st.S.length st.T.length st.M.length := ⟨rfl,rfl,fun _ _ => rfl,fun _ _ => rfl,fun _ _ => rfl,Nat.le_refl _,fun t k ht hk => by
    rw [hxT,getElem?_left ht] at hk
    exact hk,Nat.le_refl _⟩
  have inMs : ∀ {cs : List BV} {us : List Value},okBs st.S.length st.T.length cs = true → (N ≠ [] → inBs st.S.length st.T.length st.M.length cs = true) → RepBs x cs us → inBs st.S.length st.T.length st.M.length cs = true := fun {cs us} h1 h2 h3 => by
    rcases hN with hN | hN
    · have := inBs_rep h3
      rw [lM,hN,List.length_nil,Nat.add_zero] at this
      exact ok_ins h1 this
    · by_cases hne : N = []
      · have := inBs_rep h3
        rw [lM,hne,List.length_nil,Nat.add_zero] at this
        exact ok_ins h1 this
      · exact h2 hne
  have inSt' : N ≠ [] → inSt st = true ∧ inBs st.S.length st.T.length st.M.length ars = true := fun hne => hN.resolve_left hne
  have inMD : ∀ {d : DV} {v : Value},(N ≠ [] → inD st.M.length d = true) → RepD x d v → inD st.M.length d = true := fun {d v} h2 h3 => by
    by_cases hne : N = []
    · have := inD_rep h3
      rwa [lM,hne,List.length_nil,Nat.add_zero] at this
    · exact h2 hne
  have hg' : Good x' := by
    constructor
    · intro id cs t hid
      have hlt := (List.getElem?_eq_some_iff.1 hid).1
      obtain ⟨us,h1,h2,h3⟩ := hg.box id cs t (by rw [hxS,getElem?_left hlt];exact hid)
      refine ⟨us,h1,few_reps hf h2 (inMs (List.all_eq_true.1 hi _ (List.mem_of_getElem? hid)) (fun hne => ?_) h2),h3⟩
      have := (inSt' hne).1
      rw [inSt,Bool.and_eq_true] at this
      exact List.all_eq_true.1 this.1 _ (List.mem_of_getElem? hid)
    · exact fun i j h1 h2 e => hg.inj i j (by have : i < st.S.length := h1;omega) (by have : j < st.S.length := h2;omega) e
    · intro t k b ht hb
      have hlt := (List.getElem?_eq_some_iff.1 ht).1
      obtain ⟨h1,h2,h3,h4⟩ := hg.tag t k b (by rw [hxT,getElem?_left hlt];exact ht) hb
      exact ⟨h1,h2,fun i hi => h3 i (by have : i < st.S.length := hi;omega),fun u hu he => h4 u (by have : u < st.T.length := hu;omega) he⟩
    · intro id es hid
      have hlt := (List.getElem?_eq_some_iff.1 hid).1
      obtain ⟨us,c,h1,h2,h3⟩ := hg.map id es (by rw [hxM,getElem?_left hlt];exact hid)
      refine ⟨us,c,h1,h2,fun i e k y he hk => ?_⟩
      obtain ⟨h4,h5⟩ := h3 i e k y he hk
      refine ⟨h4,few_repD hf h5 (inMD (fun hne => ?_) h5)⟩
      have := (inSt' hne).1
      rw [inSt,Bool.and_eq_true] at this
      exact List.all_eq_true.1 (List.all_eq_true.1 this.2 _ (List.mem_of_getElem? hid)) _ (List.mem_of_getElem? hk)
    · exact fun i j h1 h2 e => hg.mapinj i j (by have : i < st.M.length := h1;omega) (by have : j < st.M.length := h2;omega) e
    · exact fun t b i h1 h2 h3 => hg.tmap t b i (by have : t < st.T.length := h1;omega) h2 (by have : i < st.M.length := h3;omega)
  refine (h x' vs rfl hg' (few_reps hf hargs (inMs ha (fun hne => (inSt' hne).2) hargs))).mono fun e w' ⟨r,v,z,he,⟨l1,l2,l3,hq⟩,hv,hgz,hs,hw⟩ => ?_
  subst hw
  let y : Full := ⟨plus z.st B U N,fun i => if i < st.S.length then z.pb i else x.pb i,fun t => if t < st.T.length then z.pt t else x.pt t,fun i => if i < st.M.length then z.pm i else x.pm i,z.F,z.w⟩
  have yS : y.st.S.length = st.S.length + B.length := by show (z.st.S ++ B).length = _;rw [List.length_append,l1]
  have yT : y.st.T.length = st.T.length + U.length := by show (z.st.T ++ U).length = _;rw [List.length_append,l2]
  have yM : y.st.M.length = st.M.length + N.length := by show (z.st.M ++ N).length = _;rw [List.length_append,l3]
  -- an elder block that is none of st's boxes,rows,maps stays
  have old : ∀ b,b < x.w.heap.size → (∀ i,i < st.S.length → x.pb i ≠ b) → (∀ t,t < st.T.length → x.pt t ≠ some b) → z.w.heap[b]? = x.w.heap[b]? := fun b hb h1 h2 =>
    hs.frame b hb (fun i hi hl => h1 i hl) (by simp) (fun t ht => h2 t ht)
  have pbz : ∀ i,i < st.S.length → z.pb i = x.pb i := fun i hi => hs.ids i hi
  have pmz : ∀ i,i < st.M.length → z.pm i = x.pm i := fun i hi => hs.mids i hi
  have ptz : ∀ t b,t < st.T.length → z.pt t = some b → x.pt t = some b ∨ x.w.heap.size ≤ b := fun t b ht hb => by
    obtain ⟨_,_,_,_,hq⟩ := hs.tags t _ (List.getElem?_eq_getElem (l := x'.st.T) ht)
    rcases hq with hq | ⟨q,hq,hlt⟩
    · exact .inl (hq ▸ hb)
    · rw [hq] at hb
      injection hb with hb
      exact .inr (hb ▸ hlt)
  have yb : ∀ i,i < x.st.S.length → y.pb i = x.pb i := fun i hi => by
    by_cases hlt : i < st.S.length
    · simp only [y,if_pos hlt];exact pbz i hlt
    · simp only [y,if_neg hlt]
  have ym : ∀ i,i < x.st.M.length → y.pm i = x.pm i := fun i hi => by
    by_cases hlt : i < st.M.length
    · simp only [y,if_pos hlt];exact pmz i hlt
    · simp only [y,if_neg hlt]
  have ubox : ∀ i b,i < x.st.S.length → x.pb i = b → ∀ t,t < x.st.T.length → x.pt t ≠ some b := fun i b hi hb t ht he =>
    (hg.tag t _ b (List.getElem?_eq_getElem ht) he).2.2.1 i hi hb
  have hstep : Step Wr [] x y := by
    refine ⟨hs.os,hs.tape,hs.output,hs.size,fun b hb h1 h2 h3 => ?_,hs.keep,by omega,fun i hi => yb i hi,fun i h1 h2 => by omega,by omega,fun i hi => ym i hi,fun i h1 h2 => by omega,fun t k ht => ?_,fun t b h1 h2 => by omega,fun b hb h3 => ?_⟩
    · refine hs.frame b hb (fun i hi hl => ?_) (by simp) (fun t ht => ?_)
      · exact h1 i hi (by have : i < st.S.length := hl;omega)
      · exact h3 t (by have : t < st.T.length := ht;omega)
    · by_cases hlt : t < st.T.length
      · have ht' : x'.st.T[t]? = some k := by rw [hxT,getElem?_left hlt] at ht;exact ht
        obtain ⟨k',g1,g2,g3,g4⟩ := hs.tags t k ht'
        refine ⟨k',?_,g2,fun e => ?_,?_⟩
        · show (z.st.T ++ U)[t]? = _
          rw [getElem?_left (by omega)]
          exact g1
        · simp only [y,if_pos hlt]
          exact g3 e
        · simp only [y,if_pos hlt]
          exact g4
      · refine ⟨k,?_,Nat.le_refl _,fun _ => ⟨by simp only [y,if_neg hlt],fun b hb => ?_⟩,.inl (by simp only [y,if_neg hlt])⟩
        · show (z.st.T ++ U)[t]? = _
          rw [hxT,getElem?_right (by omega)] at ht
          rw [getElem?_right (by omega),l2]
          exact ht
        · obtain ⟨g1,_,g3,g4⟩ := hg.tag t k b ht hb
          refine old b g1 (fun i hi => g3 i (by omega)) (fun u hu he => ?_)
          have := g4 u (by omega) he
          omega
    · exact hs.fro b hb (fun t ht => h3 t (by have : t < st.T.length := ht;omega))
  have hmore : Fewer z y z.st.S.length z.st.T.length z.st.M.length := by
    refine ⟨rfl,rfl,fun i hi => ?_,fun t ht => ?_,fun i hi => ?_,by omega,fun t k ht hk => ?_,by omega⟩
    · simp only [y,if_pos (show i < st.S.length by omega)]
    · simp only [y,if_pos (show t < st.T.length by omega)]
    · simp only [y,if_pos (show i < st.M.length by omega)]
    · show (z.st.T ++ U)[t]? = _
      rw [getElem?_left ht]
      exact hk
  refine ⟨r,v,y,he,⟨z.st,rfl,hq⟩,few_rep hmore hv (inB_rep hv),?_,hstep,rfl⟩
  constructor
  · intro id cs t hid
    have hlt := (List.getElem?_eq_some_iff.1 hid).1
    by_cases hlt' : id < st.S.length
    · have hid' : z.st.S[id]? = some (cs,t) := by
        have : (z.st.S ++ B)[id]? = some (cs,t) := hid
        rwa [getElem?_left (by omega)] at this
      obtain ⟨us,h1,h2,h3⟩ := hgz.box id cs t hid'
      simp only [y,if_pos hlt']
      exact ⟨us,h1,few_reps hmore h2 (inBs_rep h2),h3⟩
    · have hid' : x.st.S[id]? = some (cs,t) := by
        have : (z.st.S ++ B)[id]? = some (cs,t) := hid
        rw [getElem?_right (by omega),l1] at this
        rw [hxS,getElem?_right (by omega)]
        exact this
      have hxl : id < x.st.S.length := by omega
      obtain ⟨us,h1,h2,h3⟩ := hg.box id cs t hid'
      have hb := hg.box_lt hxl
      have hno : ∀ t,t < st.T.length → x.pt t ≠ some (x.pb id) := fun t ht => ubox id _ hxl rfl t (by omega)
      simp only [y,if_neg hlt']
      refine ⟨us,?_,h2.mono hstep,?_⟩
      · rw [old _ hb (fun i hi e => ?_) hno]
        · exact h1
        · have := hg.inj i id (by omega) hxl e
          omega
      · rw [hs.fro _ hb hno]
        exact h3
  · intro i j h1 h2 e
    rw [yb i (by omega),yb j (by omega)] at e
    exact hg.inj i j (by omega) (by omega) e
  · intro t k b ht hb
    have hlt := (List.getElem?_eq_some_iff.1 ht).1
    by_cases hlt' : t < st.T.length
    · have ht' : z.st.T[t]? = some k := by
        have : (z.st.T ++ U)[t]? = some k := ht
        rwa [getElem?_left (by omega)] at this
      simp only [y,if_pos hlt'] at hb
      obtain ⟨g1,g2,g3,g4⟩ := hgz.tag t k b ht' hb
      have hxb := ptz t b hlt' hb
      refine ⟨g1,g2,fun i hi e => ?_,fun u hu he => ?_⟩
      · rw [yb i (by omega)] at e
        rcases hxb with hxb | hxb
        · exact ubox i b (by omega) e t (by omega) hxb
        · have := hg.box_lt (show i < x.st.S.length by omega)
          omega
      · by_cases hu' : u < st.T.length
        · simp only [y,if_pos hu'] at he
          exact g4 u (by omega) he
        · simp only [y,if_neg hu'] at he
          rcases hxb with hxb | hxb
          · exact (hg.tag t _ b (List.getElem?_eq_getElem (show t < x.st.T.length by omega)) hxb).2.2.2 u (by omega) he
          · have := hg.tag_lt (show u < x.st.T.length by omega) he
            omega
    · have ht' : x.st.T[t]? = some k := by
        have : (z.st.T ++ U)[t]? = some k := ht
        rw [getElem?_right (by omega),l2] at this
        rw [hxT,getElem?_right (by omega)]
        exact this
      simp only [y,if_neg hlt'] at hb
      obtain ⟨g1,g2,g3,g4⟩ := hg.tag t k b ht' hb
      have hno : ∀ u,u < st.T.length → x.pt u ≠ some b := fun u hu he => by
        have := g4 u (by omega) he
        omega
      refine ⟨Nat.lt_of_lt_of_le g1 hs.size,?_,fun i hi e => ?_,fun u hu he => ?_⟩
      · show z.F b ≤ k
        rw [hs.fro b g1 hno]
        exact g2
      · rw [yb i (by omega)] at e
        exact g3 i (by omega) e
      · by_cases hu' : u < st.T.length
        · simp only [y,if_pos hu'] at he
          rcases ptz u b hu' he with hx1 | hx1
          · exact absurd hx1 (hno u hu')
          · omega
        · simp only [y,if_neg hu'] at he
          exact g4 u (by omega) he
  · intro id es hid
    have hlt := (List.getElem?_eq_some_iff.1 hid).1
    by_cases hlt' : id < st.M.length
    · have hid' : z.st.M[id]? = some es := by
        have : (z.st.M ++ N)[id]? = some es := hid
        rwa [getElem?_left (by omega)] at this
      obtain ⟨us,c,h1,h2,h3⟩ := hgz.map id es hid'
      simp only [y,if_pos hlt']
      exact ⟨us,c,h1,h2,fun i e k d he hk => ⟨(h3 i e k d he hk).1,few_repD hmore (h3 i e k d he hk).2 (inD_rep (h3 i e k d he hk).2)⟩⟩
    · have hid' : x.st.M[id]? = some es := by
        have : (z.st.M ++ N)[id]? = some es := hid
        rw [getElem?_right (by omega),l3] at this
        rw [hxM,getElem?_right (by omega)]
        exact this
      have hxl : id < x.st.M.length := by omega
      obtain ⟨us,c,h1,h2,h3⟩ := hg.map id es hid'
      have hb := hg.map_lt hxl
      simp only [y,if_neg hlt']
      refine ⟨us,c,?_,h2,fun i e k d he hk => ⟨(h3 i e k d he hk).1,(h3 i e k d he hk).2.mono hstep.le⟩⟩
      rw [old _ hb (fun i hi e => hg.map_ne hxl (show i < x.st.S.length by omega) e.symm) (fun t ht he => hg.tmap t _ id (by omega) he hxl rfl)]
      exact h1
  · intro i j h1 h2 e
    rw [ym i (by omega),ym j (by omega)] at e
    exact hg.mapinj i j (by omega) (by omega) e
  · intro t b i h1 h2 h3
    rw [ym i (by omega)]
    by_cases hlt' : t < st.T.length
    · simp only [y,if_pos hlt'] at h2
      rcases ptz t b hlt' h2 with hx1 | hx1
      · exact hg.tmap t b i (by omega) hx1 (by omega)
      · have := hg.map_lt (show i < x.st.M.length by omega)
        omega
    · simp only [y,if_neg hlt'] at h2
      exact hg.tmap t b i (by omega) h2 (by omega)
end Go.Proofs.YtokilnhpepbjlaaGreat.Calc
namespace Go.Proofs.YtokilnhpepbjlaaGreat.Calc
open Go Go.RowKit
set_option linter.unusedVariables false
structure TurnedM (w w' : World) (g : Nat) (vs : Array MapEntry) (c : Nat) : Prop where
  os : w'.os = w.os
  tape : w'.tape = w.tape
  output : w'.output = w.output
  size : w'.heap.size = w.heap.size
  old : ∀ b,b ≠ g → w'.heap[b]? = w.heap[b]?
  new : w'.heap[g]? = some (.map vs c)
def keysB : List BV → Option (List Value)
  | [] => some []
  | .d (.flat v) :: l => (keysB l).map (v :: ·)
  | _ :: _ => none
def keyB : BV → Option Value
  | .d (.flat v) => some v
  | .agg l => (keysB l).map fun l => .agg l.toArray
  | _ => none
theorem keysB_rep {x : Full} : ∀ {l : List BV} {vs kv : List Value},RepBs x l vs → keysB l = some kv → vs = kv
  | _,_,_,.nil,hk => Option.some.inj hk
  | _,_,_,.cons y v l vs h hs,hk => by
    unfold keysB at hk
    split at hk
    · rename_i e;cases e
    · rename_i e
      injection e with e1 e2
      subst e1 e2
      obtain ⟨l',h1,h2⟩ := Option.map_eq_some_iff.1 hk
      cases h with
      | d _ _ h => cases h with
        | flat _ _ => rw [← h2,keysB_rep hs h1]
    · cases hk
theorem keyB_rep {x : Full} {b : BV} {v kv : Value} (h : RepB x b v) (hk : keyB b = some kv) : v = kv := by
  unfold keyB at hk
  split at hk
  · cases h with
    | d _ _ h => cases h with
      | flat _ _ => exact Option.some.inj hk
  · obtain ⟨l',h1,h2⟩ := Option.map_eq_some_iff.1 hk
    cases h with
    | agg _ vs h => rw [← h2,keysB_rep h h1]
  · cases hk
section
variable {P : Program} {ok okm : Nat → Bool} {o : Oper} {ρ : Rg} {st : St} {Q : Rg → St → Prop} {t : Nat} {k e : TypeId} {x i v : Operand} {b : Bool}
end
end Go.Proofs.YtokilnhpepbjlaaGreat.Calc
