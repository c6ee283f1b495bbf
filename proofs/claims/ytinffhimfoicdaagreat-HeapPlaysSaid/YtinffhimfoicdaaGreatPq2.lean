/- Texts of the claim, merged: C, D, E, KT, R6, R7, R8, KN, KO, KP, FA. No conditions. -/
import Derived.Test.YtinffhimfoicdaaGreatPq1
namespace Go.Proofs.YtinffhimfoicdaaGreat
open Go Go.RowKit Go.Proofs.YtinffhimfoicdaaGreat.Calc
set_option linter.unusedVariables false
set_option linter.unusedSimpArgs false
set_option maxRecDepth 100000
set_option maxHeartbeats 4000000
attribute [local irreducible] Tri ew er ci bn db d7 inQ jb
def jt6 (r n:Int) (b:Bool):BV:=.agg [.d (dN r),vI n,vB b]
theorem jww (s:ByteArray) (k:Nat) (hs:s.size ≤ 1000000) (hk:k < s.size):PC 97 [vS s,vI k] (fun r=>∃(c:Int) (n:Nat) (b:Bool),r = jt6 c n b ∧ 1 ≤ n ∧ k + n ≤ s.size):=by
  intro S T M
  refine am [] [] Tryz.func97 rfl Tryz.ntmps97 Tryz.results97 ?_
  repeat' (first|apply ab|(apply V;rfl;(first|(apply bl;rfl)|(apply bg;rfl)|(apply nq;(apply udT;rfl);rfl;rfl;omega)))|(apply Vw;rfl;(apply cd;rfl;(apply tyT;rfl)))|(apply ac;rfl))
  refine ju (fun ρ st=>st = ⟨S ++ [([.d (dN 0),vI 0,vB false],147)],T ++ [],M⟩ ∧ ∃(b n lo hi:Nat),ng ρ [(0,vS s),(1,vI k),(4,.ptr (S.length + 0) 0),(5,.d (.flat (.int .u8 b))),(6,vI n),(7,vI lo),(8,vI hi)] ∧ n ≤ 4 ∧ n ≠ 1) ?_ ?_
  · repeat' (first|apply ab|(apply V;rfl;(first|(apply bl;rfl)|(apply bg;rfl)|(apply ca;rfl;rfl)|(apply bu;rfl;rfl)|(apply ed;(apply plT;rfl);rfl)|(apply kt;rfl;(apply udT;rfl);(apply udT;rfl))))|(apply Vd;rfl;(first|(apply cu;rfl;rfl)|(apply mj;rfl;rfl)|(apply ep;rfl;rfl)|(apply dq;rfl;rfl));all_goals intro h_)|(apply Vo;rfl)|(apply Vs;rfl;(apply bw;rfl;(apply tyT;rfl);rfl;rfl;rfl;(first|apply bc|(apply bh;omega));rfl;rfl;(first|decide|(apply Nat.le_of_ble_eq_true;rfl))))|(apply ac;rfl)|apply ak|(apply al;rfl)|apply aj|apply ah|apply ai|(apply ae;rfl)|(apply af;rfl)|(apply bf _ (.inr rfl);(exact List.prefix_append _ _);(focus repeat (first|apply a8|(apply cp;rfl;rfl;apply tyT;rfl;rfl;rfl)));rfl)|apply ap|apply cq|apply dm|apply aw)
    all_goals first|exact ⟨_,1,_,rfl,by omega,by omega⟩|exact ⟨rfl,_,_,_,_,⟨rfl,rfl,rfl,rfl,rfl,rfl,rfl,trivial⟩,by decide,by decide⟩
  · rintro ρ _ ⟨rfl,b,n,lo,hi,hρ,hn,hn1⟩
    refine c9 (dt hρ) ?_
    repeat' (first|apply ab|(apply V;rfl;(first|(apply bl;rfl)|(apply bg;rfl)|(apply fx;(apply udT;rfl);rfl)|(apply ca;rfl;rfl)|(apply bu;rfl;rfl)|(apply ed;(apply plT;rfl);rfl)|(apply kt;rfl;(apply udT;rfl);(apply udT;rfl))|(apply az;rfl;rfl;rfl;omega)|(apply ei;rfl;rfl;rfl;omega)|(apply rc;rfl;rfl)|(apply y8;rfl;rfl)|(apply jcn;rfl;rfl;(first|decide|apply qe|omega))))|(apply Vd;rfl;(first|(apply gj;rfl;rfl)|(apply dq;rfl;rfl));all_goals intro h_)|(apply Vo;rfl)|(apply Vs;rfl;(apply bw;rfl;(apply tyT;rfl);rfl;rfl;rfl;(first|apply bc|(apply bh;omega));rfl;rfl;(first|decide|(apply Nat.le_of_ble_eq_true;rfl))))|(apply ac;rfl)|apply ak|apply aj|apply ah|apply ai|(apply ae;rfl)|(apply af;rfl)|(apply bf _ (.inr rfl);(exact List.prefix_append _ _);(focus repeat (first|apply a8|(apply cp;rfl;rfl;apply tyT;rfl;rfl;rfl)));rfl)|apply ap|apply aw)
    · exact ⟨_,1,_,rfl,by omega,by omega⟩
    · exact ⟨_,1,_,rfl,by omega,by omega⟩
    · refine fh (fun j:Nat × Int=>n - j.1) (fun j=>[(0,vS s),(1,vI k),(4,.ptr (S.length + 0) 0),(6,vI n),(7,vI lo),(8,vI hi),(9,.d (dN j.2)),(10,vI j.1)]) (fun _=>⟨S ++ [([.d (dN 0),vI 0,vB false],147)],T ++ [],M⟩) (fun j=>1 ≤ j.1 ∧ j.1 ≤ n) (1,_) (by omega) ⟨rfl,rfl,rfl,rfl,rfl,rfl,rfl,rfl,trivial⟩ rfl ?_
      rintro ⟨j,r⟩ ⟨hj,hjn⟩
      repeat' (first|apply ab|(apply V;rfl;(first|(apply bl;rfl)|(apply bg;rfl)|(apply ca;rfl;rfl)|(apply bu;rfl;rfl)|(apply ed;(apply plT;rfl);rfl)|(apply kt;rfl;(apply udT;rfl);(apply udT;rfl))|(apply nq;(apply udT;rfl);rfl;rfl;omega)|(apply az;rfl;rfl;rfl;omega)|(apply y8;rfl;rfl)|(apply jnv;rfl;rfl)|(apply jcn;rfl;rfl;(first|decide|apply qe|omega))))|(apply Vd;rfl;(first|(apply cu;rfl;rfl)|(apply gj;rfl;rfl)|(apply dq;rfl;rfl));all_goals intro h_)|(apply Vo;rfl)|(apply Vs;rfl;(apply bw;rfl;(apply tyT;rfl);rfl;rfl;rfl;(first|apply bc|(apply bh;omega));rfl;rfl;(first|decide|(apply Nat.le_of_ble_eq_true;rfl))))|(apply ac;rfl)|apply ak|(apply al;rfl)|apply aj|apply ah|apply bd|apply ai|(apply ae;rfl)|(apply af;rfl)|(apply bf _ (.inr rfl);(exact List.prefix_append _ _);(focus repeat (first|apply a8|(apply cp;rfl;rfl;apply tyT;rfl;rfl;rfl)));rfl)|apply ap|apply ey|apply cq|apply dm|apply aw|apply bo)
      all_goals first|exact ⟨_,1,_,rfl,by omega,by omega⟩|exact ⟨_,n,_,rfl,by omega,by omega⟩|exact ⟨(j + 1,_),by simp only;omega,by simp only;omega,⟨rfl,rfl,rfl,rfl,rfl,rfl,rfl,rfl,trivial⟩,rfl⟩
theorem jwx (s:ByteArray) (hs:s.size ≤ 1000000):PC 70 [vS s] (fun r=>∃ n:Int,r = vI n ∧ -1 ≤ n ∧ n ≤ s.size):=by
  intro S T M
  refine am [] [] Tryz.func70 rfl Tryz.ntmps70 Tryz.results70 ?_
  repeat' (first|apply ab|(apply V;rfl;(apply bg;rfl))|(apply ac;rfl)|apply ak|apply aj)
  refine cx (fun k:Nat=>s.size - k) (fun k=>[(0,vS s),(3,vI k)]) (fun k S1 T1=>k ≤ s.size ∧ S.length ≤ S1.length ∧ T <+: T1) 0 ⟨Nat.zero_le _,by simp,by simp⟩ ⟨rfl,rfl,trivial⟩ ?_
  rintro k S1 T1 ⟨hk,hS,hT⟩
  repeat' (first|apply ab|(apply V;rfl;(first|(apply bl;rfl)|(apply bg;rfl)|(apply cb;(apply plT;rfl);rfl;rfl;decide)|(apply bz;(apply tyT;rfl);rfl;(apply at_;rfl;rfl);rfl)|(apply fx;(apply udT;rfl);rfl)|(apply az;rfl;rfl;rfl;omega)))|(apply Vp;rfl;rfl;apply fnT;rfl;apply jww;assumption;omega;rintro _ ⟨c_,n_,(_|_),rfl,hn_,hm_⟩)|(apply Vd;rfl;(apply cu;rfl;rfl);all_goals intro h_)|(apply Vw;rfl;(apply cd;rfl;(apply tyT;rfl)))|(apply Vs;rfl;(apply bw;rfl;(apply tyT;rfl);rfl;rfl;rfl;(first|apply bc|(apply bh;omega));rfl;rfl;(first|decide|(apply Nat.le_of_ble_eq_true;rfl))))|(apply ac;rfl)|apply ak|(apply al;rfl)|apply aj|apply ah|apply bd|apply ai|(apply ae;rfl)|(apply af;rfl)|(apply bf _ (.inr rfl);(apply av;assumption);(focus repeat (first|apply a8|(apply a9;rfl)));rfl)|apply ap|apply ey|apply cq|apply dm|apply aw|apply bo)
  · exact ⟨k + n_,_,_,by omega,⟨by omega,by simp;omega,by simpa using hT⟩,⟨rfl,di (by omega),trivial⟩,rfl⟩
  · exact ⟨k,rfl,by omega,by omega⟩
  · exact ⟨-1,rfl,by omega,by omega⟩
theorem jqr (s:ByteArray) (hs:s.size ≤ 1000000):PC 101 [vS s] (fun r=>∃ t b,r = .tup [vS t,vB b] ∧ t.size ≤ s.size):=by
  intro S T M
  refine am [] [] Tryz.func101 rfl Tryz.ntmps101 Tryz.results101 ?_
  repeat' (first|apply ab|(apply V;rfl;(apply bg;rfl))|(apply ac;rfl)|apply ak|apply aj)
  refine cx (fun k:Nat × ByteArray=>s.size - k.1) (fun k=>[(0,vS s),(4,vS k.2),(5,vI k.1)]) (fun k S1 T1=>k.1 ≤ s.size ∧ k.2.size ≤ k.1 ∧ S.length ≤ S1.length ∧ T <+: T1) (0,_) ⟨Nat.zero_le _,Nat.le_refl _,by simp,by simp⟩ ⟨rfl,rfl,rfl,trivial⟩ ?_
  rintro ⟨k,out⟩ S1 T1 ⟨hk,ho,hS,hT⟩
  simp only at hk ho
  repeat' (first|apply ab|(apply V;rfl;(first|(apply bl;rfl)|(apply bg;rfl)|(apply cb;(apply plT;rfl);rfl;rfl;decide)|(apply bz;(apply tyT;rfl);rfl;(apply at_;rfl;rfl);rfl)|(apply fx;(apply udT;rfl);rfl)|(apply ca;rfl;rfl)|(apply bu;rfl;rfl)|(apply nq;(apply udT;rfl);rfl;rfl;omega)|(apply az;rfl;rfl;rfl;omega)|(apply ug;(apply udT;rfl);rfl;rfl;rfl;(first|exact .inr ⟨_,_,rfl,by omega,rfl⟩|exact .inl ⟨rfl,rfl⟩);(first|exact .inr ⟨_,_,rfl,by omega,rfl⟩|exact .inl ⟨rfl,rfl⟩);(first|omega|(simp only [ByteArray.size_append,ByteArray.size_extract,cw,List.size_toArray,List.length_cons,List.length_nil,List.length_append] at *;omega));(first|omega|(simp only [ByteArray.size_append,ByteArray.size_extract,cw,List.size_toArray,List.length_cons,List.length_nil,List.length_append] at *;omega)))|(apply kr;rfl;rfl;(first|omega|(simp only [ByteArray.size_append,ByteArray.size_extract,cw,List.size_toArray,List.length_cons,List.length_nil,List.length_append] at *;omega)))))|(apply Vp;rfl;rfl;apply fnT;rfl;apply jww;assumption;omega;rintro _ ⟨c_,n_,(_|_),rfl,hn_,hm_⟩)|(apply Vd;rfl;(first|(apply cu;rfl;rfl)|(apply ep;rfl;rfl)|(apply dq;rfl;rfl)|(apply fb;rfl;rfl));all_goals intro h_)|(apply Vo;rfl)|(apply Vw;rfl;(apply cd;rfl;(apply tyT;rfl)))|(apply Vs;rfl;(apply bw;rfl;(apply tyT;rfl);rfl;rfl;rfl;(first|apply bc|(apply bh;omega));rfl;rfl;(first|decide|(apply Nat.le_of_ble_eq_true;rfl))))|(apply ac;rfl)|apply ak|(apply al;rfl)|apply aj|apply ah|apply bd|apply ai|(apply ae;rfl)|(apply af;rfl)|(apply bf _ (.inr rfl);(apply av;assumption);(focus repeat (first|apply a8|(apply a9;rfl)));rfl)|apply ap|apply ey|apply cq|apply dm|apply aw|(apply jp3;rfl)|apply bo)
  all_goals simp only at *
  all_goals first
    | exact ⟨⟨#[]⟩,_,rfl,Nat.zero_le _⟩
    | exact ⟨out,_,rfl,by omega⟩
    |(refine ⟨(k + n_,_),_,_,?_,⟨?_,?_,?_,?_⟩,⟨rfl,rfl,di ?_,trivial⟩,rfl⟩ <;> first|(first|omega|(simp only [ByteArray.size_append,ByteArray.size_extract,cw,List.size_toArray,List.length_cons,List.length_nil,List.length_append] at *;omega))|simpa using hT)
    |(refine ⟨(k + 2,_),_,_,?_,⟨?_,?_,?_,?_⟩,⟨rfl,rfl,di ?_,trivial⟩,rfl⟩ <;> first|(first|omega|(simp only [ByteArray.size_append,ByteArray.size_extract,cw,List.size_toArray,List.length_cons,List.length_nil,List.length_append] at *;omega))|simpa using hT)
theorem jt7 (s:ByteArray) (k:Nat) (hs:s.size ≤ 1000000) (hk:k < s.size):PC 100 [vS s,vI k] (fun r=>∃ n:Nat,r = vI n ∧(n = 0 ∨ 2 ≤ n ∧ k + n ≤ s.size)):=by
  intro S T M
  refine am [] [] Tryz.func100 rfl Tryz.ntmps100 Tryz.results100 ?_
  repeat' (first|apply ab|(apply V;rfl;(first|(apply bl;rfl)|(apply bg;rfl)|(apply az;rfl;rfl;rfl;omega)))|(apply ac;rfl)|apply ak|apply aj)
  refine fh (fun j:Nat=>s.size - j) (fun j=>[(0,vS s),(1,vI k),(5,vI j)]) (fun _=>⟨S ++ [],T ++ [],M⟩) (fun j=>k + 1 ≤ j ∧ j ≤ s.size) (k + 1) ⟨by omega,by omega⟩ ⟨rfl,rfl,di (by omega),trivial⟩ rfl ?_
  rintro j ⟨hj,hjs⟩
  repeat' (first|apply ab|(apply V;rfl;(first|(apply bl;rfl)|(apply bg;rfl)|(apply fx;(apply udT;rfl);rfl)|(apply ca;rfl;rfl)|(apply bu;rfl;rfl)|(apply eu;rfl;rfl)|(apply cg;rfl)|(apply nq;(apply udT;rfl);rfl;rfl;omega)|(apply az;rfl;rfl;rfl;omega)|(apply ei;rfl;rfl;rfl;omega)|(apply ug;(apply udT;rfl);rfl;rfl;rfl;(first|exact .inr ⟨_,_,rfl,by omega,rfl⟩|exact .inl ⟨rfl,rfl⟩);(first|exact .inr ⟨_,_,rfl,by omega,rfl⟩|exact .inl ⟨rfl,rfl⟩);(first|omega|(simp only [ByteArray.size_append,ByteArray.size_extract,cw,List.size_toArray,List.length_cons,List.length_nil,List.length_append] at *;omega));(first|omega|(simp only [ByteArray.size_append,ByteArray.size_extract,cw,List.size_toArray,List.length_cons,List.length_nil,List.length_append] at *;omega)))))|(apply Vp;rfl;rfl;apply fnT;rfl;apply jqr;(first|omega|(simp only [ByteArray.size_append,ByteArray.size_extract,cw,List.size_toArray,List.length_cons,List.length_nil,List.length_append] at *;omega));rintro _ ⟨t_,(_|_),rfl,ht_⟩)|(apply Vd;rfl;(first|(apply cu;rfl;rfl)|(apply ep;rfl;rfl)|(apply dq;rfl;rfl)|(apply fb;rfl;rfl));all_goals intro h_)|(apply Vo;rfl)|(apply ac;rfl)|apply ak|(apply al;rfl)|apply aj|apply ah|apply bd|apply ai|(apply ae;rfl)|(apply af;rfl)|(apply bf _ (.inr rfl);(exact List.prefix_append _ _);(focus repeat (first|apply a8|(apply a9;rfl)));rfl)|apply ap|apply ey|apply cq|apply dm|apply aw|apply bo)
  all_goals first
    | exact ⟨0,rfl,.inl rfl⟩
    | exact ⟨j + 1,by omega,⟨by omega,by omega⟩,⟨rfl,rfl,di (by omega),trivial⟩,rfl⟩
    | exact ⟨j + 2,by omega,⟨by omega,by omega⟩,⟨rfl,rfl,di (by omega),trivial⟩,rfl⟩
    | exact ⟨j + 1 - k,Option.some.inj (di (by omega)),.inr ⟨by omega,by omega⟩⟩
structure Wd where
  kind:Int
  text:ByteArray
  loc:Int
def ro (w:Wd):List DV:=[dI w.kind,dS w.text,dI w.loc]
def vWd (a:Int) (t:ByteArray) (b:Int):BV:=.agg [vI a,vS t,vI b]
theorem jx0 (s:ByteArray) (k:Nat) (hs:s.size ≤ 1000000) (hk:k < s.size):PC 71 [vS s,vI k] (fun r=>∃(a b:Int) (t:ByteArray) (n:Nat),r = .tup [vWd a t b,vI n] ∧ k + n ≤ s.size ∧ t.size ≤ s.size):=by
  intro S T M
  refine am [] [] Tryz.func71 rfl Tryz.ntmps71 Tryz.results71 ?_
  repeat' (first|apply ab|(apply V;rfl;(first|(apply bl;rfl)|(apply bg;rfl)|(apply nq;(apply udT;rfl);rfl;rfl;omega)))|(apply Vw;rfl;(apply cd;rfl;(apply tyT;rfl)))|(apply ac;rfl))
  apply ak
  apply aj
  repeat' (first|apply ab|(apply V;rfl;(first|(apply bl;rfl)|(apply bg;rfl)|(apply ca;rfl;rfl)|(apply bu;rfl;rfl)))|(apply Vd;rfl;(apply dq;rfl;rfl);all_goals intro h_)|(apply Vo;rfl)|(apply ac;rfl))
  iterate 4
    focus
      repeat' (first|apply ab|(apply V;rfl;(first|(apply bg;rfl)|(apply ed;(apply plT;rfl);rfl)))|(apply Vs;rfl;(apply bw;rfl;(apply tyT;rfl);rfl;rfl;rfl;(first|apply bc|(apply bh;omega));rfl;rfl;(first|decide|(apply Nat.le_of_ble_eq_true;rfl))))|(apply ac;rfl)|apply ai|(apply ae;rfl)|(apply bf _ (.inr rfl);(exact List.prefix_append _ _);(focus repeat (first|apply a8|(apply a9;rfl)|(apply cp;rfl;rfl;apply tyT;rfl;rfl;rfl)));rfl)|apply dm|apply aw)
      exact ⟨_,_,⟨#[]⟩,1,rfl,by omega,Nat.zero_le _⟩
  apply af
  · rfl
  generalize (s.data.toList.getD (k:Int).toNat 0) = c
  refine ju (fun ρ st=>st = ⟨S ++ [([vI 0,vS ⟨#[]⟩,vI 0],129)],T ++ [],M⟩ ∧ ∃ b,ng ρ [(0,vS s),(1,vI k),(4,.ptr (S.length + 0) 0),(6,.d (.flat (.int .u8 c.toNat))),(7,vI 1),(29,vB b)]) ?_ ?_
  · repeat' (first|apply ab|(apply V;rfl;(first|(apply bl;rfl)|(apply bg;rfl)|(apply fx;(apply udT;rfl);rfl)|(apply ca;rfl;rfl)|(apply bu;rfl;rfl)|(apply nq;(apply udT;rfl);rfl;rfl;omega)|(apply az;rfl;rfl;rfl;omega)))|(apply Vd;rfl;(first|(apply cu;rfl;rfl)|(apply dq;rfl;rfl));all_goals intro h_)|(apply Vo;rfl)|(apply al;rfl)|apply ap)
    all_goals exact ⟨rfl,_,rfl,rfl,rfl,rfl,rfl,rfl,trivial⟩
  rintro ρ _ ⟨rfl,b,hρ⟩
  refine c9 (dt hρ) ?_
  cases b
  · repeat' (first|apply ab|(apply V;rfl;(first|(apply bl;rfl)|(apply bg;rfl)|(apply fx;(apply udT;rfl);rfl)|(apply ca;rfl;rfl)|(apply bu;rfl;rfl)|(apply eu;rfl;rfl)|(apply ed;(apply plT;rfl);rfl)|(apply kt;rfl;(apply udT;rfl);(apply udT;rfl))|(apply az;rfl;rfl;rfl;omega)|(apply ei;rfl;rfl;rfl;omega)|(apply ug;(apply udT;rfl);rfl;rfl;rfl;(first|exact .inr ⟨_,_,rfl,by omega,rfl⟩|exact .inl ⟨rfl,rfl⟩);(first|exact .inr ⟨_,_,rfl,by omega,rfl⟩|exact .inl ⟨rfl,rfl⟩);(first|omega|(simp only [ByteArray.size_append,ByteArray.size_extract,cw,List.size_toArray,List.length_cons,List.length_nil,List.length_append] at *;omega));(first|omega|(simp only [ByteArray.size_append,ByteArray.size_extract,cw,List.size_toArray,List.length_cons,List.length_nil,List.length_append] at *;omega)))))|(apply Vp;rfl;rfl;apply fnT;rfl;apply jsx;rintro _ ⟨(_|_),rfl⟩)|(apply Vp;rfl;rfl;apply fnT;rfl;apply jwv;rintro _ ⟨(_|_),rfl⟩)|(apply Vp;rfl;rfl;apply fnT;rfl;apply ea;rfl;apply jk3;rfl;rfl;rintro _ ⟨(_|_),rfl,hin_⟩)|(apply Vp;rfl;rfl;apply fnT;rfl;apply jt7;assumption;assumption;rintro _ ⟨m_,rfl,hm_⟩)|(apply Vp;rfl;rfl;apply fnT;rfl;apply jqr;(first|omega|(simp only [ByteArray.size_append,ByteArray.size_extract,cw,List.size_toArray,List.length_cons,List.length_nil,List.length_append] at *;omega));rintro _ ⟨t_,(_|_),rfl,ht_⟩)|(apply Vd;rfl;(first|(apply mj;rfl;rfl)|(apply dq;rfl;rfl));all_goals intro h_)|(apply Vo;rfl)|(apply Vw;rfl;(apply d8;rfl;(apply elT;rfl);(apply tyT;rfl);rfl;decide;rfl;rfl))|(apply Vs;rfl;(apply bw;rfl;(apply tyT;rfl);rfl;rfl;rfl;(first|apply bc|(apply bh;omega));rfl;rfl;(first|decide|(apply Nat.le_of_ble_eq_true;rfl))))|(apply ac;rfl)|apply ak|apply aj|apply ah|apply ai|(apply ae;rfl)|(apply af;rfl)|(apply bf _ (.inr rfl);(exact List.prefix_append _ _);(focus repeat (first|apply a8|(apply a9;rfl)|(apply cp;rfl;rfl;apply tyT;rfl;rfl;rfl)));rfl)|apply ap|apply cq|apply dm|apply aw)
    all_goals first|exact ⟨_,_,_,0,rfl,by omega,by (first|omega|(simp only [ByteArray.size_append,ByteArray.size_extract,cw,List.size_toArray,List.length_cons,List.length_nil,List.length_append] at *;omega))⟩|exact ⟨_,_,_,1,rfl,by omega,by (first|omega|(simp only [ByteArray.size_append,ByteArray.size_extract,cw,List.size_toArray,List.length_cons,List.length_nil,List.length_append] at *;omega))⟩|exact ⟨_,_,_,2,rfl,by omega,by (first|omega|(simp only [ByteArray.size_append,ByteArray.size_extract,cw,List.size_toArray,List.length_cons,List.length_nil,List.length_append] at *;omega))⟩|exact ⟨_,_,_,m_,rfl,by omega,by (first|omega|(simp only [ByteArray.size_append,ByteArray.size_extract,cw,List.size_toArray,List.length_cons,List.length_nil,List.length_append] at *;omega))⟩|skip
    all_goals
      refine fh (fun n:Nat=>s.size - (k + n)) (fun n=>[(0,vS s),(1,vI k),(4,.ptr (S.length + 0) 0),(7,vI n)]) (fun _=>⟨S ++ [([vI 0,vS ⟨#[]⟩,vI 0],129)],T ++ [],M⟩) (fun n=>1 ≤ n ∧ k + n ≤ s.size) 1 ⟨by omega,by omega⟩ ⟨rfl,rfl,rfl,rfl,trivial⟩ rfl ?_
      rintro n ⟨hn1,hn2⟩
      repeat' (first|apply ab|(apply V;rfl;(first|(apply bl;rfl)|(apply bg;rfl)|(apply fx;(apply udT;rfl);rfl)|(apply ca;rfl;rfl)|(apply bu;rfl;rfl)|(apply ed;(apply plT;rfl);rfl)|(apply kt;rfl;(apply udT;rfl);(apply udT;rfl))|(apply nq;(apply udT;rfl);rfl;rfl;omega)|(apply az;rfl;rfl;rfl;omega)|(apply ug;(apply udT;rfl);rfl;rfl;rfl;(first|exact .inr ⟨_,_,rfl,by omega,rfl⟩|exact .inl ⟨rfl,rfl⟩);(first|exact .inr ⟨_,_,rfl,by omega,rfl⟩|exact .inl ⟨rfl,rfl⟩);(first|omega|(simp only [ByteArray.size_append,ByteArray.size_extract,cw,List.size_toArray,List.length_cons,List.length_nil,List.length_append] at *;omega));(first|omega|(simp only [ByteArray.size_append,ByteArray.size_extract,cw,List.size_toArray,List.length_cons,List.length_nil,List.length_append] at *;omega)))))|(apply Vp;rfl;rfl;apply fnT;rfl;apply jsx;rintro _ ⟨(_|_),rfl⟩)|(apply Vp;rfl;rfl;apply fnT;rfl;apply jwv;rintro _ ⟨(_|_),rfl⟩)|(apply Vd;rfl;(apply cu;rfl;rfl);all_goals intro h_)|(apply Vo;rfl)|(apply Vs;rfl;(apply bw;rfl;(apply tyT;rfl);rfl;rfl;rfl;(first|apply bc|(apply bh;omega));rfl;rfl;(first|decide|(apply Nat.le_of_ble_eq_true;rfl))))|(apply ac;rfl)|apply ak|(apply al;rfl)|apply aj|apply ah|apply bd|apply ai|(apply ae;rfl)|(apply af;rfl)|(apply bf _ (.inr rfl);(exact List.prefix_append _ _);(focus repeat (first|apply a8|(apply a9;rfl)|(apply cp;rfl;rfl;apply tyT;rfl;rfl;rfl)));rfl)|apply ap|apply ey|apply cq|apply dm|apply aw|apply bo)
      all_goals first|exact ⟨_,_,_,n,rfl,by omega,by (first|omega|(simp only [ByteArray.size_append,ByteArray.size_extract,cw,List.size_toArray,List.length_cons,List.length_nil,List.length_append] at *;omega))⟩|exact ⟨n + 1,by omega,⟨by omega,by omega⟩,⟨rfl,rfl,rfl,di (by omega),trivial⟩,rfl⟩
  · repeat' (first|apply ak|apply aj|(apply ae;rfl))
    refine fh (fun n:Nat=>s.size - (k + n)) (fun n=>[(0,vS s),(1,vI k),(4,.ptr (S.length + 0) 0),(7,vI n)]) (fun _=>⟨S ++ [([vI 0,vS ⟨#[]⟩,vI 0],129)],T ++ [],M⟩) (fun n=>1 ≤ n ∧ k + n ≤ s.size) 1 ⟨by omega,by omega⟩ ⟨rfl,rfl,rfl,rfl,trivial⟩ rfl ?_
    rintro n ⟨hn1,hn2⟩
    repeat' (first|apply ab|(apply V;rfl;(first|(apply bl;rfl)|(apply bg;rfl)|(apply fx;(apply udT;rfl);rfl)|(apply ca;rfl;rfl)|(apply bu;rfl;rfl)|(apply ed;(apply plT;rfl);rfl)|(apply nq;(apply udT;rfl);rfl;rfl;omega)|(apply az;rfl;rfl;rfl;omega)))|(apply Vd;rfl;(first|(apply cu;rfl;rfl)|(apply fb;rfl;rfl));all_goals intro h_)|(apply Vo;rfl)|(apply Vs;rfl;(apply bw;rfl;(apply tyT;rfl);rfl;rfl;rfl;(first|apply bc|(apply bh;omega));rfl;rfl;(first|decide|(apply Nat.le_of_ble_eq_true;rfl))))|(apply ac;rfl)|apply ak|(apply al;rfl)|apply aj|apply ah|apply bd|apply ai|(apply ae;rfl)|(apply af;rfl)|(apply bf _ (.inr rfl);(exact List.prefix_append _ _);(focus repeat (first|apply a8|(apply a9;rfl)|(apply cp;rfl;rfl;apply tyT;rfl;rfl;rfl)));rfl)|apply ap|apply ey|apply cq|apply dm|apply aw|apply bo)
    all_goals first|exact ⟨_,_,_,n,rfl,by omega,by (first|omega|(simp only [ByteArray.size_append,ByteArray.size_extract,cw,List.size_toArray,List.length_cons,List.length_nil,List.length_append] at *;omega))⟩|exact ⟨n + 1,by omega,⟨by omega,by omega⟩,⟨rfl,rfl,rfl,di (by omega),trivial⟩,rfl⟩
end Go.Proofs.YtinffhimfoicdaaGreat
namespace Go.Proofs.YtinffhimfoicdaaGreat
open Go Go.RowKit Go.Proofs.YtinffhimfoicdaaGreat.Calc
set_option linter.unusedVariables false
set_option linter.unusedSimpArgs false
set_option maxRecDepth 100000
set_option maxHeartbeats 4000000
attribute [local irreducible] Tri ew er ci bn db d7 inQ jb
theorem jx1 (s:ByteArray) (hs:s.size ≤ 1000000):PC 44 [vS s] (fun r=>∃(l:List Wd) (e a:Int),r = .tup [.d (cy ro l),vI e,vI a] ∧ l.length ≤ 8000 ∧ ∀ w ∈ l,w.text.size ≤ s.size):=by
  intro S T M
  refine am [] [] Tryz.func44 rfl Tryz.ntmps44 Tryz.results44 ?_
  repeat' (first|apply ab|(apply V;rfl;(first|(apply bl;rfl)|(apply bg;rfl)|(apply fx;(apply udT;rfl);rfl)))|(apply Vp;rfl;rfl;apply fnT;rfl;apply jwx;assumption;rintro _ ⟨b_,rfl,hb1_,hb2_⟩)|(apply Vd;rfl;(apply gj;rfl;rfl);all_goals intro h_)|(apply ac;rfl)|apply ak|apply aj|apply ah|apply ai|(apply ae;rfl)|(apply af;rfl)|(apply bf _ (.inr rfl);(exact List.prefix_append _ _);(focus repeat (first|apply a8|(apply a9;rfl)));rfl)|apply ap|apply aw)
  · exact ⟨[],_,_,rfl,by decide,by simp⟩
  · refine gc 6 129 3 rfl rfl ?_
    refine cx (fun k:Nat × List Wd=>s.size - k.1) (fun k=>[(0,vS s),(5,vI b_),(6,.own 129 3 (T.length + 0) (k.2.flatMap ro) k.2.length),(7,vI k.1)]) (fun k S1 T1=>k.1 ≤ s.size ∧ k.2.length ≤ k.1 ∧ S.length ≤ S1.length ∧ T <+: T1 ∧ T1[T.length + 0]? = some (k.2.flatMap ro).length ∧ ∀ w ∈ k.2,w.text.size ≤ s.size) (0,[]) ⟨Nat.zero_le _,Nat.le_refl _,by simp,by simp,by simp,by simp⟩ ⟨rfl,rfl,rfl,rfl,trivial⟩ ?_
    rintro ⟨k,l⟩ S1 T1 ⟨hk,hl,hS,hT,hTg,hW⟩
    dsimp only at hk hl hTg hW ⊢
    repeat' (first|apply ab|(apply V;rfl;(first|(apply bl;rfl)|(apply bg;rfl)|(apply cb;(apply plT;rfl);rfl;rfl;decide)|(apply bj;(apply tyT;rfl);rfl;(apply at_;rfl;rfl);rfl)|(apply bz;(apply tyT;rfl);rfl;(apply at_;rfl;rfl);rfl)|(apply fx;(apply udT;rfl);rfl)|(apply ca;rfl;rfl)|(apply bu;rfl;rfl)|(apply eu;rfl;rfl)|(apply az;rfl;rfl;rfl;omega)))|(apply Vp;rfl;rfl;apply fnT;rfl;apply jx0;assumption;omega;rintro _ ⟨a_,b2_,t_,n_,rfl,hn_,ht_⟩)|(apply Vd;rfl;(first|(apply cu;rfl;rfl)|(apply gj;rfl;rfl)|(apply ep;rfl;rfl)|(apply dq;rfl;rfl));all_goals intro h_)|(apply Vo;rfl)|(apply Vw;rfl;(first|(apply cd;rfl;(apply tyT;rfl))|(apply d8;rfl;(apply elT;rfl);(apply tyT;rfl);rfl;decide;rfl;rfl)|(apply mf;(apply elT;rfl);(apply tyT;rfl);(apply byT;rfl);rfl;rfl;rfl;decide;rfl;(apply ee (c:=(⟨a_,t_,b2_⟩:Wd));omega;omega;assumption))))|(apply Vs;rfl;(apply bw;rfl;(apply tyT;rfl);rfl;rfl;rfl;(first|apply bc|(apply bh;omega));rfl;rfl;(first|decide|(apply Nat.le_of_ble_eq_true;rfl))))|(apply ac;rfl)|apply ak|(apply al;rfl)|apply aj|apply ah|apply bd|apply ai|(apply ae;rfl)|(apply af;rfl)|(apply bf _ (.inr rfl);(apply av;assumption);(focus repeat (first|apply a8|(apply a9;rfl)));rfl)|apply ap|apply ey|apply cq|apply dm|apply aw|apply bo)
    all_goals first
      | exact ⟨[],_,_,rfl,by decide,by simp⟩
      | exact ⟨l,_,_,rfl,by omega,hW⟩
      | exact ⟨(k + n_,l),_,_,by dsimp only;omega,⟨by dsimp only;omega,by dsimp only;omega,by simp only [List.length_append];omega,av hT,aa hTg,hW⟩,⟨rfl,rfl,rfl,di (by omega),trivial⟩,rfl⟩
      | exact ⟨(k + n_,l ++ [⟨a_,t_,b2_⟩]),_,_,by dsimp only;omega,⟨by dsimp only;omega,by simp only [List.length_append,List.length_singleton];omega,by simp only [List.length_append];omega,av (dc hT (by omega)),aq (List.getElem?_eq_some_iff.1 hTg).1,fun w hw=>by rcases List.mem_append.1 hw with hw|hw;exact hW w hw;rw [List.mem_singleton.1 hw];exact ht_⟩,⟨rfl,rfl,rfl,di (by omega),trivial⟩,rfl⟩
end Go.Proofs.YtinffhimfoicdaaGreat
namespace Go.Proofs.YtinffhimfoicdaaGreat
open Go Go.RowKit Go.Proofs.YtinffhimfoicdaaGreat.Calc
set_option linter.unusedVariables false
set_option linter.unusedSimpArgs false
set_option maxRecDepth 100000
set_option maxHeartbeats 4000000
attribute [local irreducible] Tri ew er ci bn db d7 inQ jb
abbrev isI (r:BV):Prop:=∃ n,r = vI n
theorem da (c:Cl):(df c).length = 4:=rfl
theorem dx (c:Fi):(je c).length = 4:=rfl
theorem fu (c:Me):(j1 c).length = 6:=rfl
theorem dn (c:Pa):(gk c).length = 2:=rfl
theorem jmt {f:Nat} {d:DV} {cs:List DV} {n:Nat} {args:List BV} {R:BV → Prop} (h:n ≤ 9223372036854775807 → PC f (.d (.sl cs n) :: args) R):PC f (.d (.sl cs n) :: args) R:=fun S T M =>
  jco (n ≤ 9223372036854775807) (fun x vs _ _ h=>by cases h with|cons _ _ _ _ h _=>exact jif h rfl) (fun hl=>h hl S T M)
theorem jn4:∀ n,(∀ e,2 * qa e ≤ n → PC 138 [vEx e] isI) ∧(∀ l,2 * jf l + 1 ≤ n → PC 109 [.d (qg l)] isI):=by
  intro n
  induction n using Nat.strongRecOn with
  | _ n ih=>?_
  refine ⟨fun e he=>?_,fun l hl=>?_⟩
  · obtain ⟨k,nm,t,na,ty,l,o,nth⟩:=e
    rw [qa] at he
    have h98:=(ih (2 * jf l + 1) (by omega)).2 l (Nat.le_refl _)
    unfold vEx
    rw [jn]
    intro S T M
    refine am [] [] Tryz.func138 rfl Tryz.ntmps138 Tryz.results138 ?_
    repeat' (first|apply ab|(apply V;rfl;(first|(apply bg;rfl)|(apply cb;(apply plT;rfl);rfl;rfl;decide)|(apply bz;(apply tyT;rfl);rfl;(apply at_;rfl;rfl);rfl)|(apply qd;rfl;rfl)))|(apply Vp;rfl;rfl;apply fnT;rfl;apply h98;rintro _ ⟨n_,rfl⟩)|(apply Vw;rfl;(apply cj;rfl;rfl;rfl))|(apply ac;rfl)|apply ai|(apply bf _ (.inr rfl);(exact List.prefix_append _ _);(focus repeat (first|apply a8|(apply a9;rfl)));rfl))
    all_goals exact ⟨_,rfl⟩
  · refine jmt (d:=.map 0) (fun hlen=>?_)
    intro S T M
    refine am [] [] Tryz.func109 rfl Tryz.ntmps109 Tryz.results109 ?_
    repeat' (first|apply ab|(apply V;rfl;(apply bg;rfl))|(apply ac;rfl)|apply ak|apply aj)
    refine fh (fun k:Nat × Int=>l.length - k.1) (fun k=>[(0,.d (qg l)),(3,vI k.2),(4,vI k.1)]) (fun _=>⟨S ++ [],T ++ [],M⟩) (fun k=>k.1 ≤ l.length) (0,0) (Nat.zero_le _) ⟨rfl,rfl,rfl,trivial⟩ rfl ?_
    rintro ⟨k,sum⟩ hk
    dsimp only at hk ⊢
    repeat' (first|apply ab|(apply V;rfl;(first|(apply bl;rfl)|(apply bg;rfl)|(apply bq;(apply elT;rfl);rfl;rfl)))|(apply Vd;rfl;(apply cu;rfl;rfl);all_goals intro h_)|(apply ac;rfl)|apply ak|(apply al;rfl)|apply aj|apply ah|apply bd|apply ai|(apply ae;rfl)|(apply af;rfl)|(apply bf _ (.inr rfl);(exact List.prefix_append _ _);(focus repeat (first|apply a8|(apply a9;rfl)));rfl)|apply ap|apply ey|apply bo)
    · have hlt:k < l.length:=by omega
      obtain ⟨c,hc⟩:∃ c,l[k]? = some c:=⟨_,List.getElem?_eq_getElem hlt⟩
      have hsz:=jo hc
      have h126:=(ih (2 * qa c) (by omega)).1 c (Nat.le_refl _)
      repeat' (first|apply ab|(apply V;rfl;(first|(apply bl;rfl)|(apply bg;rfl)|(apply dp;(apply tyT;rfl);rfl;(first|rfl|apply ay|apply ba))|(apply az;rfl;rfl;rfl;omega)|(apply qd;rfl;rfl)|(apply j0 (c:=c) (d4 l) ay;apply elT;rfl;rfl;rfl;rfl;omega;simpa using hc)))|(apply Vp;rfl;rfl;apply fnT;rfl;apply h126;rintro _ ⟨n_,rfl⟩)|(apply al;rfl)|apply ap|apply cq)
      all_goals exact ⟨(k + 1,_),by dsimp only;omega,by dsimp only;omega,⟨rfl,rfl,di (by omega),trivial⟩,rfl⟩
    · exact ⟨_,rfl⟩
theorem jqs (l:List Ex):PC 109 [.d (qg l)] isI:=(jn4 _).2 l (Nat.le_refl _)
theorem jn5:∀ n,∀ l,d5 l ≤ n → PC 110 [.d (eq l)] isI:=by
  intro n
  induction n using Nat.strongRecOn with
  | _ n ih=>?_
  intro l hl
  refine jmt (d:=.map 0) (fun hlen=>?_)
  intro S T M
  refine am [] [] Tryz.func110 rfl Tryz.ntmps110 Tryz.results110 ?_
  repeat' (first|apply ab|(apply V;rfl;(apply bg;rfl))|(apply ac;rfl)|apply ak|apply aj)
  refine fh (fun k:Nat × Int=>l.length - k.1) (fun k=>[(0,.d (eq l)),(3,vI k.2),(4,vI k.1)]) (fun _=>⟨S ++ [],T ++ [],M⟩) (fun k=>k.1 ≤ l.length) (0,0) (Nat.zero_le _) ⟨rfl,rfl,rfl,trivial⟩ rfl ?_
  rintro ⟨k,sum⟩ hk
  dsimp only at hk ⊢
  repeat' (first|apply ab|(apply V;rfl;(first|(apply bl;rfl)|(apply bg;rfl)|(apply bq;(apply elT;rfl);rfl;rfl)))|(apply Vd;rfl;(apply cu;rfl;rfl);all_goals intro h_)|(apply ac;rfl)|apply ak|apply aj|apply ah|apply bd|apply ai|(apply ae;rfl)|(apply af;rfl)|(apply bf _ (.inr rfl);(exact List.prefix_append _ _);(focus repeat (first|apply a8|(apply a9;rfl)));rfl)|apply ap|apply ey|apply bo)
  · have hlt:k < l.length:=by omega
    obtain ⟨⟨kd,num,ty,nm,e,a,b,c,nth⟩,hc⟩:∃ c,l[k]? = some c:=⟨_,List.getElem?_eq_getElem hlt⟩
    have hsz:=w9 hc
    rw [gm] at hsz
    have ha:=ih (d5 a) (by omega) a (Nat.le_refl _)
    have hb:=ih (d5 b) (by omega) b (Nat.le_refl _)
    have hcc:=ih (d5 c) (by omega) c (Nat.le_refl _)
    repeat' (first|apply ab|(apply V;rfl;(first|(apply bl;rfl)|(apply bg;rfl)|(apply fz;(apply plT;rfl);rfl;rfl;decide)|(apply ef;(apply tyT;rfl);rfl;rfl)|(apply az;rfl;rfl;rfl;omega)|(apply qd;rfl;rfl)|(apply j0 (g8 l) ba;apply elT;rfl;rfl;rfl;rfl;omega;simpa using hc)))|(apply de (nt:=42) (.take 0 (.take 1 (.take 2 (.take 3 (.take 4 (.take 5 (.take 6 (.take 9 (.take 10 (.take 11 (.take 12 (.take 13 (.take 16 (.take 17 (.take 18 (.take 19 (.take 20 (.take 23 (.take 24 (.take 25 (.take 26 (.take 27 (.one 7 (.take 8 (.one 14 (.take 15 (.one 21 (.take 22 (.one 28 (.take 29 (.take 30 .nil))))))))))))))))))))))))))))))) [] [];exact co;rfl;decide +kernel)|(apply oP;rfl;rfl;rfl;apply fnT;rfl;apply jqs;rintro _ ⟨n_,rfl⟩)|(apply oP;rfl;rfl;rfl;apply fnT;rfl;apply ha;rintro _ ⟨n_,rfl⟩)|(apply oP;rfl;rfl;rfl;apply fnT;rfl;apply hb;rintro _ ⟨n_,rfl⟩)|(apply oP;rfl;rfl;rfl;apply fnT;rfl;apply hcc;rintro _ ⟨n_,rfl⟩)|(apply al;rfl)|apply ap|apply cq|apply dg|(apply tV;rfl;rfl;(first|(apply bl;rfl)|(apply bg;rfl)|(apply fz;(apply plT;rfl);rfl;rfl;decide)|(apply ef;(apply tyT;rfl);rfl;rfl)|(apply az;rfl;rfl;rfl;omega)|(apply qd;rfl;rfl)|(apply j0 (g8 l) ba;apply elT;rfl;rfl;rfl;rfl;omega;simpa using hc));rfl))
    all_goals exact ⟨(k + 1,_),by dsimp only;omega,by dsimp only;omega,⟨rfl,rfl,di (by omega),trivial⟩,rfl⟩
  · exact ⟨_,rfl⟩
theorem jt8 (l:List Sm):PC 110 [.d (eq l)] isI:=jn5 _ l (Nat.le_refl _)
theorem jx2 (p:List Cl) (hp:szP p ≤ 1000000):PC 82 [vP p] isI:=by
  have hlen:=rm p
  intro S T M
  refine am [] [] Tryz.func82 rfl Tryz.ntmps82 Tryz.results82 ?_
  repeat' (first|apply ab|(apply V;rfl;(apply bg;rfl))|(apply Vw;rfl;(apply cj;rfl;rfl;rfl))|(apply ac;rfl)|apply ak|apply aj)
  refine cx (fun k:Nat × Int=>p.length - k.1) (fun k=>[(1,.ptr (S.length + 0) 0),(3,vI k.2),(4,vI k.1)]) (fun k S1 T1=>k.1 ≤ p.length ∧ S.length ≤ S1.length ∧ T <+: T1 ∧ S1[S.length + 0]? = some ([.d (cy df p)],26)) (0,0) ⟨Nat.zero_le _,by simp,by simp,at_ rfl rfl⟩ ⟨rfl,rfl,rfl,trivial⟩ ?_
  rintro ⟨k,sum⟩ S1 T1 ⟨hk,hS,hT,hb⟩
  dsimp only at hk ⊢
  repeat' (first|apply ab|(apply V;rfl;(first|(apply bl;rfl)|(apply bg;rfl)|(apply cb;(apply plT;rfl);rfl;rfl;decide)|(apply bz;(apply tyT;rfl);rfl;(apply aa;assumption);rfl)|(apply bq;(apply elT;rfl);rfl;rfl)))|(apply Vd;rfl;(apply cu;rfl;rfl);all_goals intro h_)|(apply ac;rfl)|apply ak|apply aj|apply ah|apply bd|apply ai|(apply ae;rfl)|(apply af;rfl)|(apply bf _ (.inr rfl);(apply av;assumption);(focus repeat (first|apply a8|(apply a9;rfl)));rfl)|apply ap|apply ey|apply bo)
  · have hlt:k < p.length:=by omega
    obtain ⟨c,hc⟩:∃ c,p[k]? = some c:=⟨_,List.getElem?_eq_getElem hlt⟩
    have hcs:=qh (f:=vd) hc
    have hfl:=k7 c
    have hml:=gd c
    unfold szP at hp hlen
    repeat' (first|apply ab|(apply V;rfl;(first|(apply bl;rfl)|(apply bg;rfl)|(apply dp;(apply tyT;rfl);rfl;(first|rfl|apply ay|apply ba))|(apply qd;rfl;rfl)|(apply bp (c:=c);apply elT;rfl;rfl;rfl;rfl;exact da;omega;simpa using hc)))|(apply Vw;rfl;(apply cd;rfl;(apply tyT;rfl)))|(apply Vs;rfl;(apply bw;rfl;(apply tyT;rfl);rfl;rfl;rfl;(first|apply bc|(apply bh;omega));rfl;rfl;(first|decide|(apply Nat.le_of_ble_eq_true;rfl))))|(apply ac;rfl)|apply ak|apply aj)
    refine eh (fun j:Nat × Int=>c.fields.length - j.1) (fun j=>[(1,.ptr (S.length + 0) 0),(3,vI j.2),(4,vI k),(5,.ptr (S1.length + 0) 0),(6,vI j.1)]) (fun j=>j.1 ≤ c.fields.length) (0,_) (Nat.zero_le _) ⟨rfl,rfl,rfl,rfl,rfl,trivial⟩ ?_
    rintro ⟨j,s1⟩ hj
    dsimp only at hj ⊢
    repeat' (first|apply ab|(apply V;rfl;(first|(apply bl;rfl)|(apply bg;rfl)|(apply cb;(apply plT;rfl);rfl;rfl;decide)|(apply bz;(apply tyT;rfl);rfl;(apply at_;rfl;rfl);rfl)|(apply bq;(apply elT;rfl);rfl;rfl)|(apply qd;rfl;rfl)))|(apply Vd;rfl;(apply cu;rfl;rfl);all_goals intro h_)|(apply ac;rfl)|apply ak|(apply al;rfl)|apply aj|apply ah|apply bd|(apply ae;rfl)|(apply af;rfl)|apply ap|apply ey|apply bo)
    · obtain ⟨f,hf⟩:∃ f,c.fields[j]? = some f:=⟨_,List.getElem?_eq_getElem (by omega)⟩
      repeat' (first|apply ab|(apply V;rfl;(first|(apply bl;rfl)|(apply bg;rfl)|(apply fz;(apply plT;rfl);rfl;rfl;decide)|(apply ef;(apply tyT;rfl);rfl;rfl)|(apply az;rfl;rfl;rfl;omega)|(apply qd;rfl;rfl)|(apply bp (c:=f);apply elT;rfl;rfl;rfl;rfl;exact dx;omega;simpa using hf)))|(apply Vp;rfl;rfl;apply fnT;rfl;apply jqs;rintro _ ⟨n_,rfl⟩)|(apply al;rfl)|apply ap|apply cq)
      exact ⟨(j + 1,_),by dsimp only;omega,by dsimp only;omega,⟨rfl,rfl,rfl,rfl,di (by omega),trivial⟩,rfl⟩
    · refine eh (fun j:Nat × Int=>c.methods.length - j.1) (fun j=>[(1,.ptr (S.length + 0) 0),(3,vI j.2),(4,vI k),(5,.ptr (S1.length + 0) 0),(7,vI j.1)]) (fun j=>j.1 ≤ c.methods.length) (0,_) (Nat.zero_le _) ⟨rfl,rfl,rfl,rfl,rfl,trivial⟩ ?_
      rintro ⟨j,s1⟩ hj
      dsimp only at hj ⊢
      repeat' (first|apply ab|(apply V;rfl;(first|(apply bl;rfl)|(apply bg;rfl)|(apply cb;(apply plT;rfl);rfl;rfl;decide)|(apply bz;(apply tyT;rfl);rfl;(apply at_;rfl;rfl);rfl)|(apply bq;(apply elT;rfl);rfl;rfl)|(apply az;rfl;rfl;rfl;omega)|(apply qd;rfl;rfl)))|(apply Vd;rfl;(apply cu;rfl;rfl);all_goals intro h_)|(apply ac;rfl)|apply ak|(apply al;rfl)|apply aj|apply ah|apply bd|(apply ae;rfl)|(apply af;rfl)|apply ap|apply ey|apply cq|apply bo)
      · obtain ⟨f,hf⟩:∃ f,c.methods[j]? = some f:=⟨_,List.getElem?_eq_getElem (by omega)⟩
        repeat' (first|apply ab|(apply V;rfl;(first|(apply bl;rfl)|(apply bg;rfl)|(apply fz;(apply plT;rfl);rfl;rfl;decide)|(apply ef;(apply tyT;rfl);rfl;rfl)|(apply az;rfl;rfl;rfl;omega)|(apply qd;rfl;rfl)|(apply bp (c:=f);apply elT;rfl;rfl;rfl;rfl;exact fu;omega;simpa using hf)))|(apply Vp;rfl;rfl;apply fnT;rfl;apply jt8;rintro _ ⟨n_,rfl⟩)|(apply al;rfl)|apply ap|apply cq)
        exact ⟨(j + 1,_),by dsimp only;omega,by dsimp only;omega,⟨rfl,rfl,rfl,rfl,di (by omega),trivial⟩,rfl⟩
      · exact ⟨(k + 1,_),_,_,by dsimp only;omega,⟨by dsimp only;omega,by simp only [List.length_append];omega,av hT,aa hb⟩,⟨rfl,rfl,di (by omega),trivial⟩,rfl⟩
  · exact ⟨_,rfl⟩
end Go.Proofs.YtinffhimfoicdaaGreat
namespace Go.Proofs.YtinffhimfoicdaaGreat
open Go Go.RowKit Go.Proofs.YtinffhimfoicdaaGreat.Calc
set_option linter.unusedVariables false
set_option linter.unusedSimpArgs false
theorem jfx {α:Type} [DecidableEq α]:∀(l m:List α),l.Nodup →(∀ x ∈ l,x ∈ m) → l.length ≤ m.length
  | [],m,_,_=>by simp
  | a :: l,m,hn,hs=>by
    have ha:a ∈ m:=hs a (by simp)
    have hn':=List.nodup_cons.1 hn
    have:=jfx l (m.erase a) hn'.2 (fun x hx=>(List.mem_erase_of_ne (by rintro rfl;exact hn'.1 hx)).2 (hs x (by simp [hx])))
    rw [List.length_erase_of_mem ha] at this
    have hp:=List.length_pos_of_mem ha
    simp only [List.length_cons];omega
def BS:List ByteArray:=[(⟨#[69,120,99,101,112,116,105,111,110]⟩:ByteArray),(⟨#[78,117,108,108,70,97,117,108,116]⟩:ByteArray),(⟨#[67,97,115,116,70,97,117,108,116]⟩:ByteArray),(⟨#[90,101,114,111,70,97,117,108,116]⟩:ByteArray),(⟨#[82,97,110,103,101,70,97,117,108,116]⟩:ByteArray)]
def EXC:ByteArray:=⟨#[69,120,99,101,112,116,105,111,110]⟩
def NIL:ByteArray:=⟨#[]⟩
def jt9:ByteArray:=⟨#[110,117,108,108]⟩
def inS (l:List ByteArray) (s:ByteArray):Bool:=l.any fun x=>decide (x = s)
theorem gw {l:List ByteArray} {s:ByteArray}:inS l s = true ↔ s ∈ l:=by
  simp [inS]
theorem sj {l:List ByteArray} {s:ByteArray}:inS l s = false ↔ s ∉ l:=by
  rw [← gw];simp
theorem fi (p:List Cl) (a:ByteArray):(fq p a = -1 ∧ ∀ x ∈ p,x.name ≠ a) ∨(∃ j:Nat,∃ h:j < p.length,fq p a = j ∧(p[j]).name = a ∧ ∀(j':Nat) (h':j' < j),(p[j']'(by omega)).name ≠ a):=by
  unfold fq
  cases h:p.findIdx? (fun c=>decide (c.name = a)) with
  | none =>
    refine .inl ⟨rfl,fun x hx e=>?_⟩
    have:=List.findIdx?_eq_none_iff.1 h x hx
    simp [e] at this
  | some j =>
    obtain ⟨hj,h1,h2⟩:=List.findIdx?_eq_some_iff_getElem.1 h
    exact .inr ⟨j,hj,rfl,by simpa using h1,fun j' h'=>by simpa using h2 j' h'⟩
theorem jfy {p:List Cl} {a:ByteArray} {k:Nat} {c:Cl} (hc:p[k]? = some c) (hn:c.name = a) (hpre:∀(i:Nat) (c':Cl),i < k → p[i]? = some c' → c'.name ≠ a):fq p a = k:=by
  obtain ⟨hk,rfl⟩:=List.getElem?_eq_some_iff.1 hc
  rcases fi p a with ⟨_,h⟩|⟨j,hj,h1,h2,h3⟩
  · exact absurd hn (h _ (List.getElem_mem hk))
  · rw [h1]
    rcases Nat.lt_trichotomy j k with h|h|h
    · exact absurd h2 (hpre j _ h (List.getElem?_eq_getElem hj))
    · rw [h]
    · exact absurd hn (h3 k h)
theorem zr {p:List Cl} {a:ByteArray} (hpre:∀(i:Nat) (c':Cl),p[i]? = some c' → c'.name ≠ a):fq p a = -1:=by
  rcases fi p a with ⟨h,_⟩|⟨j,hj,h1,h2,h3⟩
  · exact h
  · exact absurd h2 (hpre j _ (List.getElem?_eq_getElem hj))
theorem jqt {p:List Cl} {a:ByteArray} (h:0 ≤ fq p a):∃ j:Nat,∃ h:j < p.length,fq p a = j ∧(p[j]).name = a:=by
  rcases fi p a with ⟨h1,_⟩|⟨j,hj,h1,h2,_⟩
  · omega
  · exact ⟨j,hj,h1,h2⟩
theorem jig {p:List Cl} {x:Cl} (h:x ∈ p):0 ≤ fq p x.name:=by
  rcases fi p x.name with ⟨_,h2⟩|⟨j,hj,h1,_,_⟩
  · exact absurd rfl (h2 x h)
  · omega
def isC (p:List Cl) (a:ByteArray):Bool:=inS BS a || decide (0 ≤ fq p a)
def jb7 (p:List Cl) (i:Int):Cl:=(p[i.toNat]?).getD ⟨⟨#[]⟩,⟨#[]⟩,[],[]⟩
def jap (p:List Cl) (a:ByteArray):ByteArray:=if inS BS a = true then (if a = EXC then NIL else EXC) else if fq p a < 0 then NIL else (jb7 p (fq p a)).super
def chG (p:List Cl):Nat → ByteArray → List ByteArray → List ByteArray
  | 0,_,acc=>acc
  | n + 1,a,acc=>if isC p a = true then (if inS acc a = true then acc else chG p n (jap p a) (acc ++ [a])) else acc
def chC (p:List Cl) (a:ByteArray):List ByteArray:=chG p (p.length + 6) a []
theorem jih {p:List Cl} {a:ByteArray} (h:isC p a = true):a ∈ BS ++ p.map (·.name):=by
  unfold isC at h
  rw [List.mem_append]
  rcases Bool.or_eq_true_iff.1 h with h|h
  · exact .inl (gw.1 h)
  · obtain ⟨j,hj,_,e⟩:=jqt (by simpa using h)
    exact .inr (List.mem_map.2 ⟨p[j],List.getElem_mem hj,e⟩)
theorem jsy {p:List Cl} {acc:List ByteArray} (hn:acc.Nodup) (hs:∀ x ∈ acc,isC p x = true):acc.length ≤ p.length + 5:=by
  have:=jfx acc (BS ++ p.map (·.name)) hn (fun x hx=>jih (hs x hx))
  rw [List.length_append,List.length_map] at this
  have e:BS.length = 5:=rfl
  omega
theorem uj {acc:List ByteArray} {a:ByteArray} (hn:acc.Nodup) (ha:a ∉ acc):(acc ++ [a]).Nodup:=by
  rw [List.nodup_append]
  exact ⟨hn,by simp,fun x hx y hy=>by simp at hy;subst hy;rintro rfl;exact ha hx⟩
inductive Walk (l:List Cl):ByteArray → List ByteArray → ByteArray → Prop
  | here (a:ByteArray):Walk l a [] a
  | up {a z:ByteArray} {T:List ByteArray}:isC l a = true → Walk l (jap l a) T z → Walk l a (a :: T) z
theorem jfz (l:List Cl):∀(n:Nat) (a:ByteArray) (acc:List ByteArray),acc.Nodup →(∀ x ∈ acc,isC l x = true) → acc.length + n = l.length + 6 →
    ∃ T z,chG l n a acc = acc ++ T ∧ Walk l a T z ∧(isC l z = false ∨ z ∈ acc ++ T) ∧(acc ++ T).Nodup
  | 0,a,acc,hn,hs,he=>by have:=jsy hn hs;omega
  | n + 1,a,acc,hn,hs,he=>by
    rw [chG]
    by_cases hi:isC l a = true
    · rw [if_pos hi]
      by_cases hc:a ∈ acc
      · rw [if_pos (gw.2 hc)]
        exact ⟨[],a,by simp,.here a,.inr (by simpa using hc),by simpa using hn⟩
      · rw [if_neg (fun h=>hc (gw.1 h))]
        obtain ⟨T,z,h1,h2,h3,h4⟩:=jfz l n (jap l a) (acc ++ [a]) (uj hn hc) (fun x hx=>by rcases List.mem_append.1 hx with h|h;exact hs x h;simp at h;exact h ▸ hi) (by simp;omega)
        have e:acc ++ [a] ++ T = acc ++ a :: T:=by simp
        rw [e] at h1 h3 h4
        exact ⟨a :: T,z,h1,.up hi h2,h3,h4⟩
    · rw [if_neg hi]
      exact ⟨[],a,by simp,.here a,.inl (by simpa using hi),by simpa using hn⟩
theorem jaq (l:List Cl) (a:ByteArray):∃ z,Walk l a (chC l a) z ∧(isC l z = false ∨ z ∈ chC l a) ∧(chC l a).Nodup:=by
  obtain ⟨T,z,h1,h2,h3,h4⟩:=jfz l (l.length + 6) a [] (by simp) (by simp) (by simp)
  rw [List.nil_append] at h1 h3 h4
  unfold chC;rw [h1]
  exact ⟨z,h2,h3,h4⟩
theorem Walk.all {l:List Cl} {a z:ByteArray} {T:List ByteArray} (h:Walk l a T z):∀ x ∈ T,isC l x = true:=by
  induction h with
  | here=>simp
  | up hi _ ih=>intro x hx;rcases List.mem_cons.1 hx with rfl|hx;exact hi;exact ih x hx
def re (l:List ByteArray):ByteArray:=(l[l.length - 1]?).getD ⟨#[]⟩
theorem Walk.last {l:List Cl} {a z:ByteArray} {T:List ByteArray} (h:Walk l a T z) (hT:T ≠ []):jap l (re T) = z:=by
  induction h with
  | here=>exact absurd rfl hT
  | @up a z T hi hw ih =>
    cases T with
    | nil=>cases hw;rfl
    | cons b T =>
      rw [← ih (by simp)]
      congr 1
theorem jed {l:List Cl} {x:ByteArray} (h:isC l x = true):∃ T,chC l x = x :: T:=by
  obtain ⟨z,hw,hz,hn⟩:=jaq l x
  generalize chC l x = T at *
  cases hw with
  | here =>
    rcases hz with hz|hz
    · rw [h] at hz;cases hz
    · cases hz
  | up _ _=>exact ⟨_,rfl⟩
theorem sk (l:List Cl) (x:ByteArray):(chC l x).length ≤ l.length + 5:=by
  obtain ⟨z,hw,_,hn⟩:=jaq l x
  exact jsy hn hw.all
def jar (p:List Cl):List Cl → Nat → Option Nat
  | [],_=>none
  | c :: l,i=>if inS BS c.name = true ∨ fq p c.name ≠ i then some i else jar p l (i + 1)
def jf0 (p:List Cl):List Cl → Nat → Option (Int × Nat)
  | [],_=>none
  | c :: l,i=>if c.super = NIL then jf0 p l (i + 1) else if isC p c.super = false then some (7,i) else if isC p (jap p (re (chC p c.name))) = true then some (8,i) else jf0 p l (i + 1)
def eg (p:List Cl):Int × Nat:=match jar p p 0 with
  | some i=>(6,i)
  | none=>match jf0 p p 0 with
    | some r=>r
    | none=>(0,0)
def yc (p:List Cl) (t:ByteArray):Bool:=decide (t = ⟨#[105,110,116]⟩) ||(decide (t = ⟨#[98,111,111,108,101,97,110]⟩) ||(decide (t = ⟨#[83,116,114,105,110,103]⟩) || isC p t))
def dy (p:List Cl) (a:ByteArray):Cl:=if 0 ≤ fq p a then jb7 p (fq p a) else ⟨⟨#[]⟩,⟨#[]⟩,[],[]⟩
def jee (l:List Fi) (name:ByteArray):Int :=
  match l.findIdx? (fun c=>decide (c.name = name)) with
  | some i=>i
  | none=>-1
def jk4 (p:List Cl) (a name:ByteArray):Int:=jee (dy p a).fields name
def y9 (p:List Cl) (a:ByteArray):List Fi → Nat → Bool
  | [],_=>true
  | f :: l,k=>if jk4 p a f.name ≠ k then false else y9 p a l (k + 1)
def za (p:List Cl):List Fi → Bool
  | []=>true
  | f :: l=>if yc p f.typ = true then za p l else false
def jf1 (p:List Cl):List Cl → Nat → Option (Int × Nat)
  | [],_=>none
  | c :: l,i=>if y9 p c.name c.fields 0 = false then some (6,i) else if za p c.fields = false then some (7,i) else jf1 p l (i + 1)
def ji (p:List Cl):Int × Nat:=if (eg p).1 ≠ 0 then (1,0) else match jf1 p p 0 with
  | some r=>r
  | none=>(0,0)
end Go.Proofs.YtinffhimfoicdaaGreat
namespace Go.Proofs.YtinffhimfoicdaaGreat
open Go Go.RowKit Go.Proofs.YtinffhimfoicdaaGreat.Calc
set_option linter.unusedVariables false
set_option linter.unusedSimpArgs false
set_option maxRecDepth 100000
set_option maxHeartbeats 8000000
attribute [local irreducible] Tri ew er ci bn db d7 inQ jb
theorem sm {a b:Bool} (h:a = b):jb5 [vB a] = vB b:=by rw [h];rfl
theorem p5 {a b:Int} (h:a = b):jb5 [vI a] = vI b:=by rw [h];rfl
theorem vt {a b:ByteArray} (h:a = b):jb5 [vS a] = vS b:=by rw [h];rfl
theorem jua (s:ByteArray):PC 65 [vS s] (fun r=>r = vB (inS BS s)):=by
  intro S T M
  refine am [] [] Tryz.func65 rfl Tryz.ntmps65 Tryz.results65 ?_
  repeat' (first|apply ab|(apply V;rfl;(first|(apply bl;rfl)|(apply bg;rfl)))|(apply Vp;rfl;rfl;apply fnT;rfl;apply ea;rfl;apply jk3;rfl;rfl;rintro _ ⟨(_|_),rfl,hin_⟩)|(apply Vw;rfl;(apply d8;rfl;(apply elT;rfl);(apply tyT;rfl);rfl;decide;rfl;rfl))|(apply ac;rfl)|apply ai|(apply bf _ (.inr rfl);(exact List.prefix_append _ _);(focus repeat (first|apply a8|(apply a9;rfl)));rfl))
  · exact sm (sj.2 fun h=>by cases hin_.2 h).symm
  · exact sm (gw.2 (hin_.1 rfl)).symm
theorem jqu (p:List Cl) (name:ByteArray) (hp:p.length ≤ 1000000):PC 66 [vP p,vS name] (fun r=>r = vI (fq p name)):=by
  intro S T M
  refine am [] [] Tryz.func66 rfl Tryz.ntmps66 Tryz.results66 ?_
  repeat' (first|apply ab|(apply V;rfl;(apply bg;rfl))|(apply Vw;rfl;(apply cj;rfl;rfl;rfl))|(apply ac;rfl)|apply ak|apply aj)
  refine eh (fun k:Nat=>p.length - k) (fun k=>[(1,vS name),(2,.ptr (S.length + 0) 0),(5,vI k)]) (fun k=>k ≤ p.length ∧ ∀(i:Nat) (c:Cl),i < k → p[i]? = some c → c.name ≠ name) 0 ⟨Nat.zero_le _,fun i c h=>by omega⟩ ⟨rfl,rfl,rfl,trivial⟩ ?_
  rintro k ⟨hk,hpre⟩
  repeat' (first|apply ab|(apply V;rfl;(first|(apply bl;rfl)|(apply bg;rfl)|(apply cb;(apply plT;rfl);rfl;rfl;decide)|(apply bz;(apply tyT;rfl);rfl;(apply at_;rfl;rfl);rfl)|(apply bq;(apply elT;rfl);rfl;rfl)))|(apply Vd;rfl;(apply cu;rfl;rfl);all_goals intro h_)|(apply ac;rfl)|apply ak|apply aj|apply ah|apply bd|apply ai|(apply ae;rfl)|(apply af;rfl)|(apply bf _ (.inr rfl);(exact List.prefix_append _ _);(focus repeat (first|apply a8|(apply a9;rfl)));rfl)|apply ap|apply ey|apply bo)
  · obtain ⟨c,hc⟩:∃ c,p[k]? = some c:=⟨_,List.getElem?_eq_getElem (by omega)⟩
    repeat' (first|apply ab|(apply V;rfl;(first|(apply bl;rfl)|(apply bg;rfl)|(apply fz;(apply plT;rfl);rfl;rfl;decide)|(apply ef;(apply tyT;rfl);rfl;rfl)|(apply az;rfl;rfl;rfl;omega)|(apply bp (c:=c);apply elT;rfl;rfl;rfl;rfl;exact da;omega;simpa using hc)))|(apply Vd;rfl;(apply du;rfl;rfl);all_goals intro h_)|(apply ac;rfl)|(apply al;rfl)|apply ah|apply ai|(apply ae;rfl)|(apply af;rfl)|(apply bf _ (.inr rfl);(exact List.prefix_append _ _);(focus repeat (first|apply a8|(apply a9;rfl)));rfl)|apply ap|apply cq|apply dm|apply aw)
    · exact p5 (jfy hc h_ hpre).symm
    · refine ⟨k + 1,by omega,⟨by omega,fun i c' hi hc'=>?_⟩,⟨rfl,rfl,di (by omega),trivial⟩,rfl⟩
      by_cases hik:i = k
      · subst hik
        obtain rfl:=Option.some.inj (hc.symm.trans hc')
        assumption
      · exact hpre i c' (by omega) hc'
  · exact p5 (zr fun i c hc=>hpre i c (by have:=(List.getElem?_eq_some_iff.1 hc).1;omega) hc).symm
theorem jmu (p:List Cl) (a:ByteArray) (hp:p.length ≤ 1000000):PC 31 [vP p,vS a] (fun r=>r = vB (isC p a)):=by
  have h32:=jua a
  have h33:=jqu p a hp
  unfold isC
  cases hb:inS BS a
  all_goals
    rw [hb] at h32
    intro S T M
    refine am [] [] Tryz.func31 rfl Tryz.ntmps31 Tryz.results31 ?_
    repeat' (first|apply ab|(apply V;rfl;(first|(apply bl;rfl)|(apply bg;rfl)|(apply bj;(apply tyT;rfl);rfl;(apply at_;rfl;rfl);rfl)|(apply ca;rfl;rfl)|(apply bu;rfl;rfl)))|(apply Vp;rfl;rfl;apply fnT;rfl;apply h32;rintro _ rfl)|(apply Vp;rfl;rfl;apply fnT;rfl;apply h33;rintro _ rfl)|(apply Vd;rfl;(apply ep;rfl;rfl);all_goals intro h_)|(apply Vo;rfl)|(apply Vw;rfl;(apply cj;rfl;rfl;rfl))|(apply ac;rfl)|apply ai|(apply bf _ (.inr rfl);(exact List.prefix_append _ _);(focus repeat (first|apply a8|(apply a9;rfl)));rfl))
    all_goals first|exact sm rfl|exact sm (by simp [h_])
theorem jub (p:List Cl) (a:ByteArray) (hp:p.length ≤ 1000000):PC 96 [vP p,vS a] (fun r=>r = vS (jap p a)):=by
  have h32:=jua a
  have h33:=jqu p a hp
  unfold jap
  rcases fi p a with ⟨hf,_⟩|⟨j,hj,hf,_,_⟩
  · cases hb:inS BS a
    all_goals
      rw [hb] at h32
      rw [hf] at h33
      intro S T M
      refine am [] [] Tryz.func96 rfl Tryz.ntmps96 Tryz.results96 ?_
      repeat' (first|apply ab|(apply V;rfl;(first|(apply bl;rfl)|(apply bg;rfl)|(apply cb;(apply plT;rfl);rfl;rfl;decide)|(apply bj;(apply tyT;rfl);rfl;(apply at_;rfl;rfl);rfl)|(apply bz;(apply tyT;rfl);rfl;(apply at_;rfl;rfl);rfl)))|(apply Vp;rfl;rfl;apply fnT;rfl;apply h32;rintro _ rfl)|(apply Vp;rfl;rfl;apply fnT;rfl;apply h33;rintro _ rfl)|(apply Vd;rfl;(first|(apply ep;rfl;rfl)|(apply du;rfl;rfl));all_goals intro h_)|(apply Vw;rfl;(apply cj;rfl;rfl;rfl))|(apply ac;rfl)|apply ak|apply ah|apply ai|(apply ae;rfl)|(apply af;rfl)|(apply bf _ (.inr rfl);(exact List.prefix_append _ _);(focus repeat (first|apply a8|(apply a9;rfl)));rfl)|apply ap|apply aw)
      all_goals first|(exfalso;omega)|exact vt (by rw [if_pos rfl,if_pos (show a = EXC from h_)];rfl)|exact vt (by rw [if_pos rfl,if_neg (show ¬ a = EXC from h_)];rfl)|exact vt (by rw [if_neg (by decide),if_pos (by omega)];rfl)
  · obtain ⟨c,hc⟩:∃ c,p[j]? = some c:=⟨_,List.getElem?_eq_getElem hj⟩
    cases hb:inS BS a
    all_goals
      rw [hb] at h32
      rw [hf] at h33
      intro S T M
      refine am [] [] Tryz.func96 rfl Tryz.ntmps96 Tryz.results96 ?_
      repeat' (first|apply ab|(apply V;rfl;(first|(apply bl;rfl)|(apply bg;rfl)|(apply cb;(apply plT;rfl);rfl;rfl;decide)|(apply fz;(apply plT;rfl);rfl;rfl;decide)|(apply bj;(apply tyT;rfl);rfl;(apply at_;rfl;rfl);rfl)|(apply bz;(apply tyT;rfl);rfl;(apply at_;rfl;rfl);rfl)|(apply ef;(apply tyT;rfl);rfl;rfl)|(apply bp (c:=c);apply elT;rfl;rfl;rfl;rfl;exact da;omega;simpa using hc)))|(apply Vp;rfl;rfl;apply fnT;rfl;apply h32;rintro _ rfl)|(apply Vp;rfl;rfl;apply fnT;rfl;apply h33;rintro _ rfl)|(apply Vd;rfl;(first|(apply ep;rfl;rfl)|(apply du;rfl;rfl));all_goals intro h_)|(apply Vw;rfl;(apply cj;rfl;rfl;rfl))|(apply ac;rfl)|apply ak|apply ah|apply ai|(apply ae;rfl)|(apply af;rfl)|(apply bf _ (.inr rfl);(exact List.prefix_append _ _);(focus repeat (first|apply a8|(apply a9;rfl)));rfl)|apply ap|apply aw)
      all_goals first|(exfalso;omega)|exact vt (by rw [if_pos rfl,if_pos (show a = EXC from h_)];rfl)|exact vt (by rw [if_pos rfl,if_neg (show ¬ a = EXC from h_)];rfl)|exact vt (by rw [if_neg (by decide),if_neg (by omega),hf];unfold jb7;rw [show ((j:Int)).toNat = j from rfl,hc];rfl)
theorem jp6 (p:List Cl) (a0:ByteArray) (hp:p.length ≤ 1000000):PC 67 [vP p,vS a0] (fun r=>r = .d (cy dw (chC p a0))):=by
  intro S T M
  refine am [] [] Tryz.func67 rfl Tryz.ntmps67 Tryz.results67 ?_
  repeat' (first|apply ab|(apply V;rfl;(apply bg;rfl))|(apply Vw;rfl;(apply cj;rfl;rfl;rfl))|(apply ac;rfl)|apply ak|apply aj)
  refine gc 5 9 1 rfl rfl ?_
  refine cx (fun k:Nat × ByteArray × List ByteArray=>k.1) (fun k=>[(1,vS k.2.1),(2,.ptr (S.length + 0) 0),(5,.own 9 1 (T.length + 0) (k.2.2.flatMap dw) k.2.2.length)]) (fun k S1 T1=>k.2.2.Nodup ∧(∀ x ∈ k.2.2,isC p x = true) ∧ k.2.2.length + k.1 = p.length + 6 ∧ chG p k.1 k.2.1 k.2.2 = chC p a0 ∧ S.length ≤ S1.length ∧ T <+: T1 ∧ S1[S.length + 0]? = some ([.d (cy df p)],26) ∧ T1[T.length + 0]? = some (k.2.2.flatMap dw).length) (p.length + 6,a0,[]) ⟨by simp,by simp,by simp,rfl,by simp,by simp,at_ rfl rfl,by simp⟩ ⟨rfl,rfl,rfl,trivial⟩ ?_
  rintro ⟨n,a,acc⟩ S1 T1 ⟨hn,hs,he,hch,hS,hT,hb,hTg⟩
  dsimp only at hn hs he hch hTg ⊢
  have hlen:=jsy hn hs
  obtain ⟨m,rfl⟩:∃ m,n = m + 1:=⟨n - 1,by omega⟩
  rw [chG] at hch
  have h25:=jmu p a hp
  have h14:=jub p a hp
  cases hi:isC p a
  · rw [hi] at h25 hch
    rw [if_neg (by decide)] at hch
    repeat' (first|apply ab|(apply V;rfl;(first|(apply bl;rfl)|(apply bg;rfl)|(apply bj;(apply tyT;rfl);rfl;(apply aa;assumption);rfl)|(apply bu;rfl;rfl)))|(apply Vp;rfl;rfl;apply fnT;rfl;apply h25;rintro _ rfl)|(apply Vo;rfl)|(apply ac;rfl)|apply ak|apply bd|apply ai|(apply af;rfl)|(apply bf _ (.inr rfl);(apply av;assumption);(focus repeat (first|apply a8|(apply a9;rfl)));rfl)|apply ap|apply ey|apply bo)
    rw [← hch]
    rfl
  · rw [hi] at h25 hch
    rw [if_pos rfl] at hch
    repeat' (first|apply ab|(apply V;rfl;(first|(apply bl;rfl)|(apply bg;rfl)|(apply bj;(apply tyT;rfl);rfl;(apply aa;assumption);rfl)|(apply ca;rfl;rfl)|(apply cg;rfl)))|(apply Vp;rfl;rfl;apply fnT;rfl;apply h25;rintro _ rfl)|(apply Vp;rfl;rfl;apply fnT;rfl;apply ea;rfl;apply (jp4 acc a);rintro _ ⟨(_|_),rfl,hin_⟩)|(apply Vp;rfl;rfl;apply fnT;rfl;apply h14;rintro _ rfl)|(apply Vw;rfl;(first|(apply d8;rfl;(apply elT;rfl);(apply tyT;rfl);rfl;decide;rfl;rfl)|(apply mf;(apply elT;rfl);(apply tyT;rfl);(apply byT;rfl);rfl;rfl;rfl;decide;rfl;(apply ee (c:=a);omega;omega;assumption))))|(apply ac;rfl)|apply ak|(apply al;rfl)|apply aj|apply ah|apply bd|apply ai|(apply ae;rfl)|(apply af;rfl)|(apply bf _ (.inr rfl);(apply av;assumption);(focus repeat (first|apply a8|(apply a9;rfl)));rfl)|apply ap|apply ey|apply cq|apply bo)
    · have hna:a ∉ acc:=fun h=>by cases hin_.2 h
      rw [if_neg (by rw [sj.2 hna];decide)] at hch
      refine ⟨(m,jap p a,acc ++ [a]),_,_,by dsimp only;omega,⟨uj hn hna,fun x hx=>?_,by simp only [List.length_append,List.length_singleton];omega,hch,by simp only [List.length_append];omega,av (dc hT (by omega)),aa hb,aq (List.getElem?_eq_some_iff.1 hTg).1⟩,⟨rfl,rfl,rfl,trivial⟩,rfl⟩
      rcases List.mem_append.1 hx with h|h
      · exact hs x h
      · rw [List.mem_singleton.1 h]
        exact hi
    · rw [if_pos (gw.2 (hin_.1 rfl))] at hch
      rw [← hch]
      rfl
end Go.Proofs.YtinffhimfoicdaaGreat
namespace Go.Proofs.YtinffhimfoicdaaGreat
open Go Go.RowKit Go.Proofs.YtinffhimfoicdaaGreat.Calc
set_option linter.unusedVariables false
set_option linter.unusedSimpArgs false
set_option maxRecDepth 100000
set_option maxHeartbeats 8000000
attribute [local irreducible] Tri ew er ci bn db d7 inQ jb
theorem jsz (p:List Cl) (a:ByteArray) (hp:p.length ≤ 1000000):PC 43 [vP p,vS a] (fun r=>r = vB (yc p a)):=by
  have h25:=jmu p a hp
  unfold yc
  cases hb:isC p a
  all_goals
    rw [hb] at h25
    intro S T M
    refine am [] [] Tryz.func43 rfl Tryz.ntmps43 Tryz.results43 ?_
    repeat' (first|apply ab|(apply V;rfl;(first|(apply bl;rfl)|(apply bg;rfl)|(apply bj;(apply tyT;rfl);rfl;(apply at_;rfl;rfl);rfl)|(apply ca;rfl;rfl)|(apply bu;rfl;rfl)))|(apply Vp;rfl;rfl;apply fnT;rfl;apply h25;rintro _ rfl)|(apply Vd;rfl;(apply du;rfl;rfl);all_goals intro h_)|(apply Vo;rfl)|(apply Vw;rfl;(apply cj;rfl;rfl;rfl))|(apply ac;rfl)|apply ai|(apply bf _ (.inr rfl);(exact List.prefix_append _ _);(focus repeat (first|apply a8|(apply a9;rfl)));rfl))
    all_goals exact sm (by simp_all)
theorem jwy (p:List Cl) (hp:p.length ≤ 1000000):PC 69 [vP p] (fun r=>r = .tup [vI (eg p).1,vI (eg p).2]):=by
  intro S T M
  refine am [] [] Tryz.func69 rfl Tryz.ntmps69 Tryz.results69 ?_
  repeat' (first|apply ab|(apply V;rfl;(apply bg;rfl))|(apply Vw;rfl;(apply cj;rfl;rfl;rfl))|(apply ac;rfl)|apply ak|apply aj)
  refine cx (fun k:Nat=>p.length - k) (fun k=>[(1,.ptr (S.length + 0) 0),(4,vI k)]) (fun k S1 T1=>k ≤ p.length ∧ S.length ≤ S1.length ∧ T <+: T1 ∧ S1[S.length + 0]? = some ([.d (cy df p)],26) ∧ jar p p 0 = jar p (p.drop k) k) 0 ⟨Nat.zero_le _,by simp,by simp,at_ rfl rfl,by rw [List.drop_zero]⟩ ⟨rfl,rfl,trivial⟩ ?_
  rintro k S1 T1 ⟨hk,hS,hT,hb,hch⟩
  repeat' (first|apply ab|(apply V;rfl;(first|(apply bl;rfl)|(apply bg;rfl)|(apply cb;(apply plT;rfl);rfl;rfl;decide)|(apply bz;(apply tyT;rfl);rfl;(apply aa;assumption);rfl)|(apply bq;(apply elT;rfl);rfl;rfl)))|(apply Vd;rfl;(apply cu;rfl;rfl);all_goals intro h_)|(apply ac;rfl)|apply ak|apply aj|apply ah|apply bd|(apply ae;rfl)|(apply af;rfl)|apply ap|apply ey|apply bo)
  · obtain ⟨c,hc⟩:∃ c,p[k]? = some c:=⟨_,List.getElem?_eq_getElem (by omega)⟩
    have hd:p.drop k = c :: p.drop (k + 1):=by
      obtain ⟨hk',rfl⟩:=List.getElem?_eq_some_iff.1 hc
      exact List.drop_eq_getElem_cons hk'
    rw [hd,jar] at hch
    have h32:=jua c.name
    have h33:=jqu p c.name hp
    cases hi:inS BS c.name
    all_goals
      rw [hi] at h32 hch
      repeat' (first|apply ab|(apply V;rfl;(first|(apply bl;rfl)|(apply bg;rfl)|(apply cb;(apply plT;rfl);rfl;rfl;decide)|(apply bj;(apply tyT;rfl);rfl;(first|(apply at_;rfl;rfl)|(apply aa;assumption));rfl)|(apply bz;(apply tyT;rfl);rfl;(first|(apply at_;rfl;rfl)|(apply aa;assumption));rfl)|(apply dp;(apply tyT;rfl);rfl;(first|rfl|apply ay|apply ba))|(apply ca;rfl;rfl)|(apply bu;rfl;rfl)|(apply az;rfl;rfl;rfl;omega)|(apply bp (c:=c);apply elT;rfl;rfl;rfl;rfl;exact da;omega;simpa using hc)))|(apply Vp;rfl;rfl;apply fnT;rfl;apply h32;rintro _ rfl)|(apply Vp;rfl;rfl;apply fnT;rfl;apply h33;rintro _ rfl)|(apply Vd;rfl;(apply fb;rfl;rfl);all_goals intro h_)|(apply Vo;rfl)|(apply Vw;rfl;(apply cd;rfl;(apply tyT;rfl)))|(apply Vs;rfl;(apply bw;rfl;(apply tyT;rfl);rfl;rfl;rfl;(first|apply bc|(apply bh;omega));rfl;rfl;(first|decide|(apply Nat.le_of_ble_eq_true;rfl))))|(apply ac;rfl)|(apply al;rfl)|apply ah|apply ai|(apply ae;rfl)|(apply af;rfl)|(apply bf _ (.inr rfl);(apply av;assumption);(focus repeat (first|apply a8|(apply a9;rfl)));rfl)|apply ap|apply cq|apply dm|apply aw)
    · rw [if_pos (.inr h_)] at hch
      unfold eg
      rw [hch]
      rfl
    · rw [if_neg (by simp;exact Classical.not_not.1 h_)] at hch
      exact ⟨k + 1,_,_,by omega,⟨by omega,by simp only [List.length_append];omega,av hT,aa hb,hch⟩,⟨rfl,di (by omega),trivial⟩,rfl⟩
    · rw [if_pos (.inl rfl)] at hch
      unfold eg
      rw [hch]
      rfl
  · rw [List.drop_of_length_le (by omega),jar] at hch
    refine cx (fun k:Nat=>p.length - k) (fun k=>[(1,.ptr (S.length + 0) 0),(6,vI k)]) (fun k S1 T1=>k ≤ p.length ∧ S.length ≤ S1.length ∧ T <+: T1 ∧ S1[S.length + 0]? = some ([.d (cy df p)],26) ∧ jf0 p p 0 = jf0 p (p.drop k) k) 0 ⟨Nat.zero_le _,by first|exact hS|(simp only [List.length_append];omega),by first|exact hT|exact av hT,by first|exact hb|exact aa hb,by rw [List.drop_zero]⟩ ⟨rfl,rfl,trivial⟩ ?_
    clear hS hT hb hk
    rintro k S1 T1 ⟨hk,hS,hT,hb,hch2⟩
    repeat' (first|apply ab|(apply V;rfl;(first|(apply bl;rfl)|(apply bg;rfl)|(apply cb;(apply plT;rfl);rfl;rfl;decide)|(apply bz;(apply tyT;rfl);rfl;(apply aa;assumption);rfl)|(apply bq;(apply elT;rfl);rfl;rfl)))|(apply Vd;rfl;(apply cu;rfl;rfl);all_goals intro h_)|(apply ac;rfl)|apply ak|apply aj|apply ah|apply bd|apply ai|(apply ae;rfl)|(apply af;rfl)|(apply bf _ (.inr rfl);(apply av;assumption);(focus repeat (first|apply a8|(apply a9;rfl)));rfl)|apply ap|apply ey|apply bo)
    · obtain ⟨c,hc⟩:∃ c,p[k]? = some c:=⟨_,List.getElem?_eq_getElem (by omega)⟩
      have hd:p.drop k = c :: p.drop (k + 1):=by
        obtain ⟨hk',rfl⟩:=List.getElem?_eq_some_iff.1 hc
        exact List.drop_eq_getElem_cons hk'
      rw [hd,jf0] at hch2
      have h25:=jmu p c.super hp
      have h28:=jp6 p c.name hp
      have hin:isC p c.name = true:=by
        unfold isC
        rw [Bool.or_eq_true]
        exact .inr (decide_eq_true (jig (List.mem_of_getElem? hc)))
      obtain ⟨U,hU⟩:=jed hin
      have hlen:=sk p c.name
      have hlast:(chC p c.name)[(((chC p c.name).length:Int) - 1).toNat]? = some (re (chC p c.name)):=by
        unfold re
        rw [show (((chC p c.name).length:Int) - 1).toNat =(chC p c.name).length - 1 by omega]
        rw [List.getElem?_eq_getElem (by rw [hU];simp)]
        rfl
      have hpos:0 <(chC p c.name).length:=by rw [hU];simp
      have h14:=jub p (re (chC p c.name)) hp
      have h25':=jmu p (jap p (re (chC p c.name))) hp
      generalize re (chC p c.name) = z at *
      generalize jap p z = z' at *
      cases hi:isC p c.super <;> cases hj:isC p z'
      all_goals
        rw [hi] at h25 hch2
        rw [hj] at h25' hch2
        repeat' (first|apply ab|(apply V;rfl;(first|(apply bl;rfl)|(apply bg;rfl)|(apply cb;(apply plT;rfl);rfl;rfl;decide)|(apply bj;(apply tyT;rfl);rfl;(first|(apply at_;rfl;rfl)|(apply aa;assumption));rfl)|(apply bz;(apply tyT;rfl);rfl;(first|(apply at_;rfl;rfl)|(apply aa;assumption));rfl)|(apply dp;(apply tyT;rfl);rfl;(first|rfl|apply ay|apply ba))|(apply ef;(apply tyT;rfl);rfl;rfl)|(apply bq;(apply elT;rfl);rfl;rfl)|(apply cg;rfl)|(apply az;rfl;rfl;rfl;omega)|(apply ei;rfl;rfl;rfl;omega)|(apply bp (c:=c);apply elT;rfl;rfl;rfl;rfl;exact da;omega;simpa using hc)|(apply bp (c:=z);apply elT;rfl;rfl;rfl;rfl;exact cv;omega;exact hlast)))|(apply bt (nt:=71) (.take 0 (.take 1 (.take 2 (.take 3 (.take 4 (.take 5 (.take 6 (.one 7 (.take 8 .nil))))))))) [] [];exact co;rfl;decide +kernel)|(apply Vp;rfl;rfl;apply fnT;rfl;apply h25;rintro _ rfl)|(apply Vp;rfl;rfl;apply fnT;rfl;apply h28;rintro _ rfl)|(apply oP;rfl;rfl;rfl;apply fnT;rfl;apply h14;rintro _ rfl)|(apply Vp;rfl;rfl;apply fnT;rfl;apply h25';rintro _ rfl)|(apply Vd;rfl;(apply du;rfl;rfl);all_goals intro h_)|(apply Vw;rfl;(apply cd;rfl;(apply tyT;rfl)))|(apply Vs;rfl;(apply bw;rfl;(apply tyT;rfl);rfl;rfl;rfl;(first|apply bc|(apply bh;omega));rfl;rfl;(first|decide|(apply Nat.le_of_ble_eq_true;rfl))))|(apply ac;rfl)|apply ak|(apply al;rfl)|apply ah|apply bd|apply ai|(apply ae;rfl)|(apply af;rfl)|(apply bf _ (.inr rfl);(apply av;assumption);(focus repeat (first|apply a8|(apply a9;rfl)));rfl)|apply ap|apply ey|apply cq|apply dm|apply aw|apply bo|apply dg|(apply tV;rfl;rfl;(first|(apply bl;rfl)|(apply bg;rfl)|(apply cb;(apply plT;rfl);rfl;rfl;decide)|(apply bj;(apply tyT;rfl);rfl;(first|(apply at_;rfl;rfl)|(apply aa;assumption));rfl)|(apply bz;(apply tyT;rfl);rfl;(first|(apply at_;rfl;rfl)|(apply aa;assumption));rfl)|(apply dp;(apply tyT;rfl);rfl;(first|rfl|apply ay|apply ba))|(apply ef;(apply tyT;rfl);rfl;rfl)|(apply bq;(apply elT;rfl);rfl;rfl)|(apply cg;rfl)|(apply az;rfl;rfl;rfl;omega)|(apply ei;rfl;rfl;rfl;omega)|(apply bp (c:=c);apply elT;rfl;rfl;rfl;rfl;exact da;omega;simpa using hc)|(apply bp (c:=z);apply elT;rfl;rfl;rfl;rfl;exact cv;omega;exact hlast));rfl))
        all_goals first
          |(rw [if_pos (show c.super = NIL from h_)] at hch2;exact ⟨k + 1,_,_,by omega,⟨by omega,by simp only [List.length_append];omega,av hT,aa hb,hch2⟩,⟨rfl,di (by omega),trivial⟩,rfl⟩)
          |(rw [if_neg (show ¬ c.super = NIL from h_),if_pos rfl] at hch2;unfold eg;rw [hch,hch2];rfl)
          |(rw [if_neg (show ¬ c.super = NIL from h_),if_neg (by decide),if_pos rfl] at hch2;unfold eg;rw [hch,hch2];rfl)
          |(rw [if_neg (show ¬ c.super = NIL from h_),if_neg (by decide),if_neg (by decide)] at hch2;exact ⟨k + 1,_,_,by omega,⟨by omega,by simp only [List.length_append];omega,av hT,aa hb,hch2⟩,⟨rfl,di (by omega),trivial⟩,rfl⟩)
    · rw [List.drop_of_length_le (by omega),jf0] at hch2
      unfold eg
      rw [hch,hch2]
      rfl
theorem jwz (p:List Cl) (hp:p.length ≤ 1000000):PC 41 [vP p] (fun r=>r = vB (decide ((eg p).1 = 0))):=by
  have h76:=jwy p hp
  intro S T M
  refine am [] [] Tryz.func41 rfl Tryz.ntmps41 Tryz.results41 ?_
  repeat' (first|apply ab|(apply V;rfl;(first|(apply bl;rfl)|(apply bg;rfl)|(apply bj;(apply tyT;rfl);rfl;(apply at_;rfl;rfl);rfl)|(apply eu;rfl;rfl)))|(apply Vp;rfl;rfl;apply fnT;rfl;apply h76;rintro _ rfl)|(apply Vd;rfl;(apply dq;rfl;rfl);all_goals intro h_)|(apply Vw;rfl;(apply cj;rfl;rfl;rfl))|(apply ac;rfl)|apply ai|(apply bf _ (.inr rfl);(exact List.prefix_append _ _);(focus repeat (first|apply a8|(apply a9;rfl)));rfl))
  all_goals exact sm (by simp [h_])
def rf (p:List Cl):Prop:=p.length ≤ 1000000 ∧ ∀ c ∈ p,c.fields.length ≤ 1000000
def jk5 (c:Cl):BV:=.agg [vS c.name,vS c.super,.d (cy je c.fields),.d (cy j1 c.methods)]
theorem sp (p:List Cl) (a:ByteArray):(∃(j:Nat) (c:Cl),p[j]? = some c ∧ fq p a =(j:Int) ∧ dy p a = c) ∨(fq p a = -1 ∧ dy p a = ⟨⟨#[]⟩,⟨#[]⟩,[],[]⟩):=by
  rcases fi p a with ⟨hf,_⟩|⟨j,hj,hf,_,_⟩
  · exact .inr ⟨hf,by unfold dy;rw [if_neg (by omega)]⟩
  · refine .inl ⟨j,p[j],List.getElem?_eq_getElem hj,hf,?_⟩
    unfold dy jb7
    rw [if_pos (by omega),hf]
    rw [show ((j:Int)).toNat = j from rfl,List.getElem?_eq_getElem hj]
    rfl
theorem ve {p:List Cl} (hp:rf p) (a:ByteArray):(dy p a).fields.length ≤ 1000000:=by
  rcases sp p a with ⟨j,c,hc,_,h⟩|⟨_,h⟩
  · rw [h];exact hp.2 c (List.mem_of_getElem? hc)
  · rw [h];simp
theorem jmv (p:List Cl) (a:ByteArray) (hp:p.length ≤ 1000000):PC 68 [vP p,vS a] (fun r=>r = jk5 (dy p a)):=by
  have h33:=jqu p a hp
  rcases sp p a with ⟨j,c,hc,hf,h⟩|⟨hf,h⟩
  · rw [h]
    rw [hf] at h33
    have hj:=(List.getElem?_eq_some_iff.1 hc).1
    intro S T M
    refine am [] [] Tryz.func68 rfl Tryz.ntmps68 Tryz.results68 ?_
    repeat' (first|apply ab|(apply V;rfl;(first|(apply bl;rfl)|(apply bg;rfl)|(apply cb;(apply plT;rfl);rfl;rfl;decide)|(apply bj;(apply tyT;rfl);rfl;(apply at_;rfl;rfl);rfl)|(apply bz;(apply tyT;rfl);rfl;(apply at_;rfl;rfl);rfl)|(apply dp;(apply tyT;rfl);rfl;(first|rfl|apply ay|apply ba))|(apply ed;(apply plT;rfl);rfl)|(apply bp (c:=c);apply elT;rfl;rfl;rfl;rfl;exact da;omega;simpa using hc)))|(apply Vp;rfl;rfl;apply fnT;rfl;apply h33;rintro _ rfl)|(apply Vd;rfl;(apply ep;rfl;rfl);all_goals intro h_)|(apply Vw;rfl;(first|(apply cd;rfl;(apply tyT;rfl))|(apply cj;rfl;rfl;rfl)))|(apply Vs;rfl;(apply bw;rfl;(apply tyT;rfl);rfl;rfl;rfl;(first|apply bc|(apply bh;omega));rfl;rfl;(first|decide|(apply Nat.le_of_ble_eq_true;rfl))))|(apply ac;rfl)|apply ak|apply ah|apply ai|(apply ae;rfl)|(apply af;rfl)|(apply bf _ (.inr rfl);(exact List.prefix_append _ _);(focus repeat (first|apply a8|(apply cp;rfl;rfl;apply tyT;rfl;rfl;rfl)));rfl)|apply ap|apply aw)
    all_goals first|rfl|(exfalso;omega)
  · rw [h]
    rw [hf] at h33
    intro S T M
    refine am [] [] Tryz.func68 rfl Tryz.ntmps68 Tryz.results68 ?_
    repeat' (first|apply ab|(apply V;rfl;(first|(apply bl;rfl)|(apply bg;rfl)|(apply cb;(apply plT;rfl);rfl;rfl;decide)|(apply bj;(apply tyT;rfl);rfl;(apply at_;rfl;rfl);rfl)|(apply bz;(apply tyT;rfl);rfl;(apply at_;rfl;rfl);rfl)|(apply ed;(apply plT;rfl);rfl)))|(apply Vp;rfl;rfl;apply fnT;rfl;apply h33;rintro _ rfl)|(apply Vd;rfl;(apply ep;rfl;rfl);all_goals intro h_)|(apply Vw;rfl;(first|(apply cd;rfl;(apply tyT;rfl))|(apply cj;rfl;rfl;rfl)))|(apply Vs;rfl;(apply bw;rfl;(apply tyT;rfl);rfl;rfl;rfl;(first|apply bc|(apply bh;omega));rfl;rfl;(first|decide|(apply Nat.le_of_ble_eq_true;rfl))))|(apply ac;rfl)|apply ak|apply ah|apply ai|(apply ae;rfl)|(apply af;rfl)|(apply bf _ (.inr rfl);(exact List.prefix_append _ _);(focus repeat (first|apply a8|(apply cp;rfl;rfl;apply tyT;rfl;rfl;rfl)));rfl)|apply ap|(show ew _ _ _ _ _ _;exfalso;omega))
    all_goals first|rfl|(exfalso;omega)
end Go.Proofs.YtinffhimfoicdaaGreat
namespace Go.Proofs.YtinffhimfoicdaaGreat
open Go Go.RowKit Go.Proofs.YtinffhimfoicdaaGreat.Calc
set_option linter.unusedVariables false
set_option linter.unusedSimpArgs false
set_option maxRecDepth 100000
set_option maxHeartbeats 8000000
attribute [local irreducible] Tri ew er ci bn db d7 inQ jb
theorem uk (p:List Fi) (a:ByteArray):(jee p a = -1 ∧ ∀ x ∈ p,x.name ≠ a) ∨(∃ j:Nat,∃ h:j < p.length,jee p a = j ∧(p[j]).name = a ∧ ∀(j':Nat) (h':j' < j),(p[j']'(by omega)).name ≠ a):=by
  unfold jee
  cases h:p.findIdx? (fun c=>decide (c.name = a)) with
  | none =>
    refine .inl ⟨rfl,fun x hx e=>?_⟩
    have:=List.findIdx?_eq_none_iff.1 h x hx
    simp [e] at this
  | some j =>
    obtain ⟨hj,h1,h2⟩:=List.findIdx?_eq_some_iff_getElem.1 h
    exact .inr ⟨j,hj,rfl,by simpa using h1,fun j' h'=>by simpa using h2 j' h'⟩
theorem jf2 {p:List Fi} {a:ByteArray} {k:Nat} {c:Fi} (hc:p[k]? = some c) (hn:c.name = a) (hpre:∀(i:Nat) (c':Fi),i < k → p[i]? = some c' → c'.name ≠ a):jee p a = k:=by
  obtain ⟨hk,rfl⟩:=List.getElem?_eq_some_iff.1 hc
  rcases uk p a with ⟨_,h⟩|⟨j,hj,h1,h2,h3⟩
  · exact absurd hn (h _ (List.getElem_mem hk))
  · rw [h1]
    rcases Nat.lt_trichotomy j k with h|h|h
    · exact absurd h2 (hpre j _ h (List.getElem?_eq_getElem hj))
    · rw [h]
    · exact absurd hn (h3 k h)
theorem zt {p:List Fi} {a:ByteArray} (hpre:∀(i:Nat) (c':Fi),p[i]? = some c' → c'.name ≠ a):jee p a = -1:=by
  rcases uk p a with ⟨h,_⟩|⟨j,hj,h1,h2,h3⟩
  · exact h
  · exact absurd h2 (hpre j _ (List.getElem?_eq_getElem hj))
theorem jp {α:Type} {l:List α} {k:Nat} {c:α} (hc:l[k]? = some c):l.drop k = c :: l.drop (k + 1):=by
  obtain ⟨hk',rfl⟩:=List.getElem?_eq_some_iff.1 hc
  exact List.drop_eq_getElem_cons hk'
theorem jw0 (p:List Cl) (a name:ByteArray) (hp:rf p):PC 42 [vP p,vS a,vS name] (fun r=>r = vI (jk4 p a name)):=by
  have h128:=jmv p a hp.1
  have hfl:=ve hp a
  unfold jk4
  unfold jk5 at h128
  generalize dy p a = c at *
  obtain ⟨cn,csup,cf,cm⟩:=c
  dsimp only at *
  intro S T M
  refine am [] [] Tryz.func42 rfl Tryz.ntmps42 Tryz.results42 ?_
  repeat' (first|apply ab|(apply V;rfl;(first|(apply bl;rfl)|(apply bg;rfl)|(apply bj;(apply tyT;rfl);rfl;(apply at_;rfl;rfl);rfl)))|(apply Vp;rfl;rfl;apply fnT;rfl;apply h128;rintro _ rfl)|(apply Vw;rfl;(first|(apply cd;rfl;(apply tyT;rfl))|(apply cj;rfl;rfl;rfl)))|(apply Vs;rfl;(apply bw;rfl;(apply tyT;rfl);rfl;rfl;rfl;(first|apply bc|(apply bh;omega));rfl;rfl;(first|decide|(apply Nat.le_of_ble_eq_true;rfl))))|(apply ac;rfl)|apply ak|apply aj)
  refine eh (fun k:Nat=>cf.length - k) (fun k=>[(2,vS name),(7,.ptr (S.length + 1) 0),(8,vI k)]) (fun k=>k ≤ cf.length ∧ ∀(i:Nat) (c:Fi),i < k → cf[i]? = some c → c.name ≠ name) 0 ⟨Nat.zero_le _,fun i c h=>by omega⟩ ⟨rfl,rfl,rfl,trivial⟩ ?_
  rintro k ⟨hk,hpre⟩
  repeat' (first|apply ab|(apply V;rfl;(first|(apply bl;rfl)|(apply bg;rfl)|(apply cb;(apply plT;rfl);rfl;rfl;decide)|(apply bz;(apply tyT;rfl);rfl;(apply at_;rfl;rfl);rfl)|(apply bq;(apply elT;rfl);rfl;rfl)))|(apply Vd;rfl;(apply cu;rfl;rfl);all_goals intro h_)|(apply ac;rfl)|apply ak|apply aj|apply ah|apply bd|apply ai|(apply ae;rfl)|(apply af;rfl)|(apply bf _ (.inr rfl);(exact List.prefix_append _ _);(focus repeat (first|apply a8|(apply a9;rfl)));rfl)|apply ap|apply ey|apply bo)
  · obtain ⟨c,hc⟩:∃ c,cf[k]? = some c:=⟨_,List.getElem?_eq_getElem (by omega)⟩
    repeat' (first|apply ab|(apply V;rfl;(first|(apply bl;rfl)|(apply bg;rfl)|(apply fz;(apply plT;rfl);rfl;rfl;decide)|(apply ef;(apply tyT;rfl);rfl;rfl)|(apply az;rfl;rfl;rfl;omega)|(apply bp (c:=c);apply elT;rfl;rfl;rfl;rfl;exact dx;omega;simpa using hc)))|(apply Vd;rfl;(apply du;rfl;rfl);all_goals intro h_)|(apply ac;rfl)|(apply al;rfl)|apply ah|apply ai|(apply ae;rfl)|(apply af;rfl)|(apply bf _ (.inr rfl);(exact List.prefix_append _ _);(focus repeat (first|apply a8|(apply a9;rfl)));rfl)|apply ap|apply cq|apply dm|apply aw)
    · exact p5 (jf2 hc h_ hpre).symm
    · refine ⟨k + 1,by omega,⟨by omega,fun i c' hi hc'=>?_⟩,⟨rfl,rfl,di (by omega),trivial⟩,rfl⟩
      by_cases hik:i = k
      · subst hik
        obtain rfl:=Option.some.inj (hc.symm.trans hc')
        assumption
      · exact hpre i c' (by omega) hc'
  · exact p5 (zt fun i c hc=>hpre i c (by have:=(List.getElem?_eq_some_iff.1 hc).1;omega) hc).symm
theorem jx3 (p:List Cl) (hp:rf p):PC 23 [vP p] (fun r=>r = .tup [vI (ji p).1,vI (ji p).2]):=by
  have h109:=jwz p hp.1
  have hp1:=hp.1
  unfold ji
  by_cases he:(eg p).1 = 0
  case neg =>
    rw [if_pos he]
    rw [decide_eq_false he] at h109
    intro S T M
    refine am [] [] Tryz.func23 rfl Tryz.ntmps23 Tryz.results23 ?_
    repeat' (first|apply ab|(apply V;rfl;(first|(apply bg;rfl)|(apply bj;(apply tyT;rfl);rfl;(apply at_;rfl;rfl);rfl)|(apply cg;rfl)))|(apply Vp;rfl;rfl;apply fnT;rfl;apply h109;rintro _ rfl)|(apply Vw;rfl;(apply cj;rfl;rfl;rfl))|(apply ac;rfl)|apply ak|apply ai|(apply ae;rfl)|(apply bf _ (.inr rfl);(exact List.prefix_append _ _);(focus repeat (first|apply a8|(apply a9;rfl)));rfl)|apply aw)
    rfl
  rw [if_neg (fun h=>h he)]
  rw [decide_eq_true he] at h109
  intro S T M
  refine am [] [] Tryz.func23 rfl Tryz.ntmps23 Tryz.results23 ?_
  repeat' (first|apply ab|(apply V;rfl;(first|(apply bg;rfl)|(apply bj;(apply tyT;rfl);rfl;(apply at_;rfl;rfl);rfl)|(apply cg;rfl)))|(apply Vp;rfl;rfl;apply fnT;rfl;apply h109;rintro _ rfl)|(apply Vw;rfl;(apply cj;rfl;rfl;rfl))|(apply ac;rfl)|apply ak|apply aj|apply ah|(apply af;rfl)|apply ap)
  refine eh (fun k:Nat=>p.length - k) (fun k=>[(1,.ptr (S.length + 0) 0),(4,vI k)]) (fun k=>k ≤ p.length ∧ jf1 p p 0 = jf1 p (p.drop k) k) 0 ⟨Nat.zero_le _,by rw [List.drop_zero]⟩ ⟨rfl,rfl,trivial⟩ ?_
  rintro k ⟨hk,hch⟩
  repeat' (first|apply ab|(apply V;rfl;(first|(apply bl;rfl)|(apply bg;rfl)|(apply cb;(apply plT;rfl);rfl;rfl;decide)|(apply bz;(apply tyT;rfl);rfl;(apply at_;rfl;rfl);rfl)|(apply bq;(apply elT;rfl);rfl;rfl)))|(apply Vd;rfl;(apply cu;rfl;rfl);all_goals intro h_)|(apply ac;rfl)|apply ak|apply aj|apply ah|apply bd|apply ai|(apply ae;rfl)|(apply af;rfl)|(apply bf _ (.inr rfl);(exact List.prefix_append _ _);(focus repeat (first|apply a8|(apply a9;rfl)));rfl)|apply ap|apply ey|apply bo)
  · obtain ⟨c,hc⟩:∃ c,p[k]? = some c:=⟨_,List.getElem?_eq_getElem (by omega)⟩
    rw [jp hc,jf1] at hch
    have hfl:=hp.2 c (List.mem_of_getElem? hc)
    repeat' (first|apply ab|(apply V;rfl;(first|(apply bg;rfl)|(apply fz;(apply plT;rfl);rfl;rfl;decide)|(apply ef;(apply tyT;rfl);rfl;rfl)|(apply bp (c:=c);apply elT;rfl;rfl;rfl;rfl;exact da;omega;simpa using hc)))|(apply ac;rfl)|apply ak|apply aj)
    refine eh (fun j:Nat=>c.fields.length - j) (fun j=>[(1,.ptr (S.length + 0) 0),(4,vI k),(5,.d (cy je c.fields)),(6,vI j)]) (fun j=>j ≤ c.fields.length ∧ y9 p c.name c.fields 0 = y9 p c.name (c.fields.drop j) j) 0 ⟨Nat.zero_le _,by rw [List.drop_zero]⟩ ⟨rfl,rfl,rfl,rfl,trivial⟩ ?_
    rintro j ⟨hj,hc1⟩
    repeat' (first|apply ab|(apply V;rfl;(first|(apply bl;rfl)|(apply bg;rfl)|(apply bq;(apply elT;rfl);rfl;rfl)))|(apply Vd;rfl;(apply cu;rfl;rfl);all_goals intro h_)|(apply ac;rfl)|apply ak|apply aj|apply ah|apply bd|(apply ae;rfl)|(apply af;rfl)|apply ap|apply ey|apply bo)
    · obtain ⟨f,hf⟩:∃ f,c.fields[j]? = some f:=⟨_,List.getElem?_eq_getElem (by omega)⟩
      rw [jp hf,y9] at hc1
      have h110:=jw0 p c.name f.name hp
      repeat' (first|apply ab|(apply V;rfl;(first|(apply bl;rfl)|(apply bg;rfl)|(apply cb;(apply plT;rfl);rfl;rfl;decide)|(apply fz;(apply plT;rfl);rfl;rfl;decide)|(apply bj;(apply tyT;rfl);rfl;(apply at_;rfl;rfl);rfl)|(apply bz;(apply tyT;rfl);rfl;(apply at_;rfl;rfl);rfl)|(apply ef;(apply tyT;rfl);rfl;rfl)|(apply az;rfl;rfl;rfl;omega)|(apply bp (c:=c);apply elT;rfl;rfl;rfl;rfl;exact da;omega;simpa using hc)|(apply bp (c:=f);apply elT;rfl;rfl;rfl;rfl;exact dx;omega;simpa using hf)))|(apply de (nt:=61) (.take 0 (.take 1 (.take 2 (.take 3 (.take 4 (.take 5 (.take 6 (.take 7 (.take 8 (.take 9 (.take 10 (.take 11 (.take 13 (.one 12 (.take 14 .nil))))))))))))))) [] [];exact co;rfl;decide +kernel)|(apply oP;rfl;rfl;rfl;apply fnT;rfl;apply h110;rintro _ rfl)|(apply ac;rfl)|(apply al;rfl)|apply ah|apply ai|(apply ae;rfl)|(apply af;rfl)|(apply bf _ (.inr rfl);(exact List.prefix_append _ _);(focus repeat (first|apply a8|(apply a9;rfl)));rfl)|apply ap|apply cq|apply dm|apply aw|apply dg|(apply tV;rfl;rfl;(first|(apply bl;rfl)|(apply bg;rfl)|(apply cb;(apply plT;rfl);rfl;rfl;decide)|(apply fz;(apply plT;rfl);rfl;rfl;decide)|(apply bj;(apply tyT;rfl);rfl;(apply at_;rfl;rfl);rfl)|(apply bz;(apply tyT;rfl);rfl;(apply at_;rfl;rfl);rfl)|(apply ef;(apply tyT;rfl);rfl;rfl)|(apply az;rfl;rfl;rfl;omega)|(apply bp (c:=c);apply elT;rfl;rfl;rfl;rfl;exact da;omega;simpa using hc)|(apply bp (c:=f);apply elT;rfl;rfl;rfl;rfl;exact dx;omega;simpa using hf));rfl)|(apply tVd;rfl;rfl;(apply fb;rfl;rfl);rfl;all_goals intro h_))
      · rw [if_pos h_] at hc1
        rw [if_pos hc1] at hch
        rw [hch]
        rfl
      · rw [if_neg h_] at hc1
        exact ⟨j + 1,by omega,⟨by omega,hc1⟩,⟨rfl,rfl,rfl,di (by omega),trivial⟩,rfl⟩
    · rw [List.drop_of_length_le (by omega),y9] at hc1
      rw [if_neg (by rw [hc1];decide)] at hch
      refine eh (fun j:Nat=>c.fields.length - j) (fun j=>[(1,.ptr (S.length + 0) 0),(4,vI k),(5,.d (cy je c.fields)),(7,vI j)]) (fun j=>j ≤ c.fields.length ∧ za p c.fields = za p (c.fields.drop j)) 0 ⟨Nat.zero_le _,by rw [List.drop_zero]⟩ ⟨rfl,rfl,rfl,rfl,trivial⟩ ?_
      clear hc1
      rintro j ⟨hj,hc2⟩
      repeat' (first|apply ab|(apply V;rfl;(first|(apply bl;rfl)|(apply bg;rfl)|(apply bq;(apply elT;rfl);rfl;rfl)|(apply az;rfl;rfl;rfl;omega)))|(apply Vd;rfl;(apply cu;rfl;rfl);all_goals intro h_)|(apply ac;rfl)|apply ak|(apply al;rfl)|apply aj|apply ah|apply bd|(apply ae;rfl)|(apply af;rfl)|apply ap|apply ey|apply cq|apply bo)
      · obtain ⟨f,hf⟩:∃ f,c.fields[j]? = some f:=⟨_,List.getElem?_eq_getElem (by omega)⟩
        rw [jp hf,za] at hc2
        have h26:=jsz p f.typ hp1
        cases ht:yc p f.typ
        all_goals
          rw [ht] at h26 hc2
          repeat' (first|apply ab|(apply V;rfl;(first|(apply bl;rfl)|(apply bg;rfl)|(apply fz;(apply plT;rfl);rfl;rfl;decide)|(apply bj;(apply tyT;rfl);rfl;(apply at_;rfl;rfl);rfl)|(apply ef;(apply tyT;rfl);rfl;rfl)|(apply cg;rfl)|(apply az;rfl;rfl;rfl;omega)|(apply bp (c:=f);apply elT;rfl;rfl;rfl;rfl;exact dx;omega;simpa using hf)))|(apply de (nt:=61) (.take 0 (.take 1 (.take 2 (.take 3 (.take 4 (.take 5 (.one 6 (.take 7 .nil)))))))) [] [];exact co;rfl;decide +kernel)|(apply oP;rfl;rfl;rfl;apply fnT;rfl;apply h26;rintro _ rfl)|(apply ac;rfl)|(apply al;rfl)|apply ah|apply ai|(apply ae;rfl)|(apply af;rfl)|(apply bf _ (.inr rfl);(exact List.prefix_append _ _);(focus repeat (first|apply a8|(apply a9;rfl)));rfl)|apply ap|apply cq|apply dm|apply aw|apply dg|(apply tV;rfl;rfl;(first|(apply bl;rfl)|(apply bg;rfl)|(apply fz;(apply plT;rfl);rfl;rfl;decide)|(apply bj;(apply tyT;rfl);rfl;(apply at_;rfl;rfl);rfl)|(apply ef;(apply tyT;rfl);rfl;rfl)|(apply cg;rfl)|(apply az;rfl;rfl;rfl;omega)|(apply bp (c:=f);apply elT;rfl;rfl;rfl;rfl;exact dx;omega;simpa using hf));rfl))
        · rw [if_neg (by decide)] at hc2
          rw [if_pos hc2] at hch
          rw [hch]
          rfl
        · rw [if_pos rfl] at hc2
          exact ⟨j + 1,by omega,⟨by omega,hc2⟩,⟨rfl,rfl,rfl,di (by omega),trivial⟩,rfl⟩
      · rw [List.drop_of_length_le (by omega),za] at hc2
        rw [if_neg (by rw [hc2];decide)] at hch
        exact ⟨k + 1,by omega,⟨by omega,hch⟩,⟨rfl,di (by omega),trivial⟩,rfl⟩
  · rw [List.drop_of_length_le (by omega),jf1] at hch
    rw [hch]
    rfl
def jw1 (p:List Cl) (a b:ByteArray):Bool:=if a = jt9 then decide (b = jt9) || isC p b else if yc p a = true ∧ yc p b = true then decide (a = b) || inS (chC p a) b else false
theorem juc (p:List Cl) (a b:ByteArray) (hp:p.length ≤ 1000000):PC 122 [vP p,vS a,vS b] (fun r=>r = vB (jw1 p a b)):=by
  have h25:=jmu p b hp
  have h26:=jsz p a hp
  have h26':=jsz p b hp
  have h28:=jp6 p a hp
  unfold jw1
  cases hi:isC p b <;> cases ha:yc p a <;> cases hb:yc p b
  all_goals
    rw [hi] at h25
    rw [ha] at h26
    rw [hb] at h26'
    intro S T M
    refine am [] [] Tryz.func122 rfl Tryz.ntmps122 Tryz.results122 ?_
    repeat' (first|apply ab|(apply V;rfl;(first|(apply bl;rfl)|(apply bg;rfl)|(apply bj;(apply tyT;rfl);rfl;(apply at_;rfl;rfl);rfl)|(apply ca;rfl;rfl)|(apply bu;rfl;rfl)|(apply cg;rfl)))|(apply Vp;rfl;rfl;apply fnT;rfl;apply h25;rintro _ rfl)|(apply Vp;rfl;rfl;apply fnT;rfl;apply h26;rintro _ rfl)|(apply Vp;rfl;rfl;apply fnT;rfl;apply h26';rintro _ rfl)|(apply Vp;rfl;rfl;apply fnT;rfl;apply h28;rintro _ rfl)|(apply Vp;rfl;rfl;apply fnT;rfl;apply (jp4 (chC p a) b);rintro _ ⟨(_|_),rfl,hin_⟩)|(apply Vd;rfl;(apply du;rfl;rfl);all_goals intro h_)|(apply Vo;rfl)|(apply Vw;rfl;(apply cj;rfl;rfl;rfl))|(apply ac;rfl)|apply ak|apply aj|apply ah|apply ai|(apply ae;rfl)|(apply af;rfl)|(apply bf _ (.inr rfl);(exact List.prefix_append _ _);(focus repeat (first|apply a8|(apply a9;rfl)));rfl)|apply ap|apply cq|apply dm|apply aw)
    all_goals
      refine sm ?_
      unfold jt9
      first
        |(have q:=gw.2 (hin_.1 rfl);simp_all;done)
        |(have q:=sj.2 (fun h=>by cases hin_.2 h);simp_all;done)
        |(simp_all;done)
end Go.Proofs.YtinffhimfoicdaaGreat
namespace Go.Proofs.YtinffhimfoicdaaGreat
open Go Go.RowKit Go.Proofs.YtinffhimfoicdaaGreat.Calc
set_option linter.unusedVariables false
set_option linter.unusedSimpArgs false
set_option maxRecDepth 100000
set_option maxHeartbeats 8000000
attribute [local irreducible] Tri ew er ci bn db d7 inQ jb
def jef (l:List ByteArray) (a:ByteArray):Int :=
  match l.findIdx? (fun c=>decide (c = a)) with
  | some i=>i
  | none=>-1
theorem ul (p:List ByteArray) (a:ByteArray):(jef p a = -1 ∧ ∀ x ∈ p,x ≠ a) ∨(∃ j:Nat,∃ h:j < p.length,jef p a = j ∧ p[j] = a ∧ ∀(j':Nat) (h':j' < j),(p[j']'(by omega)) ≠ a):=by
  unfold jef
  cases h:p.findIdx? (fun c=>decide (c = a)) with
  | none =>
    refine .inl ⟨rfl,fun x hx e=>?_⟩
    have:=List.findIdx?_eq_none_iff.1 h x hx
    simp [e] at this
  | some j =>
    obtain ⟨hj,h1,h2⟩:=List.findIdx?_eq_some_iff_getElem.1 h
    exact .inr ⟨j,hj,rfl,by simpa using h1,fun j' h'=>by simpa using h2 j' h'⟩
theorem jk6 {p:List ByteArray} {a c:ByteArray} {k:Nat} (hc:p[k]? = some c) (hn:c = a) (hpre:∀(i:Nat) (c':ByteArray),i < k → p[i]? = some c' → c' ≠ a):jef p a = k:=by
  obtain ⟨hk,rfl⟩:=List.getElem?_eq_some_iff.1 hc
  rcases ul p a with ⟨_,h⟩|⟨j,hj,h1,h2,h3⟩
  · exact absurd hn (h _ (List.getElem_mem hk))
  · rw [h1]
    rcases Nat.lt_trichotomy j k with h|h|h
    · exact absurd h2 (hpre j _ h (List.getElem?_eq_getElem hj))
    · rw [h]
    · exact absurd hn (h3 k h)
theorem jhj {p:List ByteArray} {a:ByteArray} (hpre:∀(i:Nat) (c':ByteArray),p[i]? = some c' → c' ≠ a):jef p a = -1:=by
  rcases ul p a with ⟨h,_⟩|⟨j,hj,h1,h2,h3⟩
  · exact h
  · exact absurd h2 (hpre j _ (List.getElem?_eq_getElem hj))
theorem jk7 (p:List ByteArray) (a:ByteArray):decide (0 ≤ jef p a) = inS p a:=by
  rw [Bool.eq_iff_iff,decide_eq_true_eq,gw]
  rcases ul p a with ⟨h,hn⟩|⟨j,hj,h1,h2,h3⟩
  · exact ⟨fun h0=>by omega,fun hm=>absurd rfl (hn a hm)⟩
  · exact ⟨fun _=>h2 ▸ List.getElem_mem hj,fun _=>by omega⟩
theorem jx4 (l:List ByteArray) (s:ByteArray) (hl:l.length ≤ 1000000000):PC 94 [.d (cy dw l),vS s] (fun r=>r = vI (jef l s)):=by
  intro S T M
  refine am [] [] Tryz.func94 rfl Tryz.ntmps94 Tryz.results94 ?_
  repeat' (first|apply ab|(apply V;rfl;(first|(apply bl;rfl)|(apply bg;rfl)|(apply bq;(apply elT;rfl);rfl;rfl)))|(apply ac;rfl)|apply ak|apply aj)
  refine eh (fun k:Nat=>l.length - k) (fun k=>[(0,.d (cy dw l)),(1,vS s),(7,vI l.length),(8,vI k)]) (fun k=>k ≤ l.length ∧ ∀(i:Nat) (c:ByteArray),i < k → l[i]? = some c → c ≠ s) 0 ⟨Nat.zero_le _,fun i c h=>by omega⟩ ⟨rfl,rfl,rfl,rfl,trivial⟩ ?_
  rintro k ⟨hk,hpre⟩
  repeat' (first|apply ab|(apply V;rfl;(first|(apply bl;rfl)|(apply bg;rfl)))|(apply Vd;rfl;(apply cu;rfl;rfl);all_goals intro h_)|(apply ac;rfl)|apply ak|apply aj|apply ah|apply bd|apply ai|(apply ae;rfl)|(apply af;rfl)|(apply bf _ (.inr rfl);(exact List.prefix_append _ _);(focus repeat (first|apply a8|(apply a9;rfl)));rfl)|apply ap|apply ey|apply bo)
  · obtain ⟨c,hc⟩:∃ c,l[k]? = some c:=⟨_,List.getElem?_eq_getElem (by omega)⟩
    repeat' (first|apply ab|(apply V;rfl;(first|(apply bl;rfl)|(apply bg;rfl)|(apply ef;(apply tyT;rfl);rfl;rfl)|(apply az;rfl;rfl;rfl;omega)|(apply bp (c:=c);apply elT;rfl;rfl;rfl;rfl;exact cv;omega;simpa using hc)))|(apply Vd;rfl;(apply du;rfl;rfl);all_goals intro h_)|(apply ac;rfl)|(apply al;rfl)|apply ah|apply ai|(apply ae;rfl)|(apply af;rfl)|(apply bf _ (.inr rfl);(exact List.prefix_append _ _);(focus repeat (first|apply a8|(apply a9;rfl)));rfl)|apply ap|apply cq|apply dm|apply aw)
    · exact p5 (jk6 hc (Eq.symm h_) hpre).symm
    · refine ⟨k + 1,by omega,⟨by omega,fun i c' hi hc'=>?_⟩,⟨rfl,rfl,rfl,di (by omega),trivial⟩,rfl⟩
      by_cases hik:i = k
      · subst hik
        obtain rfl:=Option.some.inj (hc.symm.trans hc')
        intro e
        exact absurd e.symm (by assumption)
      · exact hpre i c' (by omega) hc'
  · exact p5 (jhj fun i c hc=>hpre i c (by have:=(List.getElem?_eq_some_iff.1 hc).1;omega) hc).symm
theorem jud (l:List ByteArray) (s:ByteArray) (hl:l.length ≤ 1000000000):PC 61 [.d (cy dw l),vS s] (fun r=>r = vB (inS l s)):=by
  have h85:=jx4 l s hl
  have hin:=jk7 l s
  intro S T M
  refine am [] [] Tryz.func61 rfl Tryz.ntmps61 Tryz.results61 ?_
  repeat' (first|apply ab|(apply V;rfl;(first|(apply bl;rfl)|(apply bg;rfl)))|(apply Vp;rfl;rfl;apply fnT;rfl;apply h85;rintro _ rfl)|(apply Vd;rfl;(apply ep;rfl;rfl);all_goals intro h_)|(apply ac;rfl)|apply ai|(apply bf _ (.inr rfl);(exact List.prefix_append _ _);(focus repeat (first|apply a8|(apply a9;rfl)));rfl))
  all_goals exact sm (by rw [← hin];simp [h_])
theorem jue {ds:List DV} {n:Nat} {l:List ByteArray} {s:ByteArray} (h:zq ds = some l) (hn:l.length = n) (hl:l.length ≤ 1000000000):PC 61 [.d (.sl ds n),vS s] (fun r=>r = vB (inS l s)):=by
  subst hn
  rw [ya h]
  exact jud l s hl
theorem juf (s:ByteArray):PC 60 [vS s] (fun r=>r = vB (inS BS s)):=by
  intro S T M
  refine am [] [] Tryz.func60 rfl Tryz.ntmps60 Tryz.results60 ?_
  repeat' (first|apply ab|(apply V;rfl;(first|(apply bl;rfl)|(apply bg;rfl)))|(apply Vp;rfl;rfl;apply fnT;rfl;apply ea;rfl;apply jue;rfl;rfl;decide;rintro _ rfl)|(apply Vw;rfl;(apply d8;rfl;(apply elT;rfl);(apply tyT;rfl);rfl;decide;rfl;rfl))|(apply ac;rfl)|apply ai|(apply bf _ (.inr rfl);(exact List.prefix_append _ _);(focus repeat (first|apply a8|(apply a9;rfl)));rfl))
  rfl
abbrev NC (name:ByteArray) (f:Nat) (args:Nat → List BV) (R:BV → Prop):Prop:=∀ S T M id,S[id]? = some ([vS name],9) → ci Tryz.prog [] [] f (args id) ⟨S,T,M⟩ (fun r s=>s = ⟨S,T,M⟩ ∧ R r)
theorem jx5 (c:Cl) (name:ByteArray):NC name 64 (fun id=>[.agg ((df c).map .d),.ptr id 0]) (fun r=>r = vB (decide (c.name = name))):=by
  intro S T M id hid
  refine am [] [] Tryz.func64 rfl Tryz.ntmps64 Tryz.results64 ?_
  repeat' (first|apply ab|(apply V;rfl;(first|(apply bg;rfl)|(apply cb;(apply plT;rfl);rfl;rfl;decide)|(apply bz;(apply tyT;rfl);rfl;(first|(apply at_;rfl;rfl)|(apply aa;assumption));rfl)))|(apply Vd;rfl;(apply du;rfl;rfl);all_goals intro h_)|(apply Vw;rfl;(apply cj;rfl;rfl;rfl))|(apply ac;rfl)|apply ai|(apply bf _ (.inr rfl);(exact List.prefix_append _ _);(focus repeat (first|apply a8|(apply a9;rfl)));rfl))
  all_goals exact sm (by simp [h_])
theorem jx6 (p:List Cl) (name:ByteArray) (hp:p.length ≤ 1000000):NC name 63 (fun id=>[.d (cy df p),.fn 64 [.ptr id 0]]) (fun r=>r = vI (fq p name)):=by
  intro S T M id hid
  refine am [] [] Tryz.func63 rfl Tryz.ntmps63 Tryz.results63 ?_
  repeat' (first|apply ab|(apply V;rfl;(first|(apply bl;rfl)|(apply bg;rfl)|(apply bq;(apply elT;rfl);rfl;rfl)))|(apply ac;rfl)|apply ak|apply aj)
  refine eh (fun k:Nat=>p.length - k) (fun k=>[(0,.d (cy df p)),(1,.fn 64 [.ptr id 0]),(7,vI p.length),(8,vI k)]) (fun k=>k ≤ p.length ∧ ∀(i:Nat) (c:Cl),i < k → p[i]? = some c → c.name ≠ name) 0 ⟨Nat.zero_le _,fun i c h=>by omega⟩ ⟨rfl,rfl,rfl,rfl,trivial⟩ ?_
  rintro k ⟨hk,hpre⟩
  repeat' (first|apply ab|(apply V;rfl;(first|(apply bl;rfl)|(apply bg;rfl)))|(apply Vd;rfl;(apply cu;rfl;rfl);all_goals intro h_)|(apply ac;rfl)|apply ak|apply aj|apply ah|apply bd|apply ai|(apply ae;rfl)|(apply af;rfl)|(apply bf _ (.inr rfl);(exact List.prefix_append _ _);(focus repeat (first|apply a8|(apply a9;rfl)));rfl)|apply ap|apply ey|apply bo)
  · obtain ⟨c,hc⟩:∃ c,p[k]? = some c:=⟨_,List.getElem?_eq_getElem (by omega)⟩
    have h116:=jx5 c name
    by_cases hcn:c.name = name
    · rw [decide_eq_true hcn] at h116
      repeat' (first|apply ab|(apply V;rfl;(first|(apply bl;rfl)|(apply bg;rfl)|(apply dp;(apply tyT;rfl);rfl;(first|rfl|apply ay|apply ba))|(apply bp (c:=c);apply elT;rfl;rfl;rfl;rfl;exact da;omega;simpa using hc)))|(apply Vp;rfl;rfl;apply fnT;rfl;apply h116;(first|(apply aa;assumption)|assumption);rintro _ rfl)|(apply ac;rfl)|apply ai|(apply ae;rfl)|(apply bf _ (.inr rfl);(exact List.prefix_append _ _);(focus repeat (first|apply a8|(apply a9;rfl)));rfl)|apply dm|apply aw)
      exact p5 (jfy hc hcn hpre).symm
    · rw [decide_eq_false hcn] at h116
      repeat' (first|apply ab|(apply V;rfl;(first|(apply bl;rfl)|(apply dp;(apply tyT;rfl);rfl;(first|rfl|apply ay|apply ba))|(apply az;rfl;rfl;rfl;omega)|(apply bp (c:=c);apply elT;rfl;rfl;rfl;rfl;exact da;omega;simpa using hc)))|(apply Vp;rfl;rfl;apply fnT;rfl;apply h116;(first|(apply aa;assumption)|assumption);rintro _ rfl)|(apply al;rfl)|apply ah|(apply af;rfl)|apply ap|apply cq)
      refine ⟨k + 1,by omega,⟨by omega,fun i c' hi hc'=>?_⟩,⟨rfl,rfl,rfl,di (by omega),trivial⟩,rfl⟩
      by_cases hik:i = k
      · subst hik
        obtain rfl:=Option.some.inj (hc.symm.trans hc')
        assumption
      · exact hpre i c' (by omega) hc'
  · exact p5 (zr fun i c hc=>hpre i c (by have:=(List.getElem?_eq_some_iff.1 hc).1;omega) hc).symm
theorem jqv (p:List Cl) (name:ByteArray) (hp:p.length ≤ 1000000):PC 30 [vP p,vS name] (fun r=>r = vI (fq p name)):=by
  have h115:=jx6 p name hp
  intro S T M
  refine am [] [] Tryz.func30 rfl Tryz.ntmps30 Tryz.results30 ?_
  repeat' (first|apply ab|(apply V;rfl;(first|(apply bg;rfl)|(apply cb;(apply plT;rfl);rfl;rfl;decide)|(apply bz;(apply tyT;rfl);rfl;(apply at_;rfl;rfl);rfl)|(apply jb6;rfl)))|(apply Vp;rfl;rfl;apply fnT;rfl;apply h115;(first|(apply at_;rfl;rfl)|(apply aa;assumption)|assumption);rintro _ rfl)|(apply Vw;rfl;(apply cj;rfl;rfl;rfl))|(apply ac;rfl)|apply ai|(apply bf _ (.inr rfl);(exact List.prefix_append _ _);(focus repeat (first|apply a8|(apply a9;rfl)));rfl))
  rfl
theorem jqw (p:List Cl) (a:ByteArray) (hp:p.length ≤ 1000000):PC 28 [vP p,vS a] (fun r=>r = vB (isC p a)):=by
  have h32:=juf a
  have h33:=jqv p a hp
  unfold isC
  cases hb:inS BS a
  all_goals
    rw [hb] at h32
    intro S T M
    refine am [] [] Tryz.func28 rfl Tryz.ntmps28 Tryz.results28 ?_
    repeat' (first|apply ab|(apply V;rfl;(first|(apply bl;rfl)|(apply bg;rfl)|(apply bj;(apply tyT;rfl);rfl;(apply at_;rfl;rfl);rfl)|(apply ca;rfl;rfl)|(apply bu;rfl;rfl)))|(apply Vp;rfl;rfl;apply fnT;rfl;apply h32;rintro _ rfl)|(apply Vp;rfl;rfl;apply fnT;rfl;apply h33;rintro _ rfl)|(apply Vd;rfl;(apply ep;rfl;rfl);all_goals intro h_)|(apply Vo;rfl)|(apply Vw;rfl;(apply cj;rfl;rfl;rfl))|(apply ac;rfl)|apply ai|(apply bf _ (.inr rfl);(exact List.prefix_append _ _);(focus repeat (first|apply a8|(apply a9;rfl)));rfl))
    all_goals first|exact sm rfl|exact sm (by simp [h_])
theorem jw2 (p:List Cl) (a:ByteArray) (hp:p.length ≤ 1000000):PC 62 [vP p,vS a] (fun r=>r = vS (jap p a)):=by
  have h32:=juf a
  have h33:=jqv p a hp
  unfold jap
  rcases fi p a with ⟨hf,_⟩|⟨j,hj,hf,_,_⟩
  · cases hb:inS BS a
    all_goals
      rw [hb] at h32
      rw [hf] at h33
      intro S T M
      refine am [] [] Tryz.func62 rfl Tryz.ntmps62 Tryz.results62 ?_
      repeat' (first|apply ab|(apply V;rfl;(first|(apply bl;rfl)|(apply bg;rfl)|(apply cb;(apply plT;rfl);rfl;rfl;decide)|(apply bj;(apply tyT;rfl);rfl;(apply at_;rfl;rfl);rfl)|(apply bz;(apply tyT;rfl);rfl;(apply at_;rfl;rfl);rfl)))|(apply Vp;rfl;rfl;apply fnT;rfl;apply h32;rintro _ rfl)|(apply Vp;rfl;rfl;apply fnT;rfl;apply h33;rintro _ rfl)|(apply Vd;rfl;(first|(apply cu;rfl;rfl)|(apply du;rfl;rfl));all_goals intro h_)|(apply Vw;rfl;(apply cj;rfl;rfl;rfl))|(apply ac;rfl)|apply ak|apply ah|apply ai|(apply ae;rfl)|(apply af;rfl)|(apply bf _ (.inr rfl);(exact List.prefix_append _ _);(focus repeat (first|apply a8|(apply a9;rfl)));rfl)|apply ap|apply aw|(show ew _ _ _ _ _ _;exfalso;omega))
      all_goals first|(exfalso;omega)|exact vt (by rw [if_pos rfl,if_pos (show a = EXC from h_)];rfl)|exact vt (by rw [if_pos rfl,if_neg (show ¬ a = EXC from h_)];rfl)|exact vt (by rw [if_neg (by decide),if_pos (by omega)];rfl)
  · obtain ⟨c,hc⟩:∃ c,p[j]? = some c:=⟨_,List.getElem?_eq_getElem hj⟩
    cases hb:inS BS a
    all_goals
      rw [hb] at h32
      rw [hf] at h33
      intro S T M
      refine am [] [] Tryz.func62 rfl Tryz.ntmps62 Tryz.results62 ?_
      repeat' (first|apply ab|(apply V;rfl;(first|(apply bl;rfl)|(apply bg;rfl)|(apply cb;(apply plT;rfl);rfl;rfl;decide)|(apply fz;(apply plT;rfl);rfl;rfl;decide)|(apply bj;(apply tyT;rfl);rfl;(apply at_;rfl;rfl);rfl)|(apply bz;(apply tyT;rfl);rfl;(apply at_;rfl;rfl);rfl)|(apply ef;(apply tyT;rfl);rfl;rfl)|(apply bp (c:=c);apply elT;rfl;rfl;rfl;rfl;exact da;omega;simpa using hc)))|(apply Vp;rfl;rfl;apply fnT;rfl;apply h32;rintro _ rfl)|(apply Vp;rfl;rfl;apply fnT;rfl;apply h33;rintro _ rfl)|(apply Vd;rfl;(first|(apply cu;rfl;rfl)|(apply du;rfl;rfl));all_goals intro h_)|(apply Vw;rfl;(apply cj;rfl;rfl;rfl))|(apply ac;rfl)|apply ak|apply ah|apply ai|(apply ae;rfl)|(apply af;rfl)|(apply bf _ (.inr rfl);(exact List.prefix_append _ _);(focus repeat (first|apply a8|(apply a9;rfl)));rfl)|apply ap|apply aw)
      all_goals first|(exfalso;omega)|exact vt (by rw [if_pos rfl,if_pos (show a = EXC from h_)];rfl)|exact vt (by rw [if_pos rfl,if_neg (show ¬ a = EXC from h_)];rfl)|exact vt (by rw [if_neg (by decide),if_neg (by omega),hf];unfold jb7;rw [show ((j:Int)).toNat = j from rfl,hc];rfl)
theorem jw3 (p:List Cl) (a0:ByteArray) (hp:p.length ≤ 1000000):PC 29 [vP p,vS a0] (fun r=>r = .d (cy dw (chC p a0))):=by
  intro S T M
  refine am [] [] Tryz.func29 rfl Tryz.ntmps29 Tryz.results29 ?_
  repeat' (first|apply ab|(apply V;rfl;(apply bg;rfl))|(apply Vw;rfl;(apply cj;rfl;rfl;rfl))|(apply ac;rfl)|apply ak|apply aj)
  refine gc 5 9 1 rfl rfl ?_
  refine cx (fun k:Nat × ByteArray × List ByteArray=>k.1) (fun k=>[(1,vS k.2.1),(2,.ptr (S.length + 0) 0),(5,.own 9 1 (T.length + 0) (k.2.2.flatMap dw) k.2.2.length)]) (fun k S1 T1=>k.2.2.Nodup ∧(∀ x ∈ k.2.2,isC p x = true) ∧ k.2.2.length + k.1 = p.length + 6 ∧ chG p k.1 k.2.1 k.2.2 = chC p a0 ∧ S.length ≤ S1.length ∧ T <+: T1 ∧ S1[S.length + 0]? = some ([.d (cy df p)],26) ∧ T1[T.length + 0]? = some (k.2.2.flatMap dw).length) (p.length + 6,a0,[]) ⟨by simp,by simp,by simp,rfl,by simp,by simp,at_ rfl rfl,by simp⟩ ⟨rfl,rfl,rfl,trivial⟩ ?_
  rintro ⟨n,a,acc⟩ S1 T1 ⟨hn,hs,he,hch,hS,hT,hb,hTg⟩
  dsimp only at hn hs he hch hTg ⊢
  have hlen:=jsy hn hs
  obtain ⟨m,rfl⟩:∃ m,n = m + 1:=⟨n - 1,by omega⟩
  rw [chG] at hch
  have h25:=jqw p a hp
  have h14:=jw2 p a hp
  have h54:=jud acc a (by omega)
  cases hi:isC p a
  · rw [hi] at h25 hch
    rw [if_neg (by decide)] at hch
    repeat' (first|apply ab|(apply V;rfl;(first|(apply bl;rfl)|(apply bg;rfl)|(apply bj;(apply tyT;rfl);rfl;(apply aa;assumption);rfl)|(apply bu;rfl;rfl)))|(apply Vp;rfl;rfl;apply fnT;rfl;apply h25;rintro _ rfl)|(apply Vo;rfl)|(apply ac;rfl)|apply ak|apply bd|apply ai|(apply af;rfl)|(apply bf _ (.inr rfl);(apply av;assumption);(focus repeat (first|apply a8|(apply a9;rfl)));rfl)|apply ap|apply ey|apply bo)
    rw [← hch]
    rfl
  · rw [hi] at h25 hch
    rw [if_pos rfl] at hch
    cases hin:inS acc a
    · rw [hin] at h54 hch
      rw [if_neg (by decide)] at hch
      repeat' (first|apply ab|(apply V;rfl;(first|(apply bl;rfl)|(apply bg;rfl)|(apply bj;(apply tyT;rfl);rfl;(apply aa;assumption);rfl)|(apply ca;rfl;rfl)|(apply cg;rfl)))|(apply Vp;rfl;rfl;apply fnT;rfl;apply h25;rintro _ rfl)|(apply Vp;rfl;rfl;apply fnT;rfl;apply ea;rfl;apply h54;rintro _ rfl)|(apply Vp;rfl;rfl;apply fnT;rfl;apply h14;rintro _ rfl)|(apply Vw;rfl;(first|(apply d8;rfl;(apply elT;rfl);(apply tyT;rfl);rfl;decide;rfl;rfl)|(apply mf;(apply elT;rfl);(apply tyT;rfl);(apply byT;rfl);rfl;rfl;rfl;decide;rfl;(apply ee (c:=a);omega;omega;assumption))))|(apply ac;rfl)|apply ak|(apply al;rfl)|apply aj|apply ah|(apply ae;rfl)|apply ap|apply cq)
      have hna:a ∉ acc:=sj.1 hin
      refine ⟨(m,jap p a,acc ++ [a]),_,_,by dsimp only;omega,⟨uj hn hna,fun x hx=>?_,by simp only [List.length_append,List.length_singleton];omega,hch,by simp only [List.length_append];omega,av (dc hT (by omega)),aa hb,aq (List.getElem?_eq_some_iff.1 hTg).1⟩,⟨rfl,rfl,rfl,trivial⟩,rfl⟩
      rcases List.mem_append.1 hx with h|h
      · exact hs x h
      · rw [List.mem_singleton.1 h]
        exact hi
    · rw [hin] at h54 hch
      rw [if_pos rfl] at hch
      repeat' (first|apply ab|(apply V;rfl;(first|(apply bl;rfl)|(apply bg;rfl)|(apply bj;(apply tyT;rfl);rfl;(apply aa;assumption);rfl)|(apply ca;rfl;rfl)|(apply cg;rfl)))|(apply Vp;rfl;rfl;apply fnT;rfl;apply h25;rintro _ rfl)|(apply Vp;rfl;rfl;apply fnT;rfl;apply ea;rfl;apply h54;rintro _ rfl)|(apply ac;rfl)|apply ak|apply bd|apply ai|(apply af;rfl)|(apply bf _ (.inr rfl);(apply av;assumption);(focus repeat (first|apply a8|(apply a9;rfl)));rfl)|apply ap|apply ey|apply bo)
      rw [← hch]
      rfl
theorem jx7 (p:List Cl) (a:ByteArray) (hp:p.length ≤ 1000000):PC 59 [vP p,vS a] (fun r=>r = vB (yc p a)):=by
  have h25:=jqw p a hp
  unfold yc
  cases hb:isC p a
  all_goals
    rw [hb] at h25
    intro S T M
    refine am [] [] Tryz.func59 rfl Tryz.ntmps59 Tryz.results59 ?_
    repeat' (first|apply ab|(apply V;rfl;(first|(apply bl;rfl)|(apply bg;rfl)|(apply bj;(apply tyT;rfl);rfl;(apply at_;rfl;rfl);rfl)|(apply ca;rfl;rfl)|(apply bu;rfl;rfl)))|(apply Vp;rfl;rfl;apply fnT;rfl;apply h25;rintro _ rfl)|(apply Vd;rfl;(apply du;rfl;rfl);all_goals intro h_)|(apply Vo;rfl)|(apply Vw;rfl;(apply cj;rfl;rfl;rfl))|(apply ac;rfl)|apply ai|(apply bf _ (.inr rfl);(exact List.prefix_append _ _);(focus repeat (first|apply a8|(apply a9;rfl)));rfl))
    all_goals exact sm (by simp_all)
end Go.Proofs.YtinffhimfoicdaaGreat
namespace Go.Proofs.YtinffhimfoicdaaGreat
open Go Go.RowKit Go.Proofs.YtinffhimfoicdaaGreat.Calc
set_option linter.unusedVariables false
set_option linter.unusedSimpArgs false
set_option maxRecDepth 100000
set_option maxHeartbeats 8000000
def jas (P:Program) (t:Nat):Bool:=match P.underlying t with
  | some (.interface _)=>false
  | some _=>true
  | none=>false
section
variable {P:Program} {st:St} {ρ:Rg} {x:Operand} {t u:Nat}
theorem js0 {d:DV} (hn:jas P t = true) (hx:(evB ρ x).bind toD = some d):bn P st ρ (.makeInterface t x) = some (.d (.iface t d)):=by
  unfold jas at hn
  unfold bn
  split at hn
  · cases hn
  · rename_i d' h1 h2
    simp only [h2]
    rw [hx]
    cases d' <;> first|rfl|(exfalso;exact h1 _ h2)
  · cases hn
theorem jeg {d:DV} {ag:Bool} {sz:Nat} {z:List BV} (hn:jas P t = true) (ht:pi P t = some (ag,sz,z)) (hx:evB ρ x = some (.d (.iface t d))):bn P st ρ (.typeAssert x u t true) = some (.tup [ofD d,vB true]):=by
  unfold jas at hn
  unfold bn
  split at hn
  · cases hn
  · rename_i d' h1 h2
    simp only [h2,hx,ht]
    cases d' <;> first|rfl|(exfalso;exact h1 _ h2)
  · cases hn
theorem jhk {sz:Nat} {z:List BV} (hn:jas P t = true) (ht:pi P t = some (true,sz,z)) (hx:evB ρ x = some (.d (.flat .nilIface))):bn P st ρ (.typeAssert x u t true) = some (.tup [.agg z,vB false]):=by
  unfold jas at hn
  unfold bn
  split at hn
  · cases hn
  · rename_i d' h1 h2
    simp only [h2,hx,ht]
    cases d' <;> first|rfl|(exfalso;exact h1 _ h2)
  · cases hn
end
theorem vf:jas Tryz.prog 173 = true:=by kernel_rfl
attribute [local irreducible] Tri ew er ci bn db d7 inQ jb
abbrev QC (p:List Cl) (f:Nat) (args:Nat → List BV) (R:BV → Prop):Prop:=∀ S T M id,S[id]? = some ([.d (cy df p)],26) → ci Tryz.prog [] [] f (args id) ⟨S,T,M⟩ (fun r s=>s = ⟨S,T,M⟩ ∧ R r)
def g81 (p:List Cl) (k:Nat) (c:Cl):Int:=if inS BS c.name = true ∨ fq p c.name < k then 6 else 0
def g84 (p:List Cl) (k:Nat) (c:Cl):Int:=if c.super = NIL then 0 else if isC p c.super = false then 7 else if inS (chC p c.name) (jap p (re (chC p c.name))) = true then 8 else 0
theorem jug (p:List Cl) (k:Nat) (c:Cl) (hp:p.length ≤ 1000000):QC p 126 (fun id=>[vI k,.agg ((df c).map .d),.ptr id 0]) (fun r=>r = vI (g81 p k c)):=by
  have h82:=juf c.name
  have h83:=jqv p c.name hp
  unfold g81
  cases hb:inS BS c.name
  all_goals
    rw [hb] at h82
    intro S T M id hid
    refine am [] [] Tryz.func126 rfl Tryz.ntmps126 Tryz.results126 ?_
    repeat' (first|apply ab|(apply V;rfl;(first|(apply bl;rfl)|(apply bg;rfl)|(apply cb;(apply plT;rfl);rfl;rfl;decide)|(apply bj;(apply tyT;rfl);rfl;(first|(apply at_;rfl;rfl)|(apply aa;assumption));rfl)|(apply bz;(apply tyT;rfl);rfl;(first|(apply at_;rfl;rfl)|(apply aa;assumption));rfl)|(apply ca;rfl;rfl)|(apply bu;rfl;rfl)))|(apply Vp;rfl;rfl;apply fnT;rfl;apply h82;rintro _ rfl)|(apply Vp;rfl;rfl;apply fnT;rfl;apply h83;rintro _ rfl)|(apply Vd;rfl;(apply cu;rfl;rfl);all_goals intro h_)|(apply Vo;rfl)|(apply Vw;rfl;(apply cj;rfl;rfl;rfl))|(apply ac;rfl)|apply ak|apply ah|apply ai|(apply ae;rfl)|(apply af;rfl)|(apply bf _ (.inr rfl);(exact List.prefix_append _ _);(focus repeat (first|apply a8|(apply a9;rfl)));rfl)|apply ap|apply aw)
    all_goals exact p5 (by simp_all)
theorem juh (p:List Cl) (k:Nat) (c:Cl) (hp:p.length ≤ 1000000) (hc:c ∈ p):QC p 127 (fun id=>[vI k,.agg ((df c).map .d),.ptr id 0]) (fun r=>r = vI (g84 p k c)):=by
  have h53:=jqw p c.super hp
  have h29:=jw3 p c.name hp
  have hin:isC p c.name = true:=by
    unfold isC
    rw [Bool.or_eq_true]
    exact .inr (decide_eq_true (jig hc))
  obtain ⟨U,hU⟩:=jed hin
  have hlen:=sk p c.name
  have hlast:(chC p c.name)[(((chC p c.name).length:Int) - 1).toNat]? = some (re (chC p c.name)):=by
    unfold re
    rw [show (((chC p c.name).length:Int) - 1).toNat =(chC p c.name).length - 1 by omega]
    rw [List.getElem?_eq_getElem (by rw [hU];simp)]
    rfl
  have hpos:0 <(chC p c.name).length:=by rw [hU];simp
  have h55:=jw2 p (re (chC p c.name)) hp
  have h54:=jud (chC p c.name) (jap p (re (chC p c.name))) (by omega)
  unfold g84
  generalize re (chC p c.name) = z at *
  generalize jap p z = z' at *
  cases hi:isC p c.super <;> cases hj:inS (chC p c.name) z'
  all_goals
    rw [hi] at h53
    rw [hj] at h54
    intro S T M id hid
    refine am [] [] Tryz.func127 rfl Tryz.ntmps127 Tryz.results127 ?_
    repeat' (first|apply ab|(apply V;rfl;(first|(apply bl;rfl)|(apply bg;rfl)|(apply cb;(apply plT;rfl);rfl;rfl;decide)|(apply bj;(apply tyT;rfl);rfl;(first|(apply at_;rfl;rfl)|(apply aa;assumption));rfl)|(apply bz;(apply tyT;rfl);rfl;(first|(apply at_;rfl;rfl)|(apply aa;assumption));rfl)|(apply ef;(apply tyT;rfl);rfl;rfl)|(apply bq;(apply elT;rfl);rfl;rfl)|(apply cg;rfl)|(apply ei;rfl;rfl;rfl;omega)|(apply bp (c:=z);apply elT;rfl;rfl;rfl;rfl;exact cv;omega;exact hlast)))|(apply bt (nt:=31) (.take 0 (.take 1 (.take 2 (.take 3 (.take 4 (.take 5 (.take 6 (.one 7 (.take 8 .nil))))))))) [] [];exact co;rfl;decide +kernel)|(apply Vp;rfl;rfl;apply fnT;rfl;apply h53;rintro _ rfl)|(apply Vp;rfl;rfl;apply fnT;rfl;apply h29;rintro _ rfl)|(apply oP;rfl;rfl;rfl;apply fnT;rfl;apply h55;rintro _ rfl)|(apply Vp;rfl;rfl;apply fnT;rfl;apply h54;rintro _ rfl)|(apply Vd;rfl;(apply du;rfl;rfl);all_goals intro h_)|(apply Vw;rfl;(apply cj;rfl;rfl;rfl))|(apply ac;rfl)|apply ak|apply ah|apply ai|(apply ae;rfl)|(apply af;rfl)|(apply bf _ (.inr rfl);(exact List.prefix_append _ _);(focus repeat (first|apply a8|(apply a9;rfl)));rfl)|apply ap|apply aw|apply dg|(apply tV;rfl;rfl;(first|(apply bl;rfl)|(apply bg;rfl)|(apply cb;(apply plT;rfl);rfl;rfl;decide)|(apply bj;(apply tyT;rfl);rfl;(first|(apply at_;rfl;rfl)|(apply aa;assumption));rfl)|(apply bz;(apply tyT;rfl);rfl;(first|(apply at_;rfl;rfl)|(apply aa;assumption));rfl)|(apply ef;(apply tyT;rfl);rfl;rfl)|(apply bq;(apply elT;rfl);rfl;rfl)|(apply cg;rfl)|(apply ei;rfl;rfl;rfl;omega)|(apply bp (c:=z);apply elT;rfl;rfl;rfl;rfl;exact cv;omega;exact hlast));rfl))
    all_goals exact p5 (by unfold NIL;simp_all)
def zb (g:Nat → Cl → Int):List Cl → Nat → Option (Int × Nat)
  | [],_=>none
  | c :: l,k=>if g k c ≠ 0 then some (g k c,k) else zb g l (k + 1)
def jui:Option (Int × Nat) → BV
  | none=>.d (.flat .nilIface)
  | some (e,k)=>.d (.iface 173 (.agg [dI e,dI k]))
theorem jqx (p:List Cl) (f:Nat) (g:Nat → Cl → Int) (hf:jdz Tryz.prog f = true) (hp:p.length ≤ 1000000) (h:∀(k:Nat) (c:Cl),p[k]? = some c → QC p f (fun id=>[vI k,.agg ((df c).map .d),.ptr id 0]) (fun r=>r = vI (g k c))):QC p 125 (fun id=>[vP p,.fn f [.ptr id 0]]) (fun r=>r = jui (zb g p 0)):=by
  intro S T M id hid
  refine am [] [] Tryz.func125 rfl Tryz.ntmps125 Tryz.results125 ?_
  repeat' (first|apply ab|(apply V;rfl;(first|(apply bl;rfl)|(apply bg;rfl)|(apply cb;(apply plT;rfl);rfl;rfl;decide)|(apply bz;(apply tyT;rfl);rfl;(apply at_;rfl;rfl);rfl)|(apply bq;(apply elT;rfl);rfl;rfl)))|(apply Vw;rfl;(apply cj;rfl;rfl;rfl))|(apply ac;rfl)|apply ak|apply aj)
  refine cx (fun k:Nat=>p.length - k) (fun k=>[(1,.fn f [.ptr id 0]),(9,.d (cy df p)),(10,vI p.length),(11,vI k)]) (fun k S1 T1=>k ≤ p.length ∧ S.length ≤ S1.length ∧ T <+: T1 ∧ S1[id]? = some ([.d (cy df p)],26) ∧ zb g p 0 = zb g (p.drop k) k) 0 ⟨Nat.zero_le _,by simp,by simp,by first|exact aa hid|exact hid,by rw [List.drop_zero]⟩ ⟨rfl,rfl,rfl,rfl,trivial⟩ ?_
  rintro k S1 T1 ⟨hk,hS,hT,hb,hl⟩
  repeat' (first|apply ab|(apply V;rfl;(first|(apply bl;rfl)|(apply bg;rfl)))|(apply Vd;rfl;(apply cu;rfl;rfl);all_goals intro h_)|(apply ac;rfl)|apply ak|apply aj|apply ah|apply bd|apply ai|(apply ae;rfl)|(apply af;rfl)|(apply bf _ (.inr rfl);(apply av;assumption);(focus repeat (first|apply a8|(apply a9;rfl)));rfl)|apply ap|apply ey|apply bo)
  · obtain ⟨c,hc⟩:∃ c,p[k]? = some c:=⟨_,List.getElem?_eq_getElem (by omega)⟩
    rw [jp hc,zb] at hl
    have hlaw:=h k c hc
    repeat' (first|apply ab|(apply V;rfl;(first|(apply bl;rfl)|(apply bg;rfl)|(apply bj;(apply tyT;rfl);rfl;(apply at_;rfl;rfl);rfl)|(apply dp;(apply tyT;rfl);rfl;(first|rfl|apply ay|apply ba))|(apply ed;(apply plT;rfl);rfl)|(apply az;rfl;rfl;rfl;omega)|(apply bp (c:=c);apply elT;rfl;rfl;rfl;rfl;exact da;omega;simpa using hc)|(apply js0;exact vf;rfl)))|(apply Vp;rfl;rfl;exact hf;apply hlaw;(first|(apply aa;assumption)|assumption);rintro _ rfl)|(apply Vd;rfl;(apply fb;rfl;rfl);all_goals intro h_)|(apply Vw;rfl;(apply cd;rfl;(apply tyT;rfl)))|(apply Vs;rfl;(apply bw;rfl;(apply tyT;rfl);rfl;rfl;rfl;(first|apply bc|(apply bh;omega));rfl;rfl;(first|decide|(apply Nat.le_of_ble_eq_true;rfl))))|(apply ac;rfl)|(apply al;rfl)|apply ah|apply ai|(apply ae;rfl)|(apply af;rfl)|(apply bf _ (.inr rfl);(apply av;assumption);(focus repeat (first|apply a8|(apply a9;rfl)));rfl)|apply ap|apply cq|apply dm|apply aw)
    · rw [if_pos h_] at hl
      rw [hl]
      rfl
    · rw [if_neg h_] at hl
      exact ⟨k + 1,_,_,by omega,⟨by omega,by simp only [List.length_append];omega,av hT,aa hb,hl⟩,⟨rfl,rfl,rfl,di (by omega),trivial⟩,rfl⟩
  · rw [List.drop_of_length_le (by omega),zb] at hl
    rw [hl]
    rfl
end Go.Proofs.YtinffhimfoicdaaGreat
namespace Go.Proofs.YtinffhimfoicdaaGreat
open Go Go.RowKit Go.Proofs.YtinffhimfoicdaaGreat.Calc
set_option linter.unusedVariables false
set_option linter.unusedSimpArgs false
set_option maxRecDepth 100000
set_option maxHeartbeats 8000000
attribute [local irreducible] Tri ew er ci bn db d7 inQ jb
theorem jk8 {p:List Cl} {k:Nat} {c:Cl} (hc:p[k]? = some c):0 ≤ fq p c.name ∧ fq p c.name ≤ k:=by
  obtain ⟨hk,rfl⟩:=List.getElem?_eq_some_iff.1 hc
  rcases fi p (p[k]).name with ⟨_,h⟩|⟨j,hj,h1,h2,h3⟩
  · exact absurd rfl (h _ (List.getElem_mem hk))
  · rw [h1]
    refine ⟨by omega,?_⟩
    by_cases hjk:j ≤ k
    · omega
    · exact absurd rfl (h3 k (by omega))
theorem jcp {α:Type} {p l:List α} {i:Nat} {c:α} (h:p.drop i = c :: l):p[i]? = some c ∧ p.drop (i + 1) = l:=by
  have hl:i < p.length:=by
    by_cases hl:i < p.length
    · exact hl
    · rw [List.drop_of_length_le (by omega)] at h
      cases h
  rw [List.drop_eq_getElem_cons hl] at h
  injection h with h1 h2
  exact ⟨by rw [List.getElem?_eq_getElem hl,h1],h2⟩
theorem jf3 (p:List Cl):∀(l:List Cl) (i:Nat),p.drop i = l → zb (g81 p) l i =(jar p l i).map fun i=>(6,i)
  | [],i,h=>rfl
  | c :: l,i,h=>by
    obtain ⟨hc,h'⟩:=jcp h
    have hle:=jk8 hc
    have ih:=jf3 p l (i + 1) h'
    rw [zb,jar]
    have e:(inS BS c.name = true ∨ fq p c.name < i) ↔(inS BS c.name = true ∨ fq p c.name ≠ i):=by
      constructor
      · rintro (h|h)
        · exact .inl h
        · exact .inr (by omega)
      · rintro (h|h)
        · exact .inl h
        · exact .inr (by omega)
    by_cases hq:inS BS c.name = true ∨ fq p c.name < i
    · have:g81 p i c = 6:=by unfold g81;rw [if_pos hq]
      rw [if_pos (by rw [this];decide),this,if_pos (e.1 hq)]
      rfl
    · have:g81 p i c = 0:=by unfold g81;rw [if_neg hq]
      rw [if_neg (by rw [this];decide),if_neg (fun h=>hq (e.2 h))]
      exact ih
theorem jn6 (p:List Cl) (c:Cl) (hc:c ∈ p):inS (chC p c.name) (jap p (re (chC p c.name))) = isC p (jap p (re (chC p c.name))):=by
  have hin:isC p c.name = true:=by
    unfold isC
    rw [Bool.or_eq_true]
    exact .inr (decide_eq_true (jig hc))
  obtain ⟨U,hU⟩:=jed hin
  obtain ⟨z,hw,hz,_⟩:=jaq p c.name
  rw [hw.last (by rw [hU];simp)]
  rw [Bool.eq_iff_iff,gw]
  constructor
  · intro h
    exact hw.all z h
  · intro h
    rcases hz with hz|hz
    · rw [h] at hz;cases hz
    · exact hz
theorem jf4 (p:List Cl):∀(l:List Cl) (i:Nat),p.drop i = l → zb (g84 p) l i = jf0 p l i
  | [],i,h=>rfl
  | c :: l,i,h=>by
    obtain ⟨hc,h'⟩:=jcp h
    have ih:=jf4 p l (i + 1) h'
    have hlast:=jn6 p c (List.mem_of_getElem? hc)
    rw [zb,jf0]
    by_cases h1:c.super = NIL
    · have hg:g84 p i c = 0:=by unfold g84;rw [if_pos h1]
      rw [if_neg (show ¬(g84 p i c ≠ 0) by rw [hg];decide),if_pos h1]
      exact ih
    · rw [if_neg h1]
      cases h2:isC p c.super
      · have hg:g84 p i c = 7:=by unfold g84;rw [if_neg h1,h2];rfl
        rw [if_pos (show g84 p i c ≠ 0 by rw [hg];decide),hg,if_pos rfl]
      · rw [if_neg (show ¬(true = false) by decide)]
        cases h3:isC p (jap p (re (chC p c.name)))
        · have hg:g84 p i c = 0:=by unfold g84;rw [if_neg h1,h2,hlast,h3];rfl
          rw [if_neg (show ¬(g84 p i c ≠ 0) by rw [hg];decide),if_neg (show ¬(false = true) by decide)]
          exact ih
        · have hg:g84 p i c = 8:=by unfold g84;rw [if_neg h1,h2,hlast,h3];rfl
          rw [if_pos (show g84 p i c ≠ 0 by rw [hg];decide),hg,if_pos rfl]
theorem jx8 (p:List Cl) (hp:p.length ≤ 1000000):PC 90 [vP p] (fun r=>r = .tup [vI (eg p).1,vI (eg p).2]):=by
  have ha:=jqx p 126 (g81 p) (fnT rfl) hp fun k c hc=>jug p k c hp
  have hb:=jqx p 127 (g84 p) (fnT rfl) hp fun k c hc=>juh p k c hp (List.mem_of_getElem? hc)
  rw [jf3 p p 0 rfl] at ha
  rw [jf4 p p 0 rfl] at hb
  unfold eg
  rcases h1:jar p p 0 with _|i
  · rw [h1] at ha
    rcases h2:jf0 p p 0 with _|⟨e,j⟩
    · rw [h2] at hb
      intro S T M
      refine am [] [] Tryz.func90 rfl Tryz.ntmps90 Tryz.results90 ?_
      repeat' (first|apply ab|(apply V;rfl;(first|(apply bl;rfl)|(apply bg;rfl)|(apply bj;(apply tyT;rfl);rfl;(apply at_;rfl;rfl);rfl)|(apply eu;rfl;rfl)|(apply jb6;rfl)|(apply jb6;rfl)|(apply jhk;exact vf;apply tyT;rfl;rfl)))|(apply Vp;rfl;rfl;apply fnT;rfl;apply ha;(first|(apply at_;rfl;rfl)|(apply aa;assumption)|assumption);rintro _ rfl)|(apply Vp;rfl;rfl;apply fnT;rfl;apply hb;(first|(apply at_;rfl;rfl)|(apply aa;assumption)|assumption);rintro _ rfl)|(apply Vw;rfl;(first|(apply cd;rfl;(apply tyT;rfl))|(apply cj;rfl;rfl;rfl)))|(apply Vs;rfl;(apply bw;rfl;(apply tyT;rfl);rfl;rfl;rfl;(first|apply bc|(apply bh;omega));rfl;rfl;(first|decide|(apply Nat.le_of_ble_eq_true;rfl))))|(apply ac;rfl)|apply ak|apply ah|apply ai|(apply af;rfl)|(apply bf _ (.inr rfl);(exact List.prefix_append _ _);(focus repeat (first|apply a8|(apply a9;rfl)));rfl)|apply ap)
      rfl
    · rw [h2] at hb
      intro S T M
      refine am [] [] Tryz.func90 rfl Tryz.ntmps90 Tryz.results90 ?_
      repeat' (first|apply ab|(apply V;rfl;(first|(apply bl;rfl)|(apply bg;rfl)|(apply cb;(apply plT;rfl);rfl;rfl;decide)|(apply bj;(apply tyT;rfl);rfl;(apply at_;rfl;rfl);rfl)|(apply bz;(apply tyT;rfl);rfl;(apply at_;rfl;rfl);rfl)|(apply eu;rfl;rfl)|(apply jb6;rfl)|(apply jb6;rfl)|(apply jhk;exact vf;apply tyT;rfl;rfl)|(apply jeg;exact vf;apply tyT;rfl;rfl)))|(apply bt (nt:=32) (.take 0 (.take 1 (.take 2 (.take 3 (.take 4 (.take 5 .nil)))))) [] [];exact co;rfl;decide +kernel)|(apply bt (nt:=32) (.take 0 (.take 1 (.take 2 (.take 3 (.take 4 (.take 5 .nil)))))) [] [];exact co;rfl;decide +kernel)|(apply Vp;rfl;rfl;apply fnT;rfl;apply ha;(first|(apply at_;rfl;rfl)|(apply aa;assumption)|assumption);rintro _ rfl)|(apply Vp;rfl;rfl;apply fnT;rfl;apply hb;(first|(apply at_;rfl;rfl)|(apply aa;assumption)|assumption);rintro _ rfl)|(apply Vw;rfl;(first|(apply cd;rfl;(apply tyT;rfl))|(apply cj;rfl;rfl;rfl)))|(apply Vs;rfl;(apply bw;rfl;(apply tyT;rfl);rfl;rfl;rfl;(first|apply bc|(apply bh;omega));rfl;rfl;(first|decide|(apply Nat.le_of_ble_eq_true;rfl))))|(apply ac;rfl)|apply ak|apply ah|apply ai|(apply ae;rfl)|(apply af;rfl)|(apply bf _ (.inr rfl);(exact List.prefix_append _ _);(focus repeat (first|apply a8|(apply a9;rfl)));rfl)|apply ap|apply aw|apply dg|(apply tV;rfl;rfl;(first|(apply bl;rfl)|(apply bg;rfl)|(apply cb;(apply plT;rfl);rfl;rfl;decide)|(apply bj;(apply tyT;rfl);rfl;(apply at_;rfl;rfl);rfl)|(apply bz;(apply tyT;rfl);rfl;(apply at_;rfl;rfl);rfl)|(apply eu;rfl;rfl)|(apply jb6;rfl)|(apply jb6;rfl)|(apply jhk;exact vf;apply tyT;rfl;rfl)|(apply jeg;exact vf;apply tyT;rfl;rfl));rfl))
      rfl
  · rw [h1] at ha
    intro S T M
    refine am [] [] Tryz.func90 rfl Tryz.ntmps90 Tryz.results90 ?_
    repeat' (first|apply ab|(apply V;rfl;(first|(apply bl;rfl)|(apply bg;rfl)|(apply cb;(apply plT;rfl);rfl;rfl;decide)|(apply bj;(apply tyT;rfl);rfl;(apply at_;rfl;rfl);rfl)|(apply bz;(apply tyT;rfl);rfl;(apply at_;rfl;rfl);rfl)|(apply eu;rfl;rfl)|(apply jb6;rfl)|(apply jb6;rfl)|(apply jeg;exact vf;apply tyT;rfl;rfl)))|(apply bt (nt:=32) (.take 0 (.take 1 (.take 2 (.take 3 (.take 4 (.take 5 .nil)))))) [] [];exact co;rfl;decide +kernel)|(apply bt (nt:=32) (.take 0 (.take 1 (.take 2 (.take 3 (.take 4 (.take 5 .nil)))))) [] [];exact co;rfl;decide +kernel)|(apply Vp;rfl;rfl;apply fnT;rfl;apply ha;(first|(apply at_;rfl;rfl)|(apply aa;assumption)|assumption);rintro _ rfl)|(apply Vw;rfl;(first|(apply cd;rfl;(apply tyT;rfl))|(apply cj;rfl;rfl;rfl)))|(apply Vs;rfl;(apply bw;rfl;(apply tyT;rfl);rfl;rfl;rfl;(first|apply bc|(apply bh;omega));rfl;rfl;(first|decide|(apply Nat.le_of_ble_eq_true;rfl))))|(apply ac;rfl)|apply ak|apply ai|(apply ae;rfl)|(apply bf _ (.inr rfl);(exact List.prefix_append _ _);(focus repeat (first|apply a8|(apply a9;rfl)));rfl)|apply aw|apply dg|(apply tV;rfl;rfl;(first|(apply bl;rfl)|(apply bg;rfl)|(apply cb;(apply plT;rfl);rfl;rfl;decide)|(apply bj;(apply tyT;rfl);rfl;(apply at_;rfl;rfl);rfl)|(apply bz;(apply tyT;rfl);rfl;(apply at_;rfl;rfl);rfl)|(apply eu;rfl;rfl)|(apply jb6;rfl)|(apply jb6;rfl)|(apply jeg;exact vf;apply tyT;rfl;rfl));rfl))
    rfl
end Go.Proofs.YtinffhimfoicdaaGreat
namespace Go.Proofs.YtinffhimfoicdaaGreat
open Go Go.RowKit Go.Proofs.YtinffhimfoicdaaGreat.Calc
set_option linter.unusedVariables false
set_option linter.unusedSimpArgs false
set_option maxRecDepth 100000
set_option maxHeartbeats 8000000
attribute [local irreducible] Tri ew er ci bn db d7 inQ jb
theorem jn7:jas Tryz.prog 37 = true:=by kernel_rfl
theorem jx9 (p:List Cl) (hp:p.length ≤ 1000000):PC 57 [vP p] (fun r=>r = vB (decide ((eg p).1 = 0))):=by
  have h49:=jx8 p hp
  generalize eg p = r at *
  obtain ⟨e,i⟩:=r
  dsimp only at *
  intro S T M
  refine am [] [] Tryz.func57 rfl Tryz.ntmps57 Tryz.results57 ?_
  repeat' (first|apply ab|(apply V;rfl;(first|(apply bl;rfl)|(apply bg;rfl)|(apply bj;(apply tyT;rfl);rfl;(apply at_;rfl;rfl);rfl)|(apply eu;rfl;rfl)))|(apply Vp;rfl;rfl;apply fnT;rfl;apply h49;rintro _ rfl)|(apply Vd;rfl;(apply dq;rfl;rfl);all_goals intro h_)|(apply Vw;rfl;(apply cj;rfl;rfl;rfl))|(apply ac;rfl)|apply ai|(apply bf _ (.inr rfl);(exact List.prefix_append _ _);(focus repeat (first|apply a8|(apply a9;rfl)));rfl))
  all_goals exact sm (by simp [h_])
def juj (p:List Cl) (a:ByteArray):BV:=if 0 ≤ fq p a then .d (.iface 37 (.agg (df (jb7 p (fq p a))))) else .d (.flat .nilIface)
theorem juk (p:List Cl) (a:ByteArray) (hp:p.length ≤ 1000000):PC 128 [vP p,vS a] (fun r=>r = juj p a):=by
  have h83:=jqv p a hp
  unfold juj
  rcases fi p a with ⟨hf,_⟩|⟨j,hj,hf,_,_⟩
  · rw [hf] at h83 ⊢
    intro S T M
    refine am [] [] Tryz.func128 rfl Tryz.ntmps128 Tryz.results128 ?_
    repeat' (first|apply ab|(apply V;rfl;(first|(apply bl;rfl)|(apply bg;rfl)|(apply cb;(apply plT;rfl);rfl;rfl;decide)|(apply bj;(apply tyT;rfl);rfl;(apply at_;rfl;rfl);rfl)|(apply bz;(apply tyT;rfl);rfl;(apply at_;rfl;rfl);rfl)))|(apply Vp;rfl;rfl;apply fnT;rfl;apply h83;rintro _ rfl)|(apply Vd;rfl;(apply ep;rfl;rfl);all_goals intro h_)|(apply Vw;rfl;(apply cj;rfl;rfl;rfl))|(apply ac;rfl)|apply ak|apply ah|apply ai|(apply ae;rfl)|(apply af;rfl)|(apply bf _ (.inr rfl);(exact List.prefix_append _ _);(focus repeat (first|apply a8|(apply a9;rfl)));rfl)|apply ap|(show ew _ _ _ _ _ _;exfalso;omega))
    all_goals first|(exfalso;omega)|(rw [if_neg (by decide)];rfl)
  · obtain ⟨c,hc⟩:∃ c,p[j]? = some c:=⟨_,List.getElem?_eq_getElem hj⟩
    rw [hf] at h83 ⊢
    rw [if_pos (by omega)]
    have hcl:jb7 p (j:Int) = c:=by
      unfold jb7
      rw [show ((j:Int)).toNat = j from rfl,hc]
      rfl
    rw [hcl]
    intro S T M
    refine am [] [] Tryz.func128 rfl Tryz.ntmps128 Tryz.results128 ?_
    repeat' (first|apply ab|(apply V;rfl;(first|(apply bl;rfl)|(apply bg;rfl)|(apply cb;(apply plT;rfl);rfl;rfl;decide)|(apply bj;(apply tyT;rfl);rfl;(apply at_;rfl;rfl);rfl)|(apply bz;(apply tyT;rfl);rfl;(apply at_;rfl;rfl);rfl)|(apply dp;(apply tyT;rfl);rfl;(first|rfl|apply ay|apply ba))|(apply bp (c:=c);apply elT;rfl;rfl;rfl;rfl;exact da;omega;simpa using hc)|(apply js0;exact jn7;rfl)))|(apply Vp;rfl;rfl;apply fnT;rfl;apply h83;rintro _ rfl)|(apply Vd;rfl;(apply ep;rfl;rfl);all_goals intro h_)|(apply Vw;rfl;(apply cj;rfl;rfl;rfl))|(apply ac;rfl)|apply ak|apply ah|apply ai|(apply ae;rfl)|(apply af;rfl)|(apply bf _ (.inr rfl);(exact List.prefix_append _ _);(focus repeat (first|apply a8|(apply a9;rfl)));rfl)|apply ap|apply aw)
    all_goals first|(exfalso;omega)|rfl
theorem jya (p:List Cl) (a:ByteArray) (hp:p.length ≤ 1000000):PC 92 [vP p,vS a] (fun r=>r = .d (cy je (dy p a).fields)):=by
  have h56:=juk p a hp
  unfold juj at h56
  unfold dy
  by_cases h0:0 ≤ fq p a
  · rw [if_pos h0] at h56 ⊢
    generalize jb7 p (fq p a) = c at *
    obtain ⟨cn,csup,cf,cm⟩:=c
    intro S T M
    refine am [] [] Tryz.func92 rfl Tryz.ntmps92 Tryz.results92 ?_
    repeat' (first|apply ab|(apply V;rfl;(first|(apply bl;rfl)|(apply bg;rfl)|(apply cb;(apply plT;rfl);rfl;rfl;decide)|(apply bj;(apply tyT;rfl);rfl;(apply at_;rfl;rfl);rfl)|(apply bz;(apply tyT;rfl);rfl;(apply at_;rfl;rfl);rfl)|(apply eu;rfl;rfl)|(apply cg;rfl)|(apply jeg;exact jn7;apply tyT;rfl;rfl)))|(apply Vp;rfl;rfl;apply fnT;rfl;apply h56;rintro _ rfl)|(apply Vw;rfl;(first|(apply cd;rfl;(apply tyT;rfl))|(apply cj;rfl;rfl;rfl)))|(apply Vs;rfl;(apply bw;rfl;(apply tyT;rfl);rfl;rfl;rfl;(first|apply bc|(apply bh;omega));rfl;rfl;(first|decide|(apply Nat.le_of_ble_eq_true;rfl))))|(apply ac;rfl)|apply ak|apply ah|apply ai|(apply af;rfl)|(apply bf _ (.inr rfl);(exact List.prefix_append _ _);(focus repeat (first|apply a8|(apply a9;rfl)));rfl)|apply ap)
    rfl
  · rw [if_neg h0] at h56 ⊢
    intro S T M
    refine am [] [] Tryz.func92 rfl Tryz.ntmps92 Tryz.results92 ?_
    repeat' (first|apply ab|(apply V;rfl;(first|(apply bl;rfl)|(apply bg;rfl)|(apply bj;(apply tyT;rfl);rfl;(apply at_;rfl;rfl);rfl)|(apply eu;rfl;rfl)|(apply cg;rfl)|(apply jhk;exact jn7;apply tyT;rfl;rfl)))|(apply Vp;rfl;rfl;apply fnT;rfl;apply h56;rintro _ rfl)|(apply Vw;rfl;(first|(apply cd;rfl;(apply tyT;rfl))|(apply cj;rfl;rfl;rfl)))|(apply Vs;rfl;(apply bw;rfl;(apply tyT;rfl);rfl;rfl;rfl;(first|apply bc|(apply bh;omega));rfl;rfl;(first|decide|(apply Nat.le_of_ble_eq_true;rfl))))|(apply ac;rfl)|apply ak|apply ai|(apply ae;rfl)|(apply bf _ (.inr rfl);(exact List.prefix_append _ _);(focus repeat (first|apply a8|(apply a9;rfl)));rfl)|apply aw)
    rfl
theorem jyb (c:Fi) (name:ByteArray):NC name 93 (fun id=>[.agg ((je c).map .d),.ptr id 0]) (fun r=>r = vB (decide (c.name = name))):=by
  intro S T M id hid
  refine am [] [] Tryz.func93 rfl Tryz.ntmps93 Tryz.results93 ?_
  repeat' (first|apply ab|(apply V;rfl;(first|(apply bg;rfl)|(apply cb;(apply plT;rfl);rfl;rfl;decide)|(apply bz;(apply tyT;rfl);rfl;(first|(apply at_;rfl;rfl)|(apply aa;assumption));rfl)))|(apply Vd;rfl;(apply du;rfl;rfl);all_goals intro h_)|(apply Vw;rfl;(apply cj;rfl;rfl;rfl))|(apply ac;rfl)|apply ai|(apply bf _ (.inr rfl);(exact List.prefix_append _ _);(focus repeat (first|apply a8|(apply a9;rfl)));rfl))
  all_goals exact sm (by simp [h_])
theorem jyc (l:List Fi) (name:ByteArray) (hl:l.length ≤ 1000000):NC name 91 (fun id=>[.d (cy je l),.fn 93 [.ptr id 0]]) (fun r=>r = vI (jee l name)):=by
  intro S T M id hid
  refine am [] [] Tryz.func91 rfl Tryz.ntmps91 Tryz.results91 ?_
  repeat' (first|apply ab|(apply V;rfl;(first|(apply bl;rfl)|(apply bg;rfl)|(apply bq;(apply elT;rfl);rfl;rfl)))|(apply ac;rfl)|apply ak|apply aj)
  refine eh (fun k:Nat=>l.length - k) (fun k=>[(0,.d (cy je l)),(1,.fn 93 [.ptr id 0]),(7,vI l.length),(8,vI k)]) (fun k=>k ≤ l.length ∧ ∀(i:Nat) (c:Fi),i < k → l[i]? = some c → c.name ≠ name) 0 ⟨Nat.zero_le _,fun i c h=>by omega⟩ ⟨rfl,rfl,rfl,rfl,trivial⟩ ?_
  rintro k ⟨hk,hpre⟩
  repeat' (first|apply ab|(apply V;rfl;(first|(apply bl;rfl)|(apply bg;rfl)))|(apply Vd;rfl;(apply cu;rfl;rfl);all_goals intro h_)|(apply ac;rfl)|apply ak|apply aj|apply ah|apply bd|apply ai|(apply ae;rfl)|(apply af;rfl)|(apply bf _ (.inr rfl);(exact List.prefix_append _ _);(focus repeat (first|apply a8|(apply a9;rfl)));rfl)|apply ap|apply ey|apply bo)
  · obtain ⟨c,hc⟩:∃ c,l[k]? = some c:=⟨_,List.getElem?_eq_getElem (by omega)⟩
    have h51:=jyb c name
    by_cases hcn:c.name = name
    · rw [decide_eq_true hcn] at h51
      repeat' (first|apply ab|(apply V;rfl;(first|(apply bl;rfl)|(apply bg;rfl)|(apply dp;(apply tyT;rfl);rfl;(first|rfl|apply ay|apply ba))|(apply bp (c:=c);apply elT;rfl;rfl;rfl;rfl;exact dx;omega;simpa using hc)))|(apply Vp;rfl;rfl;apply fnT;rfl;apply h51;(first|(apply aa;assumption)|assumption);rintro _ rfl)|(apply ac;rfl)|apply ai|(apply ae;rfl)|(apply bf _ (.inr rfl);(exact List.prefix_append _ _);(focus repeat (first|apply a8|(apply a9;rfl)));rfl)|apply dm|apply aw)
      exact p5 (jf2 hc hcn hpre).symm
    · rw [decide_eq_false hcn] at h51
      repeat' (first|apply ab|(apply V;rfl;(first|(apply bl;rfl)|(apply dp;(apply tyT;rfl);rfl;(first|rfl|apply ay|apply ba))|(apply az;rfl;rfl;rfl;omega)|(apply bp (c:=c);apply elT;rfl;rfl;rfl;rfl;exact dx;omega;simpa using hc)))|(apply Vp;rfl;rfl;apply fnT;rfl;apply h51;(first|(apply aa;assumption)|assumption);rintro _ rfl)|(apply al;rfl)|apply ah|(apply af;rfl)|apply ap|apply cq)
      refine ⟨k + 1,by omega,⟨by omega,fun i c' hi hc'=>?_⟩,⟨rfl,rfl,rfl,di (by omega),trivial⟩,rfl⟩
      by_cases hik:i = k
      · subst hik
        obtain rfl:=Option.some.inj (hc.symm.trans hc')
        assumption
      · exact hpre i c' (by omega) hc'
  · exact p5 (zt fun i c hc=>hpre i c (by have:=(List.getElem?_eq_some_iff.1 hc).1;omega) hc).symm
theorem jyd (p:List Cl) (a name:ByteArray) (hp:rf p):PC 58 [vP p,vS a,vS name] (fun r=>r = vI (jk4 p a name)):=by
  have h31:=jya p a hp.1
  have h50:=jyc (dy p a).fields name (ve hp a)
  unfold jk4
  intro S T M
  refine am [] [] Tryz.func58 rfl Tryz.ntmps58 Tryz.results58 ?_
  repeat' (first|apply ab|(apply V;rfl;(first|(apply bl;rfl)|(apply bg;rfl)|(apply bj;(apply tyT;rfl);rfl;(apply at_;rfl;rfl);rfl)|(apply jb6;rfl)))|(apply Vp;rfl;rfl;apply fnT;rfl;apply h31;rintro _ rfl)|(apply Vp;rfl;rfl;apply fnT;rfl;apply h50;(first|(apply at_;rfl;rfl)|(apply aa;assumption)|assumption);rintro _ rfl)|(apply Vw;rfl;(apply cj;rfl;rfl;rfl))|(apply ac;rfl)|apply ai|(apply bf _ (.inr rfl);(exact List.prefix_append _ _);(focus repeat (first|apply a8|(apply a9;rfl)));rfl))
  rfl
theorem sq {p:List Cl}:∀ {l:List Cl} {i:Nat},jar p l i = none → ∀(j:Nat) (c:Cl),l[j]? = some c → fq p c.name =((i + j:Nat):Int)
  | [],i,h,j,c,hc=>by simp at hc
  | x :: l,i,h,j,c,hc=>by
    rw [jar] at h
    by_cases hq:inS BS x.name = true ∨ fq p x.name ≠ i
    · rw [if_pos hq] at h;cases h
    · rw [if_neg hq] at h
      cases j with
      | zero =>
        obtain rfl:x = c:=by simpa using hc
        have h2:¬ fq p x.name ≠ i:=fun h3=>hq (.inr h3)
        simpa using h2
      | succ j =>
        have:=sq h j c (by simpa using hc)
        rw [this]
        omega
theorem yd {p:List Cl} (h:(eg p).1 = 0) {k:Nat} {c:Cl} (hc:p[k]? = some c):dy p c.name = c:=by
  have h1:jar p p 0 = none:=by
    unfold eg at h
    rcases h1:jar p p 0 with _|i
    · rfl
    · rw [h1] at h;exact absurd h (show ¬(6:Int) = 0 by decide)
  have h2:=sq h1 k c hc
  unfold dy
  rw [h2,if_pos (by omega)]
  unfold jb7
  rw [show (((0 + k:Nat):Int)).toNat = k by omega,hc]
  rfl
theorem jqy {p:List Cl} (h:(eg p).1 = 0) {k j:Nat} {c:Cl} {f:Fi} (hc:p[k]? = some c) (hf:c.fields[j]? = some f):jk4 p c.name f.name ≤ j:=by
  unfold jk4
  rw [yd h hc]
  obtain ⟨hj,rfl⟩:=List.getElem?_eq_some_iff.1 hf
  rcases uk c.fields (c.fields[j]).name with ⟨h1,_⟩|⟨i,hi,h1,h2,h3⟩
  · omega
  · rw [h1]
    by_cases hij:i ≤ j
    · omega
    · exact absurd rfl (h3 j (by omega))
theorem jye (p:List Cl) (hp:rf p):PC 27 [vP p] (fun r=>r = .tup [vI (ji p).1,vI (ji p).2]):=by
  have h19:=jx9 p hp.1
  have hp1:=hp.1
  unfold ji
  by_cases he:(eg p).1 = 0
  case neg =>
    rw [if_pos he]
    rw [decide_eq_false he] at h19
    intro S T M
    refine am [] [] Tryz.func27 rfl Tryz.ntmps27 Tryz.results27 ?_
    repeat' (first|apply ab|(apply V;rfl;(first|(apply bg;rfl)|(apply bj;(apply tyT;rfl);rfl;(apply at_;rfl;rfl);rfl)|(apply cg;rfl)))|(apply Vp;rfl;rfl;apply fnT;rfl;apply h19;rintro _ rfl)|(apply Vw;rfl;(apply cj;rfl;rfl;rfl))|(apply ac;rfl)|apply ak|apply ai|(apply ae;rfl)|(apply bf _ (.inr rfl);(exact List.prefix_append _ _);(focus repeat (first|apply a8|(apply a9;rfl)));rfl)|apply aw)
    rfl
  rw [if_neg (fun h=>h he)]
  rw [decide_eq_true he] at h19
  intro S T M
  refine am [] [] Tryz.func27 rfl Tryz.ntmps27 Tryz.results27 ?_
  repeat' (first|apply ab|(apply V;rfl;(first|(apply bl;rfl)|(apply bg;rfl)|(apply cb;(apply plT;rfl);rfl;rfl;decide)|(apply bj;(apply tyT;rfl);rfl;(apply at_;rfl;rfl);rfl)|(apply bz;(apply tyT;rfl);rfl;(apply at_;rfl;rfl);rfl)|(apply bq;(apply elT;rfl);rfl;rfl)|(apply cg;rfl)))|(apply Vp;rfl;rfl;apply fnT;rfl;apply h19;rintro _ rfl)|(apply Vw;rfl;(apply cj;rfl;rfl;rfl))|(apply ac;rfl)|apply ak|apply aj|apply ah|(apply af;rfl)|apply ap)
  refine cx (fun k:Nat=>p.length - k) (fun k=>[(1,.ptr (S.length + 0) 0),(14,.d (cy df p)),(15,vI p.length),(16,vI k)]) (fun k S1 T1=>k ≤ p.length ∧ S.length ≤ S1.length ∧ T <+: T1 ∧ S1[S.length + 0]? = some ([.d (cy df p)],26) ∧ jf1 p p 0 = jf1 p (p.drop k) k) 0 ⟨Nat.zero_le _,by simp,by simp,at_ rfl rfl,by rw [List.drop_zero]⟩ ⟨rfl,rfl,rfl,rfl,trivial⟩ ?_
  rintro k S1 T1 ⟨hk,hS,hT,hb,hch⟩
  repeat' (first|apply ab|(apply V;rfl;(first|(apply bl;rfl)|(apply bg;rfl)))|(apply Vd;rfl;(apply cu;rfl;rfl);all_goals intro h_)|(apply ac;rfl)|apply ak|apply aj|apply ah|apply bd|apply ai|(apply ae;rfl)|(apply af;rfl)|(apply bf _ (.inr rfl);(apply av;assumption);(focus repeat (first|apply a8|(apply a9;rfl)));rfl)|apply ap|apply ey|apply bo)
  · obtain ⟨c,hc⟩:∃ c,p[k]? = some c:=⟨_,List.getElem?_eq_getElem (by omega)⟩
    rw [jp hc,jf1] at hch
    have hfl:=hp.2 c (List.mem_of_getElem? hc)
    have hcl:=yd he hc
    repeat' (first|apply ab|(apply V;rfl;(first|(apply bl;rfl)|(apply bg;rfl)|(apply cb;(apply plT;rfl);rfl;rfl;decide)|(apply bz;(apply tyT;rfl);rfl;(apply at_;rfl;rfl);rfl)|(apply dp;(apply tyT;rfl);rfl;(first|rfl|apply ay|apply ba))|(apply bq;(apply elT;rfl);rfl;rfl)|(apply bp (c:=c);apply elT;rfl;rfl;rfl;rfl;exact da;omega;simpa using hc)))|(apply Vw;rfl;(apply cd;rfl;(apply tyT;rfl)))|(apply Vs;rfl;(apply bw;rfl;(apply tyT;rfl);rfl;rfl;rfl;(first|apply bc|(apply bh;omega));rfl;rfl;(first|decide|(apply Nat.le_of_ble_eq_true;rfl))))|(apply ac;rfl)|apply ak|apply aj)
    refine cx (fun j:Nat=>c.fields.length - j) (fun j=>[(1,.ptr (S.length + 0) 0),(4,vI k),(5,.ptr (S1.length + 0) 0),(14,.d (cy df p)),(15,vI p.length),(16,vI k),(22,.d (cy je c.fields)),(23,vI c.fields.length),(24,vI j)]) (fun j S2 T2=>j ≤ c.fields.length ∧ S1.length ≤ S2.length ∧ T <+: T2 ∧ S2[S.length + 0]? = some ([.d (cy df p)],26) ∧ S2[S1.length + 0]? = some ((df c).map .d,37) ∧ y9 p c.name c.fields 0 = y9 p c.name (c.fields.drop j) j) 0 ⟨Nat.zero_le _,by simp,av hT,aa hb,at_ rfl rfl,by rw [List.drop_zero]⟩ ⟨rfl,rfl,rfl,rfl,rfl,rfl,rfl,rfl,rfl,trivial⟩ ?_
    rintro j S2 T2 ⟨hj,hS2,hT2,hb2,hcb,hc1⟩
    repeat' (first|apply ab|(apply V;rfl;(first|(apply bl;rfl)|(apply cb;(apply plT;rfl);rfl;rfl;decide)|(apply bz;(apply tyT;rfl);rfl;(apply aa;assumption);rfl)|(apply bq;(apply elT;rfl);rfl;rfl)))|(apply Vd;rfl;(apply cu;rfl;rfl);all_goals intro h_)|(apply ac;rfl)|apply ak|apply aj|apply ah|apply bd|(apply ae;rfl)|(apply af;rfl)|apply ap|apply ey|apply bo)
    · obtain ⟨f,hf⟩:∃ f,c.fields[j]? = some f:=⟨_,List.getElem?_eq_getElem (by omega)⟩
      rw [jp hf,y9] at hc1
      have h21:=jyd p c.name f.name hp
      have hle:=jqy he hc hf
      repeat' (first|apply ab|(apply V;rfl;(first|(apply bl;rfl)|(apply bg;rfl)|(apply cb;(apply plT;rfl);rfl;rfl;decide)|(apply bj;(apply tyT;rfl);rfl;(first|(apply at_;rfl;rfl)|(apply aa;assumption));rfl)|(apply bz;(apply tyT;rfl);rfl;(first|(apply at_;rfl;rfl)|(apply aa;assumption));rfl)|(apply dp;(apply tyT;rfl);rfl;(first|rfl|apply ay|apply ba))|(apply az;rfl;rfl;rfl;omega)|(apply bp (c:=f);apply elT;rfl;rfl;rfl;rfl;exact dx;omega;simpa using hf)))|(apply Vp;rfl;rfl;apply fnT;rfl;apply h21;rintro _ rfl)|(apply Vd;rfl;(apply cu;rfl;rfl);all_goals intro h_)|(apply Vw;rfl;(apply cd;rfl;(apply tyT;rfl)))|(apply Vs;rfl;(apply bw;rfl;(apply tyT;rfl);rfl;rfl;rfl;(first|apply bc|(apply bh;omega));rfl;rfl;(first|decide|(apply Nat.le_of_ble_eq_true;rfl))))|(apply ac;rfl)|(apply al;rfl)|apply ah|apply ai|(apply ae;rfl)|(apply af;rfl)|(apply bf _ (.inr rfl);(apply av;assumption);(focus repeat (first|apply a8|(apply a9;rfl)));rfl)|apply ap|apply cq|apply dm|apply aw)
      · rw [if_pos (show jk4 p c.name f.name ≠ j by omega)] at hc1
        rw [if_pos hc1] at hch
        rw [hch]
        rfl
      · rw [if_neg (show ¬ jk4 p c.name f.name ≠ j by omega)] at hc1
        exact ⟨j + 1,_,_,by omega,⟨by omega,by simp only [List.length_append];omega,av hT2,aa hb2,aa hcb,hc1⟩,⟨rfl,rfl,rfl,rfl,rfl,rfl,rfl,rfl,di (by omega),trivial⟩,rfl⟩
    · rw [List.drop_of_length_le (by omega),y9] at hc1
      rw [if_neg (by rw [hc1];decide)] at hch
      clear hc1
      refine cx (fun j:Nat=>c.fields.length - j) (fun j=>[(1,.ptr (S.length + 0) 0),(4,vI k),(14,.d (cy df p)),(15,vI p.length),(16,vI k),(40,.d (cy je c.fields)),(41,vI c.fields.length),(42,vI j)]) (fun j S3 T3=>j ≤ c.fields.length ∧ S1.length ≤ S3.length ∧ T <+: T3 ∧ S3[S.length + 0]? = some ([.d (cy df p)],26) ∧ za p c.fields = za p (c.fields.drop j)) 0 ⟨Nat.zero_le _,by simpa using hS2,av hT2,aa hb2,by rw [List.drop_zero]⟩ ⟨rfl,rfl,rfl,rfl,rfl,rfl,rfl,rfl,trivial⟩ ?_
      clear hj hS2 hT2 hb2 hcb
      rintro j S3 T3 ⟨hj,hS3,hT3,hb3,hc2⟩
      repeat' (first|apply ab|(apply V;rfl;(first|(apply bl;rfl)|(apply az;rfl;rfl;rfl;omega)))|(apply Vd;rfl;(apply cu;rfl;rfl);all_goals intro h_)|(apply ac;rfl)|apply ak|(apply al;rfl)|apply aj|apply ah|apply bd|(apply ae;rfl)|(apply af;rfl)|apply ap|apply ey|apply cq|apply bo)
      · obtain ⟨f,hf⟩:∃ f,c.fields[j]? = some f:=⟨_,List.getElem?_eq_getElem (by omega)⟩
        rw [jp hf,za] at hc2
        have h52:=jx7 p f.typ hp1
        cases ht:yc p f.typ
        all_goals
          rw [ht] at h52 hc2
          repeat' (first|apply ab|(apply V;rfl;(first|(apply bl;rfl)|(apply bg;rfl)|(apply cb;(apply plT;rfl);rfl;rfl;decide)|(apply bj;(apply tyT;rfl);rfl;(first|(apply at_;rfl;rfl)|(apply aa;assumption));rfl)|(apply bz;(apply tyT;rfl);rfl;(first|(apply at_;rfl;rfl)|(apply aa;assumption));rfl)|(apply dp;(apply tyT;rfl);rfl;(first|rfl|apply ay|apply ba))|(apply cg;rfl)|(apply az;rfl;rfl;rfl;omega)|(apply bp (c:=f);apply elT;rfl;rfl;rfl;rfl;exact dx;omega;simpa using hf)))|(apply Vp;rfl;rfl;apply fnT;rfl;apply h52;rintro _ rfl)|(apply Vw;rfl;(apply cd;rfl;(apply tyT;rfl)))|(apply Vs;rfl;(apply bw;rfl;(apply tyT;rfl);rfl;rfl;rfl;(first|apply bc|(apply bh;omega));rfl;rfl;(first|decide|(apply Nat.le_of_ble_eq_true;rfl))))|(apply ac;rfl)|(apply al;rfl)|apply ah|apply ai|(apply ae;rfl)|(apply af;rfl)|(apply bf _ (.inr rfl);(apply av;assumption);(focus repeat (first|apply a8|(apply a9;rfl)));rfl)|apply ap|apply cq|apply dm|apply aw)
        · rw [if_neg (by decide)] at hc2
          rw [if_pos hc2] at hch
          rw [hch]
          rfl
        · rw [if_pos rfl] at hc2
          exact ⟨j + 1,_,_,by omega,⟨by omega,by simp only [List.length_append];omega,av hT3,aa hb3,hc2⟩,⟨rfl,rfl,rfl,rfl,rfl,rfl,rfl,di (by omega),trivial⟩,rfl⟩
      · rw [List.drop_of_length_le (by omega),za] at hc2
        rw [if_neg (by rw [hc2];decide)] at hch
        exact ⟨k + 1,_,_,by omega,⟨by omega,by simp only [List.length_append];omega,av hT3,aa hb3,hch⟩,⟨rfl,rfl,rfl,di (by omega),trivial⟩,rfl⟩
  · rw [List.drop_of_length_le (by omega),jf1] at hch
    rw [hch]
    rfl
end Go.Proofs.YtinffhimfoicdaaGreat
