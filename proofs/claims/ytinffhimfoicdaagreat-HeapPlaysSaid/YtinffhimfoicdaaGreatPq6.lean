/- Texts of the claim, merged: TC, TD, TE, TF, TG, TH. No conditions. -/
import Derived.Test.YtinffhimfoicdaaGreatPq4
namespace Go.Proofs.YtinffhimfoicdaaGreat
open Go Go.RowKit Go.Proofs.YtinffhimfoicdaaGreat.Calc
set_option linter.unusedVariables false
set_option linter.unusedSimpArgs false
set_option maxRecDepth 100000
set_option maxHeartbeats 8000000
theorem n8 {P:Program} {st:St} {ρ:Rg} {x y:Operand} {t ty:Nat} {k:IntKind} {a:Int} (hx:fl ρ x = some (.int k a)) (hy:fl ρ y = some (.int k a)):bn P st ρ (.binOp .eql t x y ty) = some (vB true):=by
  rw [dq hx hy,decide_eq_true rfl]
theorem qn {P:Program} {st:St} {ρ:Rg} {x y:Operand} {t ty:Nat} {k:IntKind} {a b:Int} (hx:fl ρ x = some (.int k a)) (hy:fl ρ y = some (.int k b)) (h:decide (a = b) = false):bn P st ρ (.binOp .eql t x y ty) = some (vB false):=by
  rw [dq hx hy,h]
theorem ji6 (p:List Cl) (a:ByteArray) (hp:Sz p):PC 96 [vP p,vS a] (fun r=>∃ s,r = vS s):=fun S T M=>dz (jub p a (ec hp) S T M) fun r st ⟨h1,h2⟩=>⟨h1,_,h2⟩
theorem jra {P:Program} {st:St} {ρ:Rg} {x:Operand} {t e:Nat} {c:ByteArray} {l:List ByteArray} {lo:Operand} (he:u9 P t = some (e,1)) (hx:evB ρ x = some (.d (cy dw (c :: l)))) (hl:jfr ρ (some lo) 0 = some 1) :
    bn P st ρ (.slice t x (some lo) none none) = some (.d (cy dw l)):=by
  rw [jt0 (l:=1) (h:=l.length + 1) (cs:=(c :: l).flatMap dw) (n:=l.length + 1) he hx rfl (by intro v h;cases h) hl rfl (by omega) (Nat.le_refl _)]
  have e1:(l.flatMap dw).length = l.length:=by rw [ma (k:=1) (fun _=>rfl),Nat.mul_one]
  have e2:((c :: l).flatMap dw).drop (1 * 1) = l.flatMap dw:=rfl
  rw [e2,Nat.add_sub_cancel,Nat.mul_one,List.take_of_length_le (Nat.le_of_eq e1)]
attribute [local irreducible] Tri ew er ci bn db d7 inQ jb
abbrev vSc (cls:ByteArray) (st:Bool) (vs:List Pa):BV:=.agg [vS cls,vB st,.d (cy gk vs)]
abbrev vXp (k n:Int) (t na ty:ByteArray) (cs:List DV) (m:Nat) (o:ByteArray) (h:Int):BV:=.agg [vI k,.d (dN n),vS t,vS na,vS ty,.d (.sl cs m),vS o,vI h]
abbrev jvf (r:BV):Prop:=∃(t:ByteArray) (f:Int),r = .tup [vS t,vI f]
abbrev jxa (r:BV):Prop:=∃(t o:ByteArray) (n f:Int),r = .tup [vS t,vTw o n,vI f]
abbrev jvg (r:BV):Prop:=∃(k n:Int) (t na ty:ByteArray) (cs:List DV) (m:Nat) (o:ByteArray) (h:Int) (tt:ByteArray) (f:Int),r = .tup [vXp k n t na ty cs m o h,vS tt,vI f]
theorem jom (cls:ByteArray) (st:Bool) (vs:List Pa) (nm:ByteArray) (hv:vs.length ≤ 4000000):PC 156 [vSc cls st vs,vS nm] (fun r=>∃ s,r = vS s):=by
  intro S T M
  refine am [] [] Tryz.func156 rfl Tryz.ntmps156 Tryz.results156 ?_
  repeat' (first|apply ab|(apply V;rfl;(first|(apply bg;rfl)|(apply cb;(apply plT;rfl);rfl;rfl;decide)|(apply bz;(apply tyT;rfl);rfl;(apply at_;rfl;rfl);rfl)|(apply bq;(apply elT;rfl);rfl;rfl)|(apply ei;rfl;rfl;rfl;omega)))|(apply Vw;rfl;(apply cj;rfl;rfl;rfl))|(apply ac;rfl)|apply ak|apply aj)
  refine eh (fun k:Nat=>k) (fun k=>[(1,vS nm),(2,.ptr (S.length + 0) 0),(5,vI ((k:Int) - 1))]) (fun k=>k ≤ vs.length) vs.length (Nat.le_refl _) ⟨rfl,rfl,rfl,trivial⟩ ?_
  rintro k hk
  repeat' (first|apply ab|(apply V;rfl;(first|(apply bl;rfl)|(apply bg;rfl)|(apply cb;(apply plT;rfl);rfl;rfl;decide)|(apply bz;(apply tyT;rfl);rfl;(apply at_;rfl;rfl);rfl)))|(apply Vd;rfl;(apply ep;rfl;rfl);all_goals intro h_)|(apply ac;rfl)|apply ak|apply aj|apply ah|apply bd|apply ai|(apply ae;rfl)|(apply af;rfl)|(apply bf _ (.inr rfl);(exact List.prefix_append _ _);(focus repeat (first|apply a8|(apply a9;rfl)));rfl)|apply ap|apply ey|apply bo)
  · obtain ⟨c,hc⟩:∃ c,vs[((k:Int) - 1).toNat]? = some c:=⟨_,List.getElem?_eq_getElem (by omega)⟩
    repeat' (first|apply ab|(apply V;rfl;(first|(apply bl;rfl)|(apply bg;rfl)|(apply cb;(apply plT;rfl);rfl;rfl;decide)|(apply fz;(apply plT;rfl);rfl;rfl;decide)|(apply bz;(apply tyT;rfl);rfl;(apply at_;rfl;rfl);rfl)|(apply ef;(apply tyT;rfl);rfl;rfl)|(apply ei;rfl;rfl;rfl;omega)|(apply bp (c:=c);apply elT;rfl;rfl;rfl;rfl;exact dn;omega;exact hc)))|(apply Vd;rfl;(apply du;rfl;rfl);all_goals intro h_)|(apply ac;rfl)|(apply al;rfl)|apply ah|apply ai|(apply ae;rfl)|(apply af;rfl)|(apply bf _ (.inr rfl);(exact List.prefix_append _ _);(focus repeat (first|apply a8|(apply a9;rfl)));rfl)|apply ap|apply cq|apply dm|apply aw)
    all_goals first|exact ⟨_,rfl⟩|exact ⟨k - 1,by omega,by omega,⟨rfl,rfl,di (by omega),trivial⟩,rfl⟩
  · exact ⟨_,rfl⟩
theorem jrb (s:ByteArray):PC 159 [vS s] isB:=by
  intro S T M
  refine am [] [] Tryz.func159 rfl Tryz.ntmps159 Tryz.results159 ?_
  repeat' (first|apply ab|(apply V;rfl;(first|(apply bl;rfl)|(apply bg;rfl)|(apply ca;rfl;rfl)|(apply bu;rfl;rfl)))|(apply Vd;rfl;(apply du;rfl;rfl);all_goals intro h_)|(apply Vo;rfl)|(apply ac;rfl)|apply ai|(apply bf _ (.inr rfl);(exact List.prefix_append _ _);(focus repeat (first|apply a8|(apply a9;rfl)));rfl))
  all_goals exact ⟨_,rfl⟩
theorem jvh (op a:ByteArray):PC 147 [vS op,vS a] jvf:=by
  intro S T M
  refine am [] [] Tryz.func147 rfl Tryz.ntmps147 Tryz.results147 ?_
  repeat' (first|apply ab|(apply V;rfl;(first|(apply bl;rfl)|(apply bg;rfl)|(apply ca;rfl;rfl)|(apply bu;rfl;rfl)))|(apply Vd;rfl;(apply du;rfl;rfl);all_goals intro h_)|(apply Vo;rfl)|(apply ac;rfl)|apply ak|apply aj|apply ah|apply ai|(apply ae;rfl)|(apply af;rfl)|(apply bf _ (.inr rfl);(exact List.prefix_append _ _);(focus repeat (first|apply a8|(apply a9;rfl)));rfl)|apply ap|apply cq|apply dm|apply aw)
  all_goals exact ⟨_,_,rfl⟩
theorem jvi (p:List Cl) (op a b:ByteArray) (hp:Sz p):PC 146 [vP p,vS op,vS a,vS b] jvf:=by
  intro S T M
  refine am [] [] Tryz.func146 rfl Tryz.ntmps146 Tryz.results146 ?_
  repeat' (first|apply ab|(apply V;rfl;(first|(apply bl;rfl)|(apply bg;rfl)|(apply bj;(apply tyT;rfl);rfl;(apply at_;rfl;rfl);rfl)|(apply ca;rfl;rfl)|(apply bu;rfl;rfl)|(apply cg;rfl)))|(apply Vp;rfl;rfl;apply fnT;rfl;apply jrb;rintro _ ⟨(_|_),rfl⟩)|(apply Vp;rfl;rfl;apply fnT;rfl;apply (vg p _ _ hp);rintro _ ⟨(_|_),rfl⟩)|(apply Vd;rfl;(apply du;rfl;rfl);all_goals intro h_)|(apply Vo;rfl)|(apply Vw;rfl;(apply cj;rfl;rfl;rfl))|(apply ac;rfl)|apply ak|(apply al;rfl)|apply aj|apply ah|apply ai|(apply ae;rfl)|(apply af;rfl)|(apply bf _ (.inr rfl);(exact List.prefix_append _ _);(focus repeat (first|apply a8|(apply a9;rfl)));rfl)|apply ap|apply cq|apply dm|apply aw)
  all_goals exact ⟨_,_,rfl⟩
theorem jvj (p:List Cl) (kd num:Int) (tx nm ty:ByteArray) (cs:List DV) (m0:Nat) (ow:ByteArray) (nth:Int) (s:ByteArray) (hp:Sz p):PC 145 [vP p,vXp kd num tx nm ty cs m0 ow nth,vS s] jvf:=by
  intro S T M
  refine am [] [] Tryz.func145 rfl Tryz.ntmps145 Tryz.results145 ?_
  repeat' (first|apply ab|(apply V;rfl;(first|(apply bl;rfl)|(apply bg;rfl)|(apply cb;(apply plT;rfl);rfl;rfl;decide)|(apply bj;(apply tyT;rfl);rfl;(apply at_;rfl;rfl);rfl)|(apply bz;(apply tyT;rfl);rfl;(apply at_;rfl;rfl);rfl)|(apply ca;rfl;rfl)|(apply bu;rfl;rfl)|(apply cg;rfl)))|(apply Vp;rfl;rfl;apply fnT;rfl;apply (jel p _ hp);rintro _ ⟨(_|_),rfl⟩)|(apply Vp;rfl;rfl;apply fnT;rfl;apply (vg p _ _ hp);rintro _ ⟨(_|_),rfl⟩)|(apply Vd;rfl;(first|(apply dq;rfl;rfl)|(apply fy;rfl;rfl));all_goals intro h_)|(apply Vo;rfl)|(apply Vw;rfl;(apply cj;rfl;rfl;rfl))|(apply ac;rfl)|apply ak|apply aj|apply ah|apply ai|(apply ae;rfl)|(apply af;rfl)|(apply bf _ (.inr rfl);(exact List.prefix_append _ _);(focus repeat (first|apply a8|(apply a9;rfl)));rfl)|apply ap|apply cq|apply dm|apply aw)
  all_goals exact ⟨_,_,rfl⟩
theorem jvk (p:List Cl) (cls:ByteArray) (st:Bool) (vs:List Pa) (hv:vs.length ≤ 4000000) (kd num:Int) (tx nm ty:ByteArray) (cs:List DV) (m0:Nat) (ow:ByteArray) (nth:Int) (ts:List ByteArray) (hp:Sz p) (hk:kd = 6 ∨ kd = 7 ∨ kd = 8 ∨ kd = 9) (hts:kd = 7 → 1 ≤ ts.length):PC 143 [vP p,vSc cls st vs,vXp kd num tx nm ty cs m0 ow nth,.d (cy dw ts)] jxa:=by
  obtain ⟨c,hc⟩:∃ c,kd = 7 → ts[0]? = some c:=by
    by_cases h:kd = 7
    · exact ⟨_,fun _=>List.getElem?_eq_getElem (hts h)⟩
    · exact ⟨⟨#[]⟩,fun h'=>absurd h' h⟩
  intro S T M
  refine am [] [] Tryz.func143 rfl Tryz.ntmps143 Tryz.results143 ?_
  cases st
  all_goals
    rcases hk with rfl|rfl|rfl|rfl
    all_goals
      repeat' (first|apply ab|(apply V;rfl;(first|(apply n8;rfl;rfl)|(apply qn;rfl;rfl;rfl)|(apply bl;rfl)|(apply bg;rfl)|(apply cb;(apply plT;rfl);rfl;rfl;decide)|(apply bj;(apply tyT;rfl);rfl;(apply at_;rfl;rfl);rfl)|(apply bz;(apply tyT;rfl);rfl;(apply at_;rfl;rfl);rfl)|(apply ef;(apply tyT;rfl);rfl;rfl)|(apply ca;rfl;rfl)|(apply bu;rfl;rfl)|(apply eu;rfl;rfl)|(apply cg;rfl)|(apply ed;(apply plT;rfl);rfl)|(apply bp (c:=c);apply elT;rfl;rfl;rfl;rfl;exact cv;omega;(first|exact hc rfl|simpa using hc rfl))))|(apply Vp;rfl;rfl;apply fnT;rfl;apply (jom cls _ vs nm hv);rintro _ ⟨t_,rfl⟩)|(apply Vp;rfl;rfl;apply fnT;rfl;apply (jel p _ hp);rintro _ ⟨(_|_),rfl⟩)|(apply Vp;rfl;rfl;apply fnT;rfl;apply (ji6 p _ hp);rintro _ ⟨u_,rfl⟩)|(apply Vp;rfl;rfl;apply fnT;rfl;apply (jus p _ nm hp);rintro _ ⟨o_,n_,(_|_),rfl⟩)|(apply Vp;rfl;rfl;apply fnT;rfl;apply (jyh p o_ n_ hp);rintro _ ⟨⟨(_|_),f2,f3,f4⟩,b_,rfl,-⟩)|(apply bt (nt:=117) (.take 0 (.take 1 (.take 2 (.take 3 (.one 4 (.take 5 .nil)))))) [] [4];exact co;rfl;decide +kernel)|(apply Vd;rfl;(first|(apply du;rfl;rfl)|(apply fy;rfl;rfl));all_goals intro h_)|(apply Vo;rfl)|(apply Vw;rfl;(first|(apply cd;rfl;(apply tyT;rfl))|(apply cj;rfl;rfl;rfl)))|(apply Vs;rfl;(apply bw;rfl;(apply tyT;rfl);rfl;rfl;rfl;(first|apply bc|(apply bh;omega));rfl;rfl;(first|decide|(apply Nat.le_of_ble_eq_true;rfl))))|(apply ac;rfl)|apply ak|apply aj|apply ah|apply ai|(apply ae;rfl)|(apply af;rfl)|(apply bf _ (.inr rfl);(exact List.prefix_append _ _);(focus repeat (first|apply a8|(apply a9;rfl)|(apply cp;rfl;rfl;apply tyT;rfl;rfl;rfl)));rfl)|apply ap|apply cq|apply dm|apply aw|apply dg|(apply tV;rfl;rfl;(first|(apply n8;rfl;rfl)|(apply qn;rfl;rfl;rfl)|(apply bl;rfl)|(apply bg;rfl)|(apply cb;(apply plT;rfl);rfl;rfl;decide)|(apply bj;(apply tyT;rfl);rfl;(apply at_;rfl;rfl);rfl)|(apply bz;(apply tyT;rfl);rfl;(apply at_;rfl;rfl);rfl)|(apply ef;(apply tyT;rfl);rfl;rfl)|(apply ca;rfl;rfl)|(apply bu;rfl;rfl)|(apply eu;rfl;rfl)|(apply cg;rfl)|(apply ed;(apply plT;rfl);rfl)|(apply bp (c:=c);apply elT;rfl;rfl;rfl;rfl;exact cv;omega;(first|exact hc rfl|simpa using hc rfl)));rfl)|(apply oS;rfl;rfl;(apply bw;rfl;(apply tyT;rfl);rfl;rfl;rfl;(first|(apply jl;rfl)|(apply mb;omega;rfl));rfl;rfl;(first|decide|(apply Nat.le_of_ble_eq_true;rfl)))))
      all_goals exact ⟨_,_,_,_,rfl⟩
theorem jvl (p:List Cl) (cls:ByteArray) (st:Bool) (vs:List Pa) (kd num:Int) (tx nm ty:ByteArray) (cs:List DV) (m0:Nat) (ow:ByteArray) (nth:Int) (ts:List ByteArray) (hn:ts.length ≤ 1000000) (hp:Sz p) (hk:kd = 10 ∨ kd = 11 ∨ kd = 12 ∨ kd = 13 ∨ kd = 14) (hts:kd = 10 → 1 ≤ ts.length):PC 144 [vP p,vSc cls st vs,vXp kd num tx nm ty cs m0 ow nth,.d (cy dw ts)] jxa:=by
  obtain ⟨c,rs,hrs⟩:∃ c rs,kd = 10 → ts = c :: rs:=by
    cases ts with
    | nil=>exact ⟨⟨#[]⟩,[],fun h=>absurd (hts h) (by simp)⟩
    | cons c rs=>exact ⟨c,rs,fun _=>rfl⟩
  have hc:kd = 10 → ts[0]? = some c:=fun h=>by rw [hrs h];rfl
  intro S T M
  refine am [] [] Tryz.func144 rfl Tryz.ntmps144 Tryz.results144 ?_
  cases st
  all_goals
    rcases hk with rfl|rfl|rfl|rfl|rfl
    · obtain rfl:=hrs rfl
      clear hrs hts
      repeat' (first|apply ab|(apply V;rfl;(first|(apply n8;rfl;rfl)|(apply qn;rfl;rfl;rfl)|(apply bl;rfl)|(apply bg;rfl)|(apply cb;(apply plT;rfl);rfl;rfl;decide)|(apply bj;(apply tyT;rfl);rfl;(apply at_;rfl;rfl);rfl)|(apply bz;(apply tyT;rfl);rfl;(apply at_;rfl;rfl);rfl)|(apply ef;(apply tyT;rfl);rfl;rfl)|(apply ca;rfl;rfl)|(apply bu;rfl;rfl)|(apply eu;rfl;rfl)|(apply cg;rfl)|(apply ed;(apply plT;rfl);rfl)|(apply bp (c:=c);apply elT;rfl;rfl;rfl;rfl;exact cv;omega;(first|exact hc rfl|simpa using hc rfl))|(apply jra;apply elT;rfl;rfl;rfl)))|(apply bt (nt:=133) (.take 0 (.take 1 (.take 2 (.take 3 (.take 4 (.take 5 (.take 6 .nil))))))) [] [];exact co;rfl;decide +kernel)|(apply Vp;rfl;rfl;apply fnT;rfl;apply (jp4 rs _);rintro _ ⟨(_|_),rfl,-⟩)|(apply Vp;rfl;rfl;apply fnT;rfl;apply (jel p _ hp);rintro _ ⟨(_|_),rfl⟩)|(apply Vp;rfl;rfl;apply fnT;rfl;apply (jq6 p _ nm rs hp);rintro _ ⟨o_,n_,e_,rfl⟩)|(apply Vp;rfl;rfl;apply fnT;rfl;apply (jcy p o_ n_ hp);rintro _ ⟨⟨(_|_),x2,x3,x4,x5,x6⟩,b_,rfl,-,hm_⟩)|(apply bt (nt:=133) (.take 0 (.take 1 (.take 2 (.take 3 (.one 4 (.take 5 .nil)))))) [] [4];exact co;rfl;decide +kernel)|(apply Vd;rfl;(apply fb;rfl;rfl);all_goals intro h_)|(apply Vo;rfl)|(apply Vw;rfl;(first|(apply cd;rfl;(apply tyT;rfl))|(apply cj;rfl;rfl;rfl)))|(apply Vs;rfl;(apply bw;rfl;(apply tyT;rfl);rfl;rfl;rfl;(first|apply bc|(apply bh;omega));rfl;rfl;(first|decide|(apply Nat.le_of_ble_eq_true;rfl))))|(apply ac;rfl)|apply ak|apply aj|apply ah|apply ai|(apply ae;rfl)|(apply af;rfl)|(apply bf _ (.inr rfl);(exact List.prefix_append _ _);(focus repeat (first|apply a8|(apply a9;rfl)|(apply cp;rfl;rfl;apply tyT;rfl;rfl;rfl)));rfl)|apply ap|apply cq|apply dm|apply aw|apply dg|(apply tV;rfl;rfl;(first|(apply n8;rfl;rfl)|(apply qn;rfl;rfl;rfl)|(apply bl;rfl)|(apply bg;rfl)|(apply cb;(apply plT;rfl);rfl;rfl;decide)|(apply bj;(apply tyT;rfl);rfl;(apply at_;rfl;rfl);rfl)|(apply bz;(apply tyT;rfl);rfl;(apply at_;rfl;rfl);rfl)|(apply ef;(apply tyT;rfl);rfl;rfl)|(apply ca;rfl;rfl)|(apply bu;rfl;rfl)|(apply eu;rfl;rfl)|(apply cg;rfl)|(apply ed;(apply plT;rfl);rfl)|(apply bp (c:=c);apply elT;rfl;rfl;rfl;rfl;exact cv;omega;(first|exact hc rfl|simpa using hc rfl))|(apply jra;apply elT;rfl;rfl;rfl));rfl)|(apply oS;rfl;rfl;(apply bw;rfl;(apply tyT;rfl);rfl;rfl;rfl;(first|(apply jl;rfl)|(apply mb;omega;rfl));rfl;rfl;(first|decide|(apply Nat.le_of_ble_eq_true;rfl)))))
      all_goals exact ⟨_,_,_,_,rfl⟩
    all_goals
      repeat' (first|apply ab|(apply V;rfl;(first|(apply n8;rfl;rfl)|(apply qn;rfl;rfl;rfl)|(apply bl;rfl)|(apply bg;rfl)|(apply cb;(apply plT;rfl);rfl;rfl;decide)|(apply bj;(apply tyT;rfl);rfl;(apply at_;rfl;rfl);rfl)|(apply bz;(apply tyT;rfl);rfl;(apply at_;rfl;rfl);rfl)|(apply ca;rfl;rfl)|(apply bu;rfl;rfl)|(apply eu;rfl;rfl)|(apply cg;rfl)|(apply ed;(apply plT;rfl);rfl)))|(apply Vp;rfl;rfl;apply fnT;rfl;apply (jp4 ts _);rintro _ ⟨(_|_),rfl,-⟩)|(apply Vp;rfl;rfl;apply fnT;rfl;apply (jel p _ hp);rintro _ ⟨(_|_),rfl⟩)|(apply Vp;rfl;rfl;apply fnT;rfl;apply (ji6 p _ hp);rintro _ ⟨u_,rfl⟩)|(apply Vp;rfl;rfl;apply fnT;rfl;apply (jq6 p _ nm ts hp);rintro _ ⟨o_,n_,e_,rfl⟩)|(apply Vp;rfl;rfl;apply fnT;rfl;apply (jir p _ ts hp);rintro _ ⟨o_,n_,e_,rfl⟩)|(apply Vp;rfl;rfl;apply fnT;rfl;apply (jcy p o_ n_ hp);rintro _ ⟨⟨(_|_),x2,x3,x4,x5,x6⟩,b_,rfl,-,hm_⟩)|(apply bt (nt:=133) (.take 0 (.take 1 (.take 2 (.take 3 (.one 4 (.take 5 .nil)))))) [S.length + 3] [];exact co;rfl;decide +kernel)|(apply tV;rfl;rfl;(first|(apply bj;(apply tyT;rfl);rfl;(apply at_;rfl;rfl);rfl)|(apply bz;(apply tyT;rfl);rfl;(apply at_;rfl;rfl);rfl));(apply ek;rfl;(simp)))|(apply oS;rfl;rfl;(apply bw;rfl;(apply tyT;rfl);rfl;rfl;rfl;(apply e8;omega;(simp));rfl;rfl;(apply Nat.le_of_ble_eq_true;rfl)))|(apply Vd;rfl;(first|(apply fb;rfl;rfl)|(apply du;rfl;rfl));all_goals intro h_)|(apply Vo;rfl)|(apply Vw;rfl;(first|(apply cd;rfl;(apply tyT;rfl))|(apply cj;rfl;rfl;rfl)))|(apply Vs;rfl;(apply bw;rfl;(apply tyT;rfl);rfl;rfl;rfl;(first|apply bc|(apply bh;omega));rfl;rfl;(first|decide|(apply Nat.le_of_ble_eq_true;rfl))))|(apply ac;rfl)|apply ak|(apply al;rfl)|apply aj|apply ah|apply ai|(apply ae;rfl)|(apply af;rfl)|(apply bf _ (.inr rfl);(exact List.prefix_append _ _);(focus repeat (first|apply a8|(apply a9;rfl)|(apply cp;rfl;rfl;apply tyT;rfl;rfl;rfl)));rfl)|apply ap|apply cq|apply dm|apply aw|apply dg|(apply tV;rfl;rfl;(first|(apply n8;rfl;rfl)|(apply qn;rfl;rfl;rfl)|(apply bl;rfl)|(apply bg;rfl)|(apply cb;(apply plT;rfl);rfl;rfl;decide)|(apply bj;(apply tyT;rfl);rfl;(apply at_;rfl;rfl);rfl)|(apply bz;(apply tyT;rfl);rfl;(apply at_;rfl;rfl);rfl)|(apply ca;rfl;rfl)|(apply bu;rfl;rfl)|(apply eu;rfl;rfl)|(apply cg;rfl)|(apply ed;(apply plT;rfl);rfl));rfl))
      all_goals exact ⟨_,_,_,_,rfl⟩
end Go.Proofs.YtinffhimfoicdaaGreat
namespace Go.Proofs.YtinffhimfoicdaaGreat
open Go Go.RowKit Go.Proofs.YtinffhimfoicdaaGreat.Calc
set_option linter.unusedVariables false
set_option linter.unusedSimpArgs false
set_option maxRecDepth 100000
set_option maxHeartbeats 8000000
theorem fe {A:List (List BV × Nat)} {a k:Nat} {x z:List BV × Nat} (ha:k ≠ a) (h:A[k]? = some z):(A.set a x)[k]? = some z:=by
  rw [List.getElem?_set_ne ha.symm,h]
attribute [local irreducible] Tri ew er ci bn db d7 inQ jb
theorem jon (p:List Cl) (hp:Sz p) (cls:ByteArray) (st:Bool) (vs:List Pa) (hv:vs.length ≤ 4000000):∀ n e,qa e ≤ n → qa e ≤ 1000000 → jfw e → PC 121 [vP p,vSc cls st vs,vEx e] jvg:=by
  intro n
  induction n using Nat.strongRecOn with
  | _ n ih=>?_
  rintro ⟨kd,num,tx,nm,ty,l,ow,nth⟩ hn hN hok
  rw [qa] at hn hN
  rw [jfw] at hok
  obtain ⟨hk1,hk2,har,hokl⟩:=hok
  have hlen:=fp l
  have hA1:(kd = 7 ∨ kd = 10 ∨ 15 ≤ kd) → 1 ≤ l.length:=fun h=>by
    obtain ⟨a1,a2,a3,_,_⟩:=ui kd l.length
    by_cases h17:kd = 17
    · rw [a2 h17] at har;omega
    by_cases h10:kd = 10
    · rw [a3 h10] at har;omega
    rw [a1 (by omega)] at har;omega
  have hA2:kd = 17 → 2 ≤ l.length:=fun h=>by
    obtain ⟨a1,a2,a3,_,_⟩:=ui kd l.length
    rw [a2 h] at har;omega
  unfold vEx
  rw [jn]
  intro S T M
  refine am [] [] Tryz.func121 rfl Tryz.ntmps121 Tryz.results121 ?_
  repeat' (first|apply ab|(apply V;rfl;(apply bg;rfl))|(apply Vw;rfl;(first|(apply cd;rfl;(apply tyT;rfl))|(apply cj;rfl;rfl;rfl)))|(apply ac;rfl)|apply ak|apply aj)
  refine gc 9 124 8 rfl rfl ?_
  refine gc 10 9 1 rfl rfl ?_
  refine cx (fun k:Nat × List DV × List ByteArray=>l.length - k.1) (fun k=>[(3,.ptr (S.length + 0) 0),(4,.ptr (S.length + 1) 0),(5,.ptr (S.length + 2) 0),(6,.ptr (S.length + 3) 0),(9,.own 124 8 (T.length + 0) k.2.1 k.1),(10,.own 9 1 (T.length + 1) (k.2.2.flatMap dw) k.2.2.length),(11,vI k.1)]) (fun k S1 T1=>k.1 ≤ l.length ∧ k.2.1.length = 8 * k.1 ∧ k.2.2.length = k.1 ∧ S.length + 4 ≤ S1.length ∧ T <+: T1 ∧ S1[S.length + 0]? = some ([.d (cy df p)],26) ∧ S1[S.length + 1]? = some ([vS cls,vB st,.d (cy gk vs)],166) ∧ S1[S.length + 2]? = some ([vI kd,.d (dN num),vS tx,vS nm,vS ty,.d (qg l),vS ow,vI nth],124) ∧ S1[S.length + 3]? = some ([vI 0,.d (dN 0),vS ⟨#[]⟩,vS ⟨#[]⟩,vS ⟨#[]⟩,.tight [] 0,vS ⟨#[]⟩,vI 0],124) ∧ T1[T.length + 0]? = some k.2.1.length ∧ T1[T.length + 1]? = some (k.2.2.flatMap dw).length) (0,[],[]) ⟨Nat.zero_le _,rfl,rfl,by simp,by simp,at_ rfl rfl,at_ rfl rfl,at_ rfl rfl,at_ rfl rfl,by simp,by simp⟩ ⟨rfl,rfl,rfl,rfl,rfl,rfl,rfl,trivial⟩ ?_
  rintro ⟨k,cs,ts⟩ S1 T1 ⟨hk,hcs,hts,hS,hT,hb0,hb1,hb2,hb3,hT0,hT1⟩
  dsimp only at hk hcs hts hT0 hT1 ⊢
  have h00:T.length ≤ T.length + 0:=Nat.le_refl _
  have h01:T.length ≤ T.length + 1:=by omega
  have hlt3:S.length + 3 < S1.length:=by omega
  have hlt2:S.length + 2 < S1.length:=by omega
  repeat' (first|apply ab|(apply V;rfl;(first|(apply bl;rfl)|(apply cb;(apply plT;rfl);rfl;rfl;decide)|(apply bz;(apply tyT;rfl);rfl;(apply aa;assumption);rfl)|(apply bq;(apply elT;rfl);rfl;rfl)))|(show Tri _ (.seq (.region 10 _ _) _) _ _ _;apply ju (fun ρ st'=>∃ S2,S2[S.length + 0]? = some ([.d (cy df p)],26) ∧ S2[S.length + 1]? = some ([vS cls,vB st,.d (cy gk vs)],166) ∧ S2[S.length + 2]? = some ([vI kd,.d (dN num),vS tx,vS nm,vS ty,.own 124 8 (T.length + 0) cs k,vS ⟨#[]⟩,vI 0],124) ∧ S2[S.length + 3]? = some ([vI 0,.d (dN 0),vS ⟨#[]⟩,vS ⟨#[]⟩,vS ⟨#[]⟩,.tight [] 0,vS ⟨#[]⟩,vI 0],124) ∧ S.length + 4 ≤ S2.length ∧ st' = ⟨S2 ++ [],T1 ++ [],M⟩ ∧ ng ρ [(3,.ptr (S.length + 0) 0),(4,.ptr (S.length + 1) 0),(5,.ptr (S.length + 2) 0),(6,.ptr (S.length + 3) 0),(10,.own 9 1 (T.length + 1) (ts.flatMap dw) ts.length)]))|(apply Vs;rfl;(apply fg;(apply tyT;rfl);rfl;rfl;assumption;(apply bh;omega);rfl;rfl;(apply Nat.le_of_ble_eq_true;rfl)))|(apply Vs;rfl;(apply jm;(apply tyT;rfl);rfl;rfl;assumption;(apply bh;omega);rfl;rfl;(apply Nat.le_of_ble_eq_true;rfl)))|(apply Vd;rfl;(apply cu;rfl;rfl);all_goals intro h_)|(apply ac;rfl)|apply ak|(apply al;rfl)|apply aj|apply ah|apply bd|(apply ae;rfl)|(apply af;rfl)|apply ap|apply ey|apply bo)
  · obtain ⟨c,hc⟩:∃ c,l[k]? = some c:=⟨_,List.getElem?_eq_getElem (by omega)⟩
    have hcz:=jo hc
    have hrec:=ih (qa c) (by omega) c (Nat.le_refl _) (by omega) (j8 hokl hc)
    repeat' (first|apply ab|(apply V;rfl;(first|(apply bl;rfl)|(apply bg;rfl)|(apply cb;(apply plT;rfl);rfl;rfl;decide)|(apply bj;(apply tyT;rfl);rfl;(apply at_;rfl;rfl);rfl)|(apply dp;(apply tyT;rfl);rfl;(first|rfl|apply ay|apply ba))|(apply eu;rfl;rfl)|(apply ed;(apply plT;rfl);rfl)|(apply az;rfl;rfl;rfl;omega)|(apply j0 (c:=c) (d4 l) ay;apply elT;rfl;rfl;rfl;rfl;omega;simpa using hc)))|apply nr|(apply de (nt:=147) (.take 0 (.take 1 (.take 2 (.take 3 (.take 4 (.take 5 (.take 6 (.fork 7 (.take 8 (.take 9 (.take 10 (.take 11 (.one 12 (.one 13 (.take 14 (.take 15 .nil)))))))) 12 (.one 7 (.take 8 (.take 9 (.take 10 (.take 11 (.one 13 (.take 14 (.take 15 .nil)))))))))))))))) [S1.length + 0] [];exact co;rfl;decide +kernel)|(apply tV;rfl;rfl;(apply bj;(apply tyT;rfl);rfl;(apply aa;assumption);rfl);(apply ek;rfl;(simp;omega)))|(apply tV;rfl;rfl;(apply bz;(apply tyT;rfl);rfl;(apply aa;assumption);rfl);(apply ek;rfl;(simp;omega)))|(apply oS;rfl;rfl;(apply bw;rfl;(apply tyT;rfl);rfl;rfl;rfl;(apply e8;omega;(simp));rfl;rfl;(apply Nat.le_of_ble_eq_true;rfl)))|(apply oP;rfl;rfl;rfl;apply fnT;rfl;apply hrec;rintro _ ⟨k_,n_,t_,na_,ty_,cs_,m_,o_,y_,tt_,f_,rfl⟩)|(apply Vs;rfl;(apply fg;(apply tyT;rfl);rfl;rfl;assumption;(apply bh;omega);rfl;rfl;(apply Nat.le_of_ble_eq_true;rfl)))|(apply bf _ (.inr rfl);(first|exact List.prefix_append _ _|assumption|(apply av;assumption)|(apply av;apply dc <;> assumption));(focus repeat (first|apply a8|(apply a9;rfl)|(apply ez;rfl;(apply tyT;rfl);(apply List.getElem?_set_self;assumption);rfl)));rfl)|(apply Vd;rfl;(apply fb;rfl;rfl);all_goals intro h_)|(apply Vw;rfl;(first|(apply cd;rfl;(apply tyT;rfl))|(apply d8;rfl;(apply elT;rfl);(apply tyT;rfl);rfl;decide;rfl;rfl)|(apply mf;(apply elT;rfl);(apply tyT;rfl);(apply byT;rfl);rfl;rfl;rfl;decide;rfl;(apply ee (f:=dw) (c:=tt_);omega;omega;(rw [List.getElem?_set_ne (by omega)];assumption)))|(apply mf;(apply elT;rfl);(apply tyT;rfl);(apply byT;rfl);rfl;rfl;rfl;decide;rfl;(apply qf;decide;omega;omega;assumption))))|(apply ac;rfl)|apply ak|(apply al;rfl)|apply ah|apply ai|(apply ae;rfl)|(apply af;rfl)|apply ap|apply cq|apply dm|apply aw|apply dg|(apply tV;rfl;rfl;(first|(apply bl;rfl)|(apply bg;rfl)|(apply cb;(apply plT;rfl);rfl;rfl;decide)|(apply bj;(apply tyT;rfl);rfl;(apply at_;rfl;rfl);rfl)|(apply dp;(apply tyT;rfl);rfl;(first|rfl|apply ay|apply ba))|(apply eu;rfl;rfl)|(apply ed;(apply plT;rfl);rfl)|(apply az;rfl;rfl;rfl;omega)|(apply j0 (c:=c) (d4 l) ay;apply elT;rfl;rfl;rfl;rfl;omega;simpa using hc));rfl)|(apply oW;rfl;rfl;(first|(apply cd;rfl;(apply tyT;rfl))|(apply d8;rfl;(apply elT;rfl);(apply tyT;rfl);rfl;decide;rfl;rfl)|(apply mf;(apply elT;rfl);(apply tyT;rfl);(apply byT;rfl);rfl;rfl;rfl;decide;rfl;(apply ee (f:=dw) (c:=tt_);omega;omega;(rw [List.getElem?_set_ne (by omega)];assumption)))|(apply mf;(apply elT;rfl);(apply tyT;rfl);(apply byT;rfl);rfl;rfl;rfl;decide;rfl;(apply qf;decide;omega;omega;assumption)))))
    all_goals first
      | exact ⟨_,_,_,_,_,_,_,_,_,_,_,rfl⟩
      | exact ⟨(k + 1,cs ++ [dI k_,dN n_,dS t_,dS na_,dS ty_,.sl cs_ m_,dS o_,dI y_],ts ++ [tt_]),_,_,by dsimp only;omega,⟨by dsimp only;omega,by simp only [List.length_append,List.length_cons,List.length_nil];omega,by simp only [List.length_append,List.length_cons,List.length_nil];omega,by simp only [List.length_append];omega,av (dc (dc hT h00) h01),aa hb0,aa hb1,aa hb2,aa hb3,aa (by rw [List.getElem?_set_ne (by omega)];exact List.getElem?_set_self (List.getElem?_eq_some_iff.1 hT0).1),aa (List.getElem?_set_self (by rw [List.length_set];exact (List.getElem?_eq_some_iff.1 hT1).1))⟩,⟨rfl,rfl,rfl,rfl,rfl,rfl,di (by omega),trivial⟩,rfl⟩
  · exact ⟨_,fe (by omega) hb0,fe (by omega) hb1,List.getElem?_set_self hlt2,fe (by omega) hb3,by rw [List.length_set];exact hS,rfl,rfl,rfl,rfl,rfl,rfl,trivial⟩
  clear hb0 hb1 hb2 hb3
  rintro ρ _ ⟨S2,d0,d1,d2,d3,hS2,rfl,hR⟩
  refine c9 (dt hR) ?_
  clear hR
  have hlt3':S.length + 3 < S2.length:=by omega
  have hlt2':S.length + 2 < S2.length:=by omega
  have hT1':(kd = 7 ∨ kd = 10 ∨ 15 ≤ kd) → 1 ≤ ts.length:=fun h=>by have:=hA1 h;omega
  have hT2':kd = 17 → 2 ≤ ts.length:=fun h=>by have:=hA2 h;omega
  have htn:ts.length ≤ 1000000:=by omega
  obtain ⟨c0,hc0⟩:∃ c0,1 ≤ ts.length → ts[0]? = some c0:=by
    by_cases h:1 ≤ ts.length
    · exact ⟨_,fun _=>List.getElem?_eq_getElem h⟩
    · exact ⟨⟨#[]⟩,fun h'=>absurd h' h⟩
  obtain ⟨c1,hc1⟩:∃ c1,2 ≤ ts.length → ts[1]? = some c1:=by
    by_cases h:2 ≤ ts.length
    · exact ⟨_,fun _=>List.getElem?_eq_getElem h⟩
    · exact ⟨⟨#[]⟩,fun h'=>absurd h' h⟩
  repeat' (first|apply ab|(apply V;rfl;(first|(apply bl;rfl)|(apply bg;rfl)|(apply cb;(apply plT;rfl);rfl;rfl;decide)|(apply bj;(apply tyT;rfl);rfl;(apply aa;assumption);rfl)|(apply bz;(apply tyT;rfl);rfl;(apply aa;assumption);rfl)|(apply ef;(apply tyT;rfl);rfl;rfl)|(apply eu;rfl;rfl)|(apply ed;(apply plT;rfl);rfl)|(apply bp (c:=c0);apply elT;rfl;rfl;rfl;rfl;exact cv;omega;(first|exact hc0 (hT1' (by omega))|simpa using hc0 (hT1' (by omega))))|(apply bp (c:=c1);apply elT;rfl;rfl;rfl;rfl;exact cv;omega;(first|exact hc1 (hT2' (by omega))|simpa using hc1 (hT2' (by omega))))))|(show Tri _ (.seq (.seq (.region 12 _ _) _) _) _ _ _;apply ju (fun ρ st'=>∃(tt o:ByteArray) (n f:Int),st' = ⟨S2 ++ [([vS o,vI n],44)],T1 ++ [],M⟩ ∧ ng ρ [(5,.ptr (S.length + 2) 0),(6,.ptr (S.length + 3) 0),(15,vS tt),(16,.ptr (S2.length + 0) 0),(17,vI f)]))|(show Tri _ (.cond _ (.region 25 _ _) _) _ _ _;apply vz st;rfl;all_goals intro h_)|(apply Vp;rfl;rfl;apply fnT;rfl;apply ea;rfl;apply (jvk p cls st vs hv kd num tx nm ty cs k _ _ ts hp);omega;(intro _;apply hT1';omega);rintro _ ⟨t_,o_,n_,f_,rfl⟩)|(apply Vp;rfl;rfl;apply fnT;rfl;apply ea;rfl;apply (jvl p cls st vs kd num tx nm ty cs k _ _ ts htn hp);omega;(intro _;apply hT1';omega);rintro _ ⟨t_,o_,n_,f_,rfl⟩)|(apply oP;rfl;rfl;rfl;apply fnT;rfl;apply ea;rfl;apply (jvj p kd num tx nm ty cs k _ _ _ hp);rintro _ ⟨t_,f_,rfl⟩)|(apply oP;rfl;rfl;rfl;apply fnT;rfl;apply (jvi p nm _ _ hp);rintro _ ⟨t_,f_,rfl⟩)|(apply oP;rfl;rfl;rfl;apply fnT;rfl;apply (jvh nm _);rintro _ ⟨t_,f_,rfl⟩)|(apply de (nt:=147) (.take 0 (.take 1 (.take 2 (.take 3 (.take 4 (.one 5 (.take 6 (.take 7 (.take 8 (.take 9 (.take 10 .nil))))))))))) [] [];exact co;rfl;decide +kernel)|(apply de (nt:=147) (.take 0 (.take 1 (.take 2 (.take 3 (.take 4 (.take 5 (.take 6 (.take 7 (.take 8 (.one 9 (.take 10 (.take 11 (.take 12 (.take 13 (.take 14 .nil))))))))))))))) [] [];exact co;rfl;decide +kernel)|(apply de (nt:=147) (.take 0 (.take 1 (.take 2 (.take 3 (.take 4 (.one 5 (.take 6 (.take 7 (.take 8 (.take 9 (.take 10 .nil))))))))))) [] [];exact co;rfl;decide +kernel)|(apply Vd;rfl;(apply dq;rfl;rfl);all_goals intro h_)|(apply Vw;rfl;(apply cd;rfl;(apply tyT;rfl)))|(apply Vs;rfl;(apply bw;rfl;(apply tyT;rfl);rfl;rfl;rfl;(first|apply bc|(apply bh;omega));rfl;rfl;(first|decide|(apply Nat.le_of_ble_eq_true;rfl))))|(apply ac;rfl)|apply ak|(apply al;rfl)|apply aj|apply ah|(apply ae;rfl)|(apply af;rfl)|apply ap|apply cq|apply dg|(apply tV;rfl;rfl;(first|(apply bl;rfl)|(apply bg;rfl)|(apply cb;(apply plT;rfl);rfl;rfl;decide)|(apply bj;(apply tyT;rfl);rfl;(apply aa;assumption);rfl)|(apply bz;(apply tyT;rfl);rfl;(apply aa;assumption);rfl)|(apply ef;(apply tyT;rfl);rfl;rfl)|(apply eu;rfl;rfl)|(apply ed;(apply plT;rfl);rfl)|(apply bp (c:=c0);apply elT;rfl;rfl;rfl;rfl;exact cv;omega;(first|exact hc0 (hT1' (by omega))|simpa using hc0 (hT1' (by omega))))|(apply bp (c:=c1);apply elT;rfl;rfl;rfl;rfl;exact cv;omega;(first|exact hc1 (hT2' (by omega))|simpa using hc1 (hT2' (by omega)))));rfl))
  all_goals first
    | exact ⟨_,_,_,_,rfl,rfl,rfl,rfl,rfl,rfl,trivial⟩
    | skip
  rintro ρ _ ⟨tt,o,n,f,rfl,hR⟩
  refine c9 (dt hR) ?_
  clear hR
  repeat' (first|apply ab|(apply V;rfl;(first|(apply bl;rfl)|(apply bg;rfl)|(apply cb;(apply plT;rfl);rfl;rfl;decide)|(apply bj;(apply tyT;rfl);rfl;(apply aq;assumption);rfl)|(apply ed;(apply plT;rfl);rfl)))|(apply bt (nt:=147) (.take 0 (.take 1 (.take 2 (.take 3 (.take 4 (.one 5 (.take 6 (.one 7 .nil)))))))) [S.length + 2] [];exact co;rfl;decide +kernel)|(apply tV;rfl;rfl;(apply bz;(apply tyT;rfl);rfl;(apply at_;rfl;rfl);rfl);(apply ek;rfl;(simp;omega)))|(apply oS;rfl;rfl;(apply fg;(apply tyT;rfl);rfl;rfl;assumption;(apply e8;omega;(simp));rfl;rfl;(apply Nat.le_of_ble_eq_true;rfl)))|(apply oS;rfl;rfl;(apply jm;(apply tyT;rfl);rfl;rfl;assumption;(apply e8;omega;(simp));rfl;rfl;(apply Nat.le_of_ble_eq_true;rfl)))|(apply Vs;rfl;(apply fg;(apply tyT;rfl);rfl;rfl;assumption;(apply bh;omega);rfl;rfl;(apply Nat.le_of_ble_eq_true;rfl)))|(apply Vs;rfl;(apply fg;(apply tyT;rfl);rfl;rfl;(exact fe (by omega) (by assumption));(apply bh;omega);rfl;rfl;(apply Nat.le_of_ble_eq_true;rfl)))|(apply bf _ (.inr rfl);(first|exact List.prefix_append _ _|assumption|(apply av;assumption)|(apply av;apply dc <;> assumption));(focus repeat (first|apply a8|(apply a9;rfl)|(apply ez;rfl;(apply tyT;rfl);(apply List.getElem?_set_self;assumption);rfl)));rfl)|(apply bf _ (.inr rfl);(first|exact List.prefix_append _ _|assumption|(apply av;assumption)|(apply av;apply dc <;> assumption));(focus repeat (first|apply a8|(apply a9;rfl)|(apply ez;rfl;(apply tyT;rfl);(apply List.getElem?_set_self;(rw [List.length_set];assumption));rfl)));rfl)|(apply Vd;rfl;(apply fb;rfl;rfl);all_goals intro h_)|(apply ac;rfl)|apply ak|apply ah|apply ai|(apply ae;rfl)|(apply af;rfl)|apply ap|apply aw|apply dg|(apply tV;rfl;rfl;(first|(apply bl;rfl)|(apply bg;rfl)|(apply cb;(apply plT;rfl);rfl;rfl;decide)|(apply bj;(apply tyT;rfl);rfl;(apply aq;assumption);rfl)|(apply ed;(apply plT;rfl);rfl));rfl))
  all_goals exact ⟨_,_,_,_,_,_,_,_,_,_,_,rfl⟩
theorem joo (p:List Cl) (hp:Sz p) (cls:ByteArray) (st:Bool) (vs:List Pa) (hv:vs.length ≤ 4000000) (e:Ex) (hN:qa e ≤ 1000000) (hok:jfw e):PC 121 [vP p,vSc cls st vs,vEx e] jvg:=jon p hp cls st vs hv _ e (Nat.le_refl _) hN hok
end Go.Proofs.YtinffhimfoicdaaGreat
namespace Go.Proofs.YtinffhimfoicdaaGreat
open Go Go.RowKit Go.Proofs.YtinffhimfoicdaaGreat.Calc
set_option linter.unusedVariables false
set_option linter.unusedSimpArgs false
set_option maxRecDepth 100000
set_option maxHeartbeats 8000000
abbrev bxB (p:List Cl) (m:Me) (cls:ByteArray) (st:Bool) (vs:List Pa):List BV:=[.d (cy df p),vB m.static,vB m.ctor,vS m.typ,vS m.name,.d (cy gk m.params),.d (eq m.body),vS cls,vB st,.d (cy gk vs)]
abbrev RB (p:List Cl) (m:Me) (cls:ByteArray) (st:Bool) (vs:List Pa) (f:Nat) (args:List BV) (R:BV → Prop):Prop:=∀ S T M id,S[id]? = some (bxB p m cls st vs,196) → ci Tryz.prog [] [] f (.ptr id 0 :: args) ⟨S,T,M⟩ (fun r s=>s = ⟨S,T,M⟩ ∧ R r)
abbrev jyl (r:BV):Prop:=∃(k n:Int) (t na ty:ByteArray) (cs:List DV) (m:Nat) (o:ByteArray) (h:Int) (f:Int),r = .tup [vXp k n t na ty cs m o h,vI f]
abbrev vYp (k n:Int) (ty nm:ByteArray) (c1:List DV) (m1:Nat) (c2:List DV) (m2:Nat) (c3:List DV) (m3:Nat) (c4:List DV) (m4:Nat) (h:Int):BV:=.agg [vI k,.d (dN n),vS ty,vS nm,.d (.sl c1 m1),.d (.sl c2 m2),.d (.sl c3 m3),.d (.sl c4 m4),vI h]
abbrev jvm (r:BV):Prop:=∃(k n:Int) (ty nm:ByteArray) (c1:List DV) (m1:Nat) (c2:List DV) (m2:Nat) (c3:List DV) (m3:Nat) (c4:List DV) (m4:Nat) (h:Int) (f:Int),r = .tup [vYp k n ty nm c1 m1 c2 m2 c3 m3 c4 m4 h,vI f]
attribute [local irreducible] Tri ew er ci bn db d7 inQ jb
theorem jlg (p:List Cl) (m:Me) (cls:ByteArray) (st:Bool) (vs:List Pa) (hp:Sz p) (hv:vs.length ≤ 4000000) (e:Ex) (hN:qa e ≤ 1000000) (hok:jfw e):RB p m cls st vs 166 [vEx e] jvg:=by
  have h:=joo p hp cls st vs hv e hN hok
  obtain ⟨kd,num,tx,nm,ty,l,ow,nth⟩:=e
  unfold vEx at h ⊢
  rw [jn] at h ⊢
  intro S T M id hid
  refine am [] [] Tryz.func166 rfl Tryz.ntmps166 Tryz.results166 ?_
  repeat' (first|apply ab|(apply V;rfl;(first|(apply bl;rfl)|(apply bg;rfl)|(apply cb;(apply plT;rfl);rfl;rfl;decide)|(apply bj;(apply tyT;rfl);rfl;(first|(apply at_;rfl;rfl)|(apply aa;assumption));rfl)|(apply bz;(apply tyT;rfl);rfl;(first|(apply at_;rfl;rfl)|(apply aa;assumption));rfl)|(apply ck;rfl)|(apply eu;rfl;rfl)))|(apply bt (nt:=20) (.take 0 (.take 1 (.take 2 (.take 3 (.take 4 (.take 5 (.take 6 (.take 7 (.take 8 (.one 9 (.take 10 (.take 11 (.take 12 (.one 13 (.take 14 (.take 15 .nil)))))))))))))))) [] [13];exact co;rfl;decide +kernel)|(apply oP;rfl;rfl;rfl;apply fnT;rfl;apply h;rintro _ ⟨k_,n_,t_,na_,ty_,cs_,m_,o_,y_,tt_,f_,rfl⟩)|(apply Vw;rfl;(first|(apply cd;rfl;(apply tyT;rfl))|(apply cj;rfl;rfl;rfl)))|(apply ac;rfl)|apply ai|(apply bf _ (.inr rfl);(exact List.prefix_append _ _);(focus repeat (first|apply a8|(apply a9;rfl)|(apply cp;rfl;rfl;apply tyT;rfl;rfl;rfl)));rfl)|apply dg|(apply tV;rfl;rfl;(first|(apply bl;rfl)|(apply bg;rfl)|(apply cb;(apply plT;rfl);rfl;rfl;decide)|(apply bj;(apply tyT;rfl);rfl;(first|(apply at_;rfl;rfl)|(apply aa;assumption));rfl)|(apply bz;(apply tyT;rfl);rfl;(first|(apply at_;rfl;rfl)|(apply aa;assumption));rfl)|(apply ck;rfl)|(apply eu;rfl;rfl));rfl)|(apply oS;rfl;rfl;(apply bw;rfl;(apply tyT;rfl);rfl;rfl;rfl;(first|(apply jl;rfl)|(apply mb;omega;rfl));rfl;rfl;(first|decide|(apply Nat.le_of_ble_eq_true;rfl)))))
  all_goals exact ⟨_,_,_,_,_,_,_,_,_,_,_,rfl⟩
theorem jlh (p:List Cl) (m:Me) (cls:ByteArray) (st:Bool) (vs:List Pa) (hp:Sz p) (hv:vs.length ≤ 4000000) (e:Ex) (t:ByteArray) (hN:qa e ≤ 1000000) (hok:jfw e):RB p m cls st vs 165 [vEx e,vS t] jyl:=by
  have h:=jlg p m cls st vs hp hv e hN hok
  obtain ⟨kd,num,tx,nm,ty,l,ow,nth⟩:=e
  unfold vEx at h ⊢
  rw [jn] at h ⊢
  intro S T M id hid
  refine am [] [] Tryz.func165 rfl Tryz.ntmps165 Tryz.results165 ?_
  repeat' (first|apply ab|(apply V;rfl;(first|(apply bl;rfl)|(apply bg;rfl)|(apply cb;(apply plT;rfl);rfl;rfl;decide)|(apply bj;(apply tyT;rfl);rfl;(first|(apply at_;rfl;rfl)|(apply aa;assumption));rfl)|(apply bz;(apply tyT;rfl);rfl;(first|(apply at_;rfl;rfl)|(apply aa;assumption));rfl)|(apply ck;rfl)|(apply eu;rfl;rfl)|(apply cg;rfl)))|(apply Vp;rfl;rfl;apply fnT;rfl;apply h;(first|(apply aa;assumption)|assumption|(apply aq;assumption));rintro _ ⟨k_,n_,t_,na_,ty_,cs_,m_,o_,y_,tt_,f_,rfl⟩)|(apply Vp;rfl;rfl;apply fnT;rfl;apply (vg p _ _ hp);rintro _ ⟨(_|_),rfl⟩)|(apply Vd;rfl;(apply fb;rfl;rfl);all_goals intro h_)|(apply Vw;rfl;(first|(apply cd;rfl;(apply tyT;rfl))|(apply cj;rfl;rfl;rfl)))|(apply Vs;rfl;(apply bw;rfl;(apply tyT;rfl);rfl;rfl;rfl;(first|apply bc|(apply bh;omega));rfl;rfl;(first|decide|(apply Nat.le_of_ble_eq_true;rfl))))|(apply ac;rfl)|apply ak|apply ah|apply ai|(apply ae;rfl)|(apply af;rfl)|(apply bf _ (.inr rfl);(exact List.prefix_append _ _);(focus repeat (first|apply a8|(apply a9;rfl)|(apply cp;rfl;rfl;apply tyT;rfl;rfl;rfl)));rfl)|apply ap|apply aw)
  all_goals exact ⟨_,_,_,_,_,_,_,_,_,_,rfl⟩
theorem jvn (p:List Cl) (m:Me) (cls:ByteArray) (st:Bool) (vs:List Pa) (hp:Sz p) (hv:vs.length ≤ 4000000) (s:Sm) (hN:gm s ≤ 1000000) (hok:nw s):RB p m cls st vs 168 [vSm s] jvm:=by
  obtain ⟨kd,num,ty,nm,e,a,b,c,nth⟩:=s
  rw [gm] at hN
  rw [nw] at hok
  obtain ⟨hsh,hE,hA,hB,hC⟩:=hok
  have hel:=fp e
  unfold vSm
  rw [nh]
  obtain ⟨q1,q2,q3,q4,q5,q6⟩:=m
  intro S T M id hid
  refine am [] [] Tryz.func168 rfl Tryz.ntmps168 Tryz.results168 ?_
  by_cases he:e.length = 0
  · cases q2
    all_goals
      repeat' (first|apply ab|(apply V;rfl;(first|(apply bl;rfl)|(apply bg;rfl)|(apply cb;(apply plT;rfl);rfl;rfl;decide)|(apply bj;(apply tyT;rfl);rfl;(first|(apply at_;rfl;rfl)|(apply aa;assumption));rfl)|(apply bz;(apply tyT;rfl);rfl;(first|(apply at_;rfl;rfl)|(apply aa;assumption));rfl)|(apply bq;(apply elT;rfl);rfl;rfl)|(apply ck;rfl)|(apply ca;rfl;rfl)|(apply bu;rfl;rfl)|(apply cg;rfl)))|(apply Vd;rfl;(first|(apply dq;rfl;rfl)|(apply du;rfl;rfl));all_goals intro h_)|(apply Vo;rfl)|(apply Vw;rfl;(first|(apply cd;rfl;(apply tyT;rfl))|(apply cj;rfl;rfl;rfl)))|(apply Vs;rfl;(apply bw;rfl;(apply tyT;rfl);rfl;rfl;rfl;(first|apply bc|(apply bh;omega));rfl;rfl;(first|decide|(apply Nat.le_of_ble_eq_true;rfl))))|(apply ac;rfl)|apply ak|apply ah|apply ai|(apply ae;rfl)|(apply af;rfl)|(apply bf _ (.inr rfl);(exact List.prefix_append _ _);(focus repeat (first|apply a8|(apply a9;rfl)|(apply cp;rfl;rfl;apply tyT;rfl;rfl;rfl)));rfl)|apply ap|apply aw|(show ew _ _ _ _ _ _;exfalso;omega))
      all_goals exact ⟨_,_,_,_,_,_,_,_,_,_,_,_,_,_,rfl⟩
  · obtain ⟨x,hx⟩:∃ x,e[0]? = some x:=⟨_,List.getElem?_eq_getElem (by omega)⟩
    have hxs:=jo hx
    have h:=jlg p ⟨q1,q2,q3,q4,q5,q6⟩ cls st vs hp hv x (by omega) (j8 hE hx)
    cases q2
    all_goals
      repeat' (first|apply ab|(apply V;rfl;(first|(apply bl;rfl)|(apply bg;rfl)|(apply cb;(apply plT;rfl);rfl;rfl;decide)|(apply bj;(apply tyT;rfl);rfl;(first|(apply at_;rfl;rfl)|(apply aa;assumption));rfl)|(apply bz;(apply tyT;rfl);rfl;(first|(apply at_;rfl;rfl)|(apply aa;assumption));rfl)|(apply dp;(apply tyT;rfl);rfl;(first|rfl|apply ay|apply ba))|(apply bq;(apply elT;rfl);rfl;rfl)|(apply ck;rfl)|(apply ca;rfl;rfl)|(apply bu;rfl;rfl)|(apply eu;rfl;rfl)|(apply cg;rfl)|(apply j0 (c:=x) (d4 e) ay;apply elT;rfl;rfl;rfl;rfl;omega;simpa using hx)))|(apply Vp;rfl;rfl;apply fnT;rfl;apply h;(first|(apply aa;assumption)|assumption|(apply aq;assumption));rintro _ ⟨k_,n_,t_,na_,ty_,cs_,m_,o_,y_,tt_,f_,rfl⟩)|(apply oP;rfl;rfl;rfl;apply fnT;rfl;apply (vg p _ _ hp);rintro _ ⟨(_|_),rfl⟩)|(apply bt (nt:=65) (.take 0 (.take 1 (.take 2 (.take 3 (.take 4 (.take 5 (.take 6 (.take 7 (.take 8 (.take 9 (.take 10 (.take 11 (.take 12 (.take 13 (.take 14 (.one 15 (.take 16 (.take 17 (.take 18 .nil))))))))))))))))))) [] [];exact co;rfl;decide +kernel)|(apply Vd;rfl;(first|(apply dq;rfl;rfl)|(apply du;rfl;rfl));all_goals intro h_)|(apply Vo;rfl)|(apply Vw;rfl;(first|(apply cd;rfl;(apply tyT;rfl))|(apply cj;rfl;rfl;rfl)|(apply d8;rfl;(apply elT;rfl);(apply tyT;rfl);rfl;decide;rfl;rfl)))|(apply Vs;rfl;(apply bw;rfl;(apply tyT;rfl);rfl;rfl;rfl;(first|apply bc|(apply bh;omega));rfl;rfl;(first|decide|(apply Nat.le_of_ble_eq_true;rfl))))|(apply ac;rfl)|apply ak|(apply al;rfl)|apply ah|apply ai|(apply ae;rfl)|(apply af;rfl)|(apply bf _ (.inr rfl);(exact List.prefix_append _ _);(focus repeat (first|apply a8|(apply a9;rfl)|(apply cp;rfl;rfl;apply tyT;rfl;rfl;rfl)));rfl)|apply ap|apply aw|apply dg|(apply tV;rfl;rfl;(first|(apply bl;rfl)|(apply bg;rfl)|(apply cb;(apply plT;rfl);rfl;rfl;decide)|(apply bj;(apply tyT;rfl);rfl;(first|(apply at_;rfl;rfl)|(apply aa;assumption));rfl)|(apply bz;(apply tyT;rfl);rfl;(first|(apply at_;rfl;rfl)|(apply aa;assumption));rfl)|(apply dp;(apply tyT;rfl);rfl;(first|rfl|apply ay|apply ba))|(apply bq;(apply elT;rfl);rfl;rfl)|(apply ck;rfl)|(apply ca;rfl;rfl)|(apply bu;rfl;rfl)|(apply eu;rfl;rfl)|(apply cg;rfl)|(apply j0 (c:=x) (d4 e) ay;apply elT;rfl;rfl;rfl;rfl;omega;simpa using hx));rfl)|(apply tVd;rfl;rfl;(first|(apply dq;rfl;rfl)|(apply du;rfl;rfl));rfl;all_goals intro h_)|(apply tVo;rfl;rfl)|(apply oVo;rfl;rfl))
      all_goals exact ⟨_,_,_,_,_,_,_,_,_,_,_,_,_,_,rfl⟩
theorem jop:∀ n l,d5 l ≤ n → d5 l ≤ 1000000 → PC 161 [.d (eq l)] isB:=by
  intro n
  induction n using Nat.strongRecOn with
  | _ n ih=>?_
  intro l hn hN
  have hlen:=qi l
  intro S T M
  refine am [] [] Tryz.func161 rfl Tryz.ntmps161 Tryz.results161 ?_
  repeat' (first|apply ab|(apply V;rfl;(apply bg;rfl))|(apply ac;rfl)|apply ak|apply aj)
  refine cx (fun k:Nat=>l.length - k) (fun k=>[(0,.d (eq l)),(3,vI k)]) (fun k S1 T1=>k ≤ l.length ∧ S.length ≤ S1.length ∧ T <+: T1) 0 ⟨Nat.zero_le _,by simp,by simp⟩ ⟨rfl,rfl,trivial⟩ ?_
  rintro k S1 T1 ⟨hk,hS,hT⟩
  repeat' (first|apply ab|(apply V;rfl;(first|(apply bl;rfl)|(apply bg;rfl)|(apply bq;(apply elT;rfl);rfl;rfl)))|(apply Vd;rfl;(apply cu;rfl;rfl);all_goals intro h_)|(apply ac;rfl)|apply ak|apply aj|apply ah|apply bd|apply ai|(apply ae;rfl)|(apply af;rfl)|(apply bf _ (.inr rfl);(apply av;assumption);(focus repeat (first|apply a8|(apply a9;rfl)));rfl)|apply ap|apply ey|apply bo)
  · obtain ⟨⟨kd,num,ty,nm,e,a,b,c,nth⟩,hc⟩:∃ c,l[k]? = some c:=⟨_,List.getElem?_eq_getElem (by omega)⟩
    have hsz:=w9 hc
    rw [gm] at hsz
    have hel:=fp e
    have h1:=ih (d5 a) (by omega) a (Nat.le_refl _) (by omega)
    have h2:=ih (d5 b) (by omega) b (Nat.le_refl _) (by omega)
    have h3:=ih (d5 c) (by omega) c (Nat.le_refl _) (by omega)
    by_cases he:e.length = 0
    · repeat' (first|apply ab|(apply V;rfl;(first|(apply bl;rfl)|(apply bg;rfl)|(apply cb;(apply plT;rfl);rfl;rfl;decide)|(apply bz;(apply tyT;rfl);rfl;(apply at_;rfl;rfl);rfl)|(apply dp;(apply tyT;rfl);rfl;(first|rfl|apply ay|apply ba))|(apply bq;(apply elT;rfl);rfl;rfl)|(apply ca;rfl;rfl)|(apply bu;rfl;rfl)|(apply cg;rfl)|(apply az;rfl;rfl;rfl;omega)|(apply j0 (g8 l) ba;apply elT;rfl;rfl;rfl;rfl;omega;simpa using hc)))|(apply Vp;rfl;rfl;apply fnT;rfl;apply h1;rintro _ ⟨(_|_),rfl⟩)|(apply Vp;rfl;rfl;apply fnT;rfl;apply h2;rintro _ ⟨(_|_),rfl⟩)|(apply Vp;rfl;rfl;apply fnT;rfl;apply h3;rintro _ ⟨(_|_),rfl⟩)|(apply Vd;rfl;(first|(apply gj;rfl;rfl)|(apply dq;rfl;rfl));all_goals intro h_)|(apply Vo;rfl)|(apply Vw;rfl;(apply cd;rfl;(apply tyT;rfl)))|(apply Vs;rfl;(apply bw;rfl;(apply tyT;rfl);rfl;rfl;rfl;(first|apply bc|(apply bh;omega));rfl;rfl;(first|decide|(apply Nat.le_of_ble_eq_true;rfl))))|(apply ac;rfl)|apply ak|(apply al;rfl)|apply aj|apply ah|apply ai|(apply ae;rfl)|(apply af;rfl)|(apply bf _ (.inr rfl);(apply av;assumption);(focus repeat (first|apply a8|(apply a9;rfl)));rfl)|apply ap|apply cq|apply dm|apply aw|(show ew _ _ _ _ _ _;exfalso;omega))
      all_goals first|exact ⟨_,rfl⟩|exact ⟨k + 1,_,_,by omega,⟨by omega,by simp only [List.length_append];omega,av hT⟩,⟨rfl,di (by omega),trivial⟩,rfl⟩
    · obtain ⟨⟨xk,xn,xt,xm,xy,xl,xo,xh⟩,hx⟩:∃ x,e[0]? = some x:=⟨_,List.getElem?_eq_getElem (by omega)⟩
      repeat' (first|apply ab|(apply V;rfl;(first|(apply bl;rfl)|(apply bg;rfl)|(apply cb;(apply plT;rfl);rfl;rfl;decide)|(apply fz;(apply plT;rfl);rfl;rfl;decide)|(apply bz;(apply tyT;rfl);rfl;(apply at_;rfl;rfl);rfl)|(apply dp;(apply tyT;rfl);rfl;(first|rfl|apply ay|apply ba))|(apply ef;(apply tyT;rfl);rfl;rfl)|(apply bq;(apply elT;rfl);rfl;rfl)|(apply ca;rfl;rfl)|(apply bu;rfl;rfl)|(apply cg;rfl)|(apply az;rfl;rfl;rfl;omega)|(apply j0 (g8 l) ba;apply elT;rfl;rfl;rfl;rfl;omega;simpa using hc)|(apply j0 (c:=Ex.mk xk xn xt xm xy xl xo xh) (d4 e) ay;apply elT;rfl;rfl;rfl;rfl;omega;simpa using hx)))|(apply Vp;rfl;rfl;apply fnT;rfl;apply h1;rintro _ ⟨(_|_),rfl⟩)|(apply Vp;rfl;rfl;apply fnT;rfl;apply h2;rintro _ ⟨(_|_),rfl⟩)|(apply Vp;rfl;rfl;apply fnT;rfl;apply h3;rintro _ ⟨(_|_),rfl⟩)|(apply Vd;rfl;(first|(apply gj;rfl;rfl)|(apply dq;rfl;rfl));all_goals intro h_)|(apply Vo;rfl)|(apply Vw;rfl;(apply cd;rfl;(apply tyT;rfl)))|(apply Vs;rfl;(apply bw;rfl;(apply tyT;rfl);rfl;rfl;rfl;(first|apply bc|(apply bh;omega));rfl;rfl;(first|decide|(apply Nat.le_of_ble_eq_true;rfl))))|(apply ac;rfl)|apply ak|(apply al;rfl)|apply aj|apply ah|apply ai|(apply ae;rfl)|(apply af;rfl)|(apply bf _ (.inr rfl);(apply av;assumption);(focus repeat (first|apply a8|(apply a9;rfl)));rfl)|apply ap|apply cq|apply dm|apply aw)
      all_goals first|exact ⟨_,rfl⟩|exact ⟨k + 1,_,_,by omega,⟨by omega,by simp only [List.length_append];omega,av hT⟩,⟨rfl,di (by omega),trivial⟩,rfl⟩
  · exact ⟨_,rfl⟩
theorem jvo (m:Me) (hm:y5 m ≤ 1000000):PC 149 [vMe m] isB:=by
  have h:=jop _ m.body (Nat.le_refl _) (by simp only [y5] at hm;omega)
  obtain ⟨q1,q2,q3,q4,q5,q6⟩:=m
  unfold vMe j1
  intro S T M
  refine am [] [] Tryz.func149 rfl Tryz.ntmps149 Tryz.results149 ?_
  cases q2
  all_goals
    repeat' (first|apply ab|(apply V;rfl;(first|(apply bl;rfl)|(apply bg;rfl)|(apply cb;(apply plT;rfl);rfl;rfl;decide)|(apply bz;(apply tyT;rfl);rfl;(apply at_;rfl;rfl);rfl)|(apply ca;rfl;rfl)|(apply bu;rfl;rfl)|(apply cg;rfl)))|(apply Vp;rfl;rfl;apply fnT;rfl;apply h;rintro _ ⟨(_|_),rfl⟩)|(apply Vd;rfl;(apply du;rfl;rfl);all_goals intro h_)|(apply Vo;rfl)|(apply Vw;rfl;(apply cj;rfl;rfl;rfl))|(apply ac;rfl)|apply ai|(apply bf _ (.inr rfl);(exact List.prefix_append _ _);(focus repeat (first|apply a8|(apply a9;rfl)));rfl))
    all_goals exact ⟨_,rfl⟩
theorem jvp (p:List Cl) (m:Me) (cls:ByteArray) (st:Bool) (vs:List Pa) (hp:Sz p) (hv:vs.length ≤ 4000000) (s:Sm) (hN:gm s ≤ 1000000) (hok:nw s):RB p m cls st vs 170 [vSm s] jvm:=by
  obtain ⟨kd,num,ty,nm,e,a,b,c,nth⟩:=s
  rw [gm] at hN
  rw [nw] at hok
  obtain ⟨hsh,hE,hA,hB,hC⟩:=hok
  have hel:=fp e
  unfold vSm
  rw [nh]
  intro S T M id hid
  have hidl:=(List.getElem?_eq_some_iff.1 hid).1
  refine am [] [] Tryz.func170 rfl Tryz.ntmps170 Tryz.results170 ?_
  repeat' (first|apply ab|(apply V;rfl;(first|(apply bl;rfl)|(apply bg;rfl)|(apply cb;(apply plT;rfl);rfl;rfl;decide)|(apply bj;(apply tyT;rfl);rfl;(first|(apply at_;rfl;rfl)|(apply aa;assumption));rfl)|(apply bz;(apply tyT;rfl);rfl;(first|(apply at_;rfl;rfl)|(apply aa;assumption));rfl)|(apply ck;rfl)))|(apply bt (nt:=88) (.take 0 (.take 1 (.take 2 (.take 3 (.take 4 (.take 5 (.take 6 (.take 7 (.take 8 (.one 9 (.take 10 .nil))))))))))) [] [];exact co;rfl;decide +kernel)|(apply oP;rfl;rfl;rfl;apply fnT;rfl;apply (ji6 p _ hp);rintro _ ⟨sup_,rfl⟩)|(apply Vd;rfl;(apply du;rfl;rfl);all_goals intro h_)|(apply Vw;rfl;(first|(apply cd;rfl;(apply tyT;rfl))|(apply cj;rfl;rfl;rfl)))|(apply Vs;rfl;(apply bw;rfl;(apply tyT;rfl);rfl;rfl;rfl;(first|apply bc|(apply bh;omega));rfl;rfl;(first|decide|(apply Nat.le_of_ble_eq_true;rfl))))|(apply ac;rfl)|apply ak|apply aj|apply ah|apply ai|(apply ae;rfl)|(apply af;rfl)|(apply bf _ (.inr rfl);(exact List.prefix_append _ _);(focus repeat (first|apply a8|(apply a9;rfl)|(apply cp;rfl;rfl;apply tyT;rfl;rfl;rfl)));rfl)|apply ap|apply aw|apply dg|(apply tV;rfl;rfl;(first|(apply bl;rfl)|(apply bg;rfl)|(apply cb;(apply plT;rfl);rfl;rfl;decide)|(apply bj;(apply tyT;rfl);rfl;(first|(apply at_;rfl;rfl)|(apply aa;assumption));rfl)|(apply bz;(apply tyT;rfl);rfl;(first|(apply at_;rfl;rfl)|(apply aa;assumption));rfl)|(apply ck;rfl));rfl))
  · exact ⟨_,_,_,_,_,_,_,_,_,_,_,_,_,_,rfl⟩
  refine gc 8 124 8 rfl rfl ?_
  refine gc 9 9 1 rfl rfl ?_
  refine cx (fun k:Nat × List DV × List ByteArray=>e.length - k.1) (fun k=>[(0,.ptr id 0),(3,.ptr (S.length + 0) 0),(4,.ptr (S.length + 1) 0),(6,vS sup_),(7,.ptr (S.length + 2) 0),(8,.own 124 8 (T.length + 0) k.2.1 k.1),(9,.own 9 1 (T.length + 1) (k.2.2.flatMap dw) k.2.2.length),(10,vI k.1)]) (fun k S1 T1=>k.1 ≤ e.length ∧ k.2.1.length = 8 * k.1 ∧ k.2.2.length = k.1 ∧ S.length + 3 ≤ S1.length ∧ T <+: T1 ∧ S1[id]? = some (bxB p m cls st vs,196) ∧ S1[S.length + 0]? = some ([vI kd,.d (dN num),vS ty,vS nm,.d (qg e),.d (eq a),.d (eq b),.d (eq c),vI nth],126) ∧ S1[S.length + 1]? = some ([vI 0,.d (dN 0),vS ⟨#[]⟩,vS ⟨#[]⟩,.tight [] 0,.tight [] 0,.tight [] 0,.tight [] 0,vI 0],126) ∧ S1[S.length + 2]? = some ([vS cls,vB true,.d (cy gk vs)],166) ∧ T1[T.length + 0]? = some k.2.1.length ∧ T1[T.length + 1]? = some (k.2.2.flatMap dw).length) (0,[],[]) ⟨Nat.zero_le _,rfl,rfl,by simp,by simp,aa hid,at_ rfl rfl,at_ rfl rfl,at_ rfl rfl,by simp,by simp⟩ ⟨rfl,rfl,rfl,rfl,rfl,rfl,rfl,rfl,trivial⟩ ?_
  rintro ⟨k,cs,ts⟩ S1 T1 ⟨hk,hcs,hts,hS,hT,hb,hb0,hb1,hb2,hT0,hT1⟩
  dsimp only at hk hcs hts hT0 hT1 ⊢
  have h00:T.length ≤ T.length + 0:=Nat.le_refl _
  have h01:T.length ≤ T.length + 1:=by omega
  have hlt1:S.length + 1 < S1.length:=by omega
  have hlt0:S.length + 0 < S1.length:=by omega
  have hlti:id < S1.length:=by omega
  have hnei:id ≠ S.length + 0:=by omega
  have hnej:id ≠ S.length + 1:=by omega
  repeat' (first|apply ab|(apply V;rfl;(first|(apply bl;rfl)|(apply bg;rfl)|(apply cb;(apply plT;rfl);rfl;rfl;decide)|(apply bj;(apply tyT;rfl);rfl;(first|(apply aa;assumption)|(apply aq;assumption));rfl)|(apply bz;(apply tyT;rfl);rfl;(first|(apply aa;assumption)|(apply aq;assumption));rfl)|(apply bq;(apply elT;rfl);rfl;rfl)|(apply ck;rfl)|(apply eu;rfl;rfl)))|(apply Vp;rfl;rfl;apply fnT;rfl;apply ea;rfl;apply (jp4 ts _);rintro _ ⟨(_|_),rfl,-⟩)|(apply Vp;rfl;rfl;apply fnT;rfl;apply ea;rfl;apply (jir p _ ts hp);rintro _ ⟨o_,n_,e_,rfl⟩)|(apply bt (nt:=88) (.take 0 (.take 1 (.take 2 (.take 3 (.one 4 (.take 5 (.one 6 .nil))))))) [S.length + 0] [];exact co;rfl;decide +kernel)|(apply tV;rfl;rfl;(apply bz;(apply tyT;rfl);rfl;(apply at_;rfl;rfl);rfl);(apply ek;rfl;(simp;omega)))|(apply oS;rfl;rfl;(apply fg;(apply tyT;rfl);rfl;rfl;assumption;(apply e8;omega;(simp));rfl;rfl;(apply Nat.le_of_ble_eq_true;rfl)))|(apply oS;rfl;rfl;(apply jm;(apply tyT;rfl);rfl;rfl;assumption;(apply e8;omega;(simp));rfl;rfl;(apply Nat.le_of_ble_eq_true;rfl)))|(apply Vs;rfl;(apply fg;(apply tyT;rfl);rfl;rfl;assumption;(apply bh;omega);rfl;rfl;(apply Nat.le_of_ble_eq_true;rfl)))|(apply Vs;rfl;(apply fg;(apply tyT;rfl);rfl;rfl;(exact fe (by omega) (by assumption));(apply bh;omega);rfl;rfl;(apply Nat.le_of_ble_eq_true;rfl)))|(apply bf _ (.inr rfl);(first|exact List.prefix_append _ _|assumption|(apply av;assumption)|(apply av;apply dc <;> assumption));(focus repeat (first|apply a8|(apply a9;rfl)|(apply ez;rfl;(apply tyT;rfl);(apply List.getElem?_set_self;assumption);rfl)));rfl)|(apply bf _ (.inr rfl);(first|exact List.prefix_append _ _|assumption|(apply av;assumption)|(apply av;apply dc <;> assumption));(focus repeat (first|apply a8|(apply a9;rfl)|(apply ez;rfl;(apply tyT;rfl);(apply List.getElem?_set_self;(rw [List.length_set];assumption));rfl)));rfl)|(apply Vd;rfl;(apply cu;rfl;rfl);all_goals intro h_)|(apply Vw;rfl;(apply cd;rfl;(apply tyT;rfl)))|(apply Vs;rfl;(apply bw;rfl;(apply tyT;rfl);rfl;rfl;rfl;(first|apply bc|(apply bh;omega));rfl;rfl;(first|decide|(apply Nat.le_of_ble_eq_true;rfl))))|(apply ac;rfl)|apply ak|apply aj|apply ah|apply bd|apply ai|(apply ae;rfl)|(apply af;rfl)|apply ap|apply ey|apply aw|apply bo|apply dg|(apply tV;rfl;rfl;(first|(apply bl;rfl)|(apply bg;rfl)|(apply cb;(apply plT;rfl);rfl;rfl;decide)|(apply bj;(apply tyT;rfl);rfl;(first|(apply aa;assumption)|(apply aq;assumption));rfl)|(apply bz;(apply tyT;rfl);rfl;(first|(apply aa;assumption)|(apply aq;assumption));rfl)|(apply bq;(apply elT;rfl);rfl;rfl)|(apply ck;rfl)|(apply eu;rfl;rfl));rfl))
  · obtain ⟨c,hc⟩:∃ c,e[k]? = some c:=⟨_,List.getElem?_eq_getElem (by omega)⟩
    have hcz:=jo hc
    have h:=joo p hp cls true vs hv c (by omega) (j8 hE hc)
    repeat' (first|apply ab|(apply V;rfl;(first|(apply bl;rfl)|(apply bg;rfl)|(apply cb;(apply plT;rfl);rfl;rfl;decide)|(apply bj;(apply tyT;rfl);rfl;(first|(apply at_;rfl;rfl)|(apply aa;assumption));rfl)|(apply dp;(apply tyT;rfl);rfl;(first|rfl|apply ay|apply ba))|(apply ck;rfl)|(apply eu;rfl;rfl)|(apply az;rfl;rfl;rfl;omega)|(apply j0 (c:=c) (d4 e) ay;apply elT;rfl;rfl;rfl;rfl;omega;simpa using hc)))|apply nr|(apply de (nt:=88) (.take 0 (.take 1 (.take 2 (.take 3 (.take 4 (.take 5 (.take 6 (.take 7 (.take 8 (.take 9 (.fork 10 (.take 11 (.take 12 (.take 13 (.take 14 (.one 15 (.one 16 (.take 17 (.take 18 .nil)))))))) 15 (.one 10 (.take 11 (.take 12 (.take 13 (.take 14 (.one 16 (.take 17 (.take 18 .nil))))))))))))))))))) [S1.length + 0] [];exact co;rfl;decide +kernel)|(apply tV;rfl;rfl;(apply bj;(apply tyT;rfl);rfl;(apply aa;assumption);rfl);(apply ek;rfl;(simp;omega)))|(apply tV;rfl;rfl;(apply bz;(apply tyT;rfl);rfl;(apply aa;assumption);rfl);(apply ek;rfl;(simp;omega)))|(apply oS;rfl;rfl;(apply bw;rfl;(apply tyT;rfl);rfl;rfl;rfl;(apply e8;omega;(simp));rfl;rfl;(apply Nat.le_of_ble_eq_true;rfl)))|(apply oP;rfl;rfl;rfl;apply fnT;rfl;apply h;rintro _ ⟨k_,n_,t_,na_,ty_,cs_,m_,o_,y_,tt_,f_,rfl⟩)|(apply Vs;rfl;(apply fg;(apply tyT;rfl);rfl;rfl;assumption;(apply bh;omega);rfl;rfl;(apply Nat.le_of_ble_eq_true;rfl)))|(apply bf _ (.inr rfl);(first|exact List.prefix_append _ _|assumption|(apply av;assumption)|(apply av;apply dc <;> assumption));(focus repeat (first|apply a8|(apply a9;rfl)|(apply ez;rfl;(apply tyT;rfl);(apply List.getElem?_set_self;assumption);rfl)));rfl)|(apply Vd;rfl;(apply fb;rfl;rfl);all_goals intro h_)|(apply Vw;rfl;(first|(apply cd;rfl;(apply tyT;rfl))|(apply d8;rfl;(apply elT;rfl);(apply tyT;rfl);rfl;decide;rfl;rfl)|(apply mf;(apply elT;rfl);(apply tyT;rfl);(apply byT;rfl);rfl;rfl;rfl;decide;rfl;(apply ee (f:=dw) (c:=tt_);omega;omega;(rw [List.getElem?_set_ne (by omega)];assumption)))|(apply mf;(apply elT;rfl);(apply tyT;rfl);(apply byT;rfl);rfl;rfl;rfl;decide;rfl;(apply qf;decide;omega;omega;assumption))))|(apply ac;rfl)|apply ak|(apply al;rfl)|apply ah|apply ai|(apply ae;rfl)|(apply af;rfl)|apply ap|apply cq|apply dm|apply aw|apply dg|(apply tV;rfl;rfl;(first|(apply bl;rfl)|(apply bg;rfl)|(apply cb;(apply plT;rfl);rfl;rfl;decide)|(apply bj;(apply tyT;rfl);rfl;(first|(apply at_;rfl;rfl)|(apply aa;assumption));rfl)|(apply dp;(apply tyT;rfl);rfl;(first|rfl|apply ay|apply ba))|(apply ck;rfl)|(apply eu;rfl;rfl)|(apply az;rfl;rfl;rfl;omega)|(apply j0 (c:=c) (d4 e) ay;apply elT;rfl;rfl;rfl;rfl;omega;simpa using hc));rfl)|(apply oW;rfl;rfl;(first|(apply cd;rfl;(apply tyT;rfl))|(apply d8;rfl;(apply elT;rfl);(apply tyT;rfl);rfl;decide;rfl;rfl)|(apply mf;(apply elT;rfl);(apply tyT;rfl);(apply byT;rfl);rfl;rfl;rfl;decide;rfl;(apply ee (f:=dw) (c:=tt_);omega;omega;(rw [List.getElem?_set_ne (by omega)];assumption)))|(apply mf;(apply elT;rfl);(apply tyT;rfl);(apply byT;rfl);rfl;rfl;rfl;decide;rfl;(apply qf;decide;omega;omega;assumption)))))
    all_goals first
      | exact ⟨_,_,_,_,_,_,_,_,_,_,_,_,_,_,rfl⟩
      | exact ⟨(k + 1,cs ++ [dI k_,dN n_,dS t_,dS na_,dS ty_,.sl cs_ m_,dS o_,dI y_],ts ++ [tt_]),_,_,by dsimp only;omega,⟨by dsimp only;omega,by simp only [List.length_append,List.length_cons,List.length_nil];omega,by simp only [List.length_append,List.length_cons,List.length_nil];omega,by simp only [List.length_append];omega,av (dc (dc hT h00) h01),aa hb,aa hb0,aa hb1,aa hb2,aa (by rw [List.getElem?_set_ne (by omega)];exact List.getElem?_set_self (List.getElem?_eq_some_iff.1 hT0).1),aa (List.getElem?_set_self (by rw [List.length_set];exact (List.getElem?_eq_some_iff.1 hT1).1))⟩,⟨rfl,rfl,rfl,rfl,rfl,rfl,rfl,di (by omega),trivial⟩,rfl⟩
  all_goals exact ⟨_,_,_,_,_,_,_,_,_,_,_,_,_,_,rfl⟩
end Go.Proofs.YtinffhimfoicdaaGreat
namespace Go.Proofs.YtinffhimfoicdaaGreat
open Go Go.RowKit Go.Proofs.YtinffhimfoicdaaGreat.Calc
set_option linter.unusedVariables false
set_option linter.unusedSimpArgs false
set_option maxRecDepth 100000
set_option maxHeartbeats 8000000
theorem vl {α:Type} {f:α → List DV} {k:Nat} (h:∀ c,(f c).length = k):∀(l:List α) (n:Nat),(l.flatMap f).take (n * k) =(l.take n).flatMap f
  | [],n=>by simp
  | c :: l,0=>by simp
  | c :: l,n + 1=>by
    have e:(n + 1) * k =(f c).length + n * k:=by rw [h,Nat.add_mul];omega
    rw [List.flatMap_cons,e,List.take_append,List.take_of_length_le (by omega),Nat.add_sub_cancel_left,vl h l n,List.take_succ_cons,List.flatMap_cons]
theorem z5 {P:Program} {st:St} {ρ:Rg} {x hi mx:Operand} {t:Nat} {α:Type} {f:α → List DV} {l:List α} {e sz h:Nat} {k1 k2:IntKind} (he:u9 P t = some (e,sz)) (hx:evB ρ x = some (.d (.sl (l.flatMap f) l.length))) (hh:fl ρ hi = some (.int k1 (h:Int))) (hm:fl ρ mx = some (.int k2 (h:Int))) (hf:∀ c,(f c).length = sz) (h2:h ≤ l.length) :
    bn P st ρ (.slice t x none (some hi) (some mx)) = some (.tight ((l.take h).flatMap f) (l.take h).length):=by
  have e1:(l.take h).length = h:=by rw [List.length_take];omega
  rw [e1,← vl hf l h]
  simp [bn,hx,mg,he,jfr,hh,hm,h2]
theorem tq {S:List (List BV × Nat)} {T X:List Nat} {M:List (List (Value × DV))} {nt:Nat} {α:Type} {f:α → List DV} {l:List α} {c:α} {e sz by':Nat} (hT:T.length = nt) (h1:(l.length + 1) * by' ≤ 140737488355328) (h2:l.length + 1 ≤ 9223372036854775807) (hf:∀ c,(f c).length = sz) :
    jb4 e sz by' (.tight (l.flatMap f) l.length) (f c) 1 ⟨S,T ++ X,M⟩ = some (⟨S,T ++(X ++ [((l ++ [c]).flatMap f).length]),M⟩,.own e sz (nt + X.length) ((l ++ [c]).flatMap f) (l ++ [c]).length):=by
  rw [jkz hT (by decide) h1 h2 (ma hf l)]
  simp
theorem jhs {l:List Sm} {k:Nat} {c:Sm} (h:l[k]? = some c):d5 (l.drop k) = gm c + d5 (l.drop (k + 1)):=by
  obtain ⟨hk,e⟩:=List.getElem?_eq_some_iff.1 h
  rw [List.drop_eq_getElem_cons hk,d5,e]
theorem jrc {P:Program} {st:St} {ρ:Rg} {x y:Operand} {t ty:Nat} {k:IntKind} {a b:Int} (hx:fl ρ x = some (.int k a)) (hy:fl ρ y = some (.int k b)) (h:¬ a = b):bn P st ρ (.binOp .eql t x y ty) = some (vB false):=by
  rw [dq hx hy,decide_eq_false h]
abbrev WB (p:List Cl) (m:Me) (cls:ByteArray) (st:Bool) (vs:List Pa) (f:Nat) (args:List BV) (R:List Pa → BV → Prop):Prop:=∀ S T M id,S[id]? = some (bxB p m cls st vs,196) → ci Tryz.prog [id] [] f (.ptr id 0 :: args) ⟨S,T,M⟩ (fun r s=>∃ vs',s = ⟨S.set id (bxB p m cls st vs',196),T,M⟩ ∧ R vs' r)
abbrev SmR (vs:List Pa) (l:List Sm) (vs':List Pa) (r:BV):Prop:=∃(cs:List DV) (n:Nat) (f:Int),r = .tup [.d (.sl cs n),vI f] ∧ vs.length ≤ vs'.length ∧ vs'.length ≤ vs.length + d5 l ∧(f = 0 → vs'.length = vs.length)
abbrev YR (vs:List Pa) (z:Nat) (vs':List Pa) (r:BV):Prop:=jvm r ∧ vs.length ≤ vs'.length ∧ vs'.length ≤ vs.length + z
abbrev StB (p:List Cl) (m:Me) (cls:ByteArray) (st:Bool) (n:Nat):Prop:=∀ vs l,d5 l ≤ n → vs.length + d5 l ≤ 3000000 → d5 l ≤ 1000000 → kx l → WB p m cls st vs 148 [.d (eq l)] (SmR vs l)
attribute [local irreducible] Tri ew er ci bn db d7 inQ jb
theorem jvq (p:List Cl) (m:Me) (cls:ByteArray) (st:Bool) (hp:Sz p) (n:Nat) (ih:StB p m cls st n) (vs:List Pa) (kd num:Int) (ty nm:ByteArray) (cs0:List DV) (n0:Nat) (nth:Int) (a b c:List Sm) (hn:d5 a + d5 b + d5 c ≤ n) (hv:vs.length + 1 +(d5 a + d5 b + d5 c) ≤ 3000000) (hN:d5 a + d5 b + d5 c ≤ 1000000) (ha:kx a) (hb:kx b) (hc:kx c):WB p m cls st vs 167 [.agg [vI kd,.d (dN num),vS ty,vS nm,.d (.sl cs0 n0),.d (eq a),.d (eq b),.d (eq c),vI nth]] (YR vs (d5 a + d5 b + d5 c)):=by
  intro S T M id hid
  have hlt:=(List.getElem?_eq_some_iff.1 hid).1
  refine am [id] [] Tryz.func167 rfl Tryz.ntmps167 Tryz.results167 ?_
  repeat' (first|apply ab|(apply V;rfl;(first|(apply bj;(apply tyT;rfl);rfl;(apply at_;exact List.length_set;rfl);rfl)|(apply bz;(apply tyT;rfl);rfl;(apply at_;exact List.length_set;rfl);rfl)|(apply bl;rfl)|(apply bg;rfl)|(apply cb;(apply plT;rfl);rfl;rfl;decide)|(apply bz;(apply tyT;rfl);rfl;(apply at_;rfl;rfl);rfl)|(apply eu;rfl;rfl)))|(apply Vs;rfl;(apply bw;exact List.length_set;(apply tyT;rfl);rfl;rfl;rfl;(first|apply bc|(apply bh;omega));rfl;rfl;(first|decide|(apply Nat.le_of_ble_eq_true;rfl))))|(apply fm _ (.inr rfl);(exact List.prefix_append _ _);(focus repeat (first|apply a8|(apply a9;rfl)|(apply cp;exact List.length_set;rfl;apply tyT;rfl;rfl;rfl)));rfl;(first|(apply aq;assumption)|(apply aa;assumption));rfl;rfl)|(apply Vc;rfl;rfl;apply fnT;rfl;apply (ih vs a);omega;omega;omega;assumption;(first|(apply aa;assumption)|(apply aq;assumption));(intro i_ hi_ _;obtain rfl:=List.mem_singleton.1 hi_;(apply bm;simp));(intro i_ hi_;cases hi_);rintro _ _ ⟨v1,rfl,c1_,n1_,f1_,rfl,hl1,hu1,hz1⟩ <;>(first|rw [au (by assumption)]|rw [ax (by assumption)]|skip))|(apply Vc;rfl;rfl;apply fnT;rfl;apply (ih v1 b);omega;omega;omega;assumption;(first|(apply aa;assumption)|(apply aq;assumption));(intro i_ hi_ _;obtain rfl:=List.mem_singleton.1 hi_;(apply bm;simp));(intro i_ hi_;cases hi_);rintro _ _ ⟨v2,rfl,c2_,n2_,f2_,rfl,hl2,hu2,hz2⟩ <;>(first|rw [au (by assumption)]|rw [ax (by assumption)]|skip))|(apply Vc;rfl;rfl;apply fnT;rfl;apply (ih v2 c);omega;omega;omega;assumption;(first|(apply aa;assumption)|(apply aq;assumption));(intro i_ hi_ _;obtain rfl:=List.mem_singleton.1 hi_;(apply bm;simp));(intro i_ hi_;cases hi_);rintro _ _ ⟨v3,rfl,c3_,n3_,f3_,rfl,hl3,hu3,hz3⟩ <;>(first|rw [au (by assumption)]|rw [ax (by assumption)]|skip))|(apply Vd;rfl;(apply fb;rfl;rfl);all_goals intro h_)|(apply Vw;rfl;(first|(apply cd;rfl;(apply tyT;rfl))|(apply cj;rfl;rfl;rfl)))|(apply ac;rfl)|apply ak|apply ah|apply ai|(apply ae;rfl)|(apply af;rfl)|apply ap|apply aw)
  · exact ⟨v1,rfl,⟨_,_,_,_,_,_,_,_,_,_,_,_,_,_,rfl⟩,by omega,by omega⟩
  · exact ⟨v2,rfl,⟨_,_,_,_,_,_,_,_,_,_,_,_,_,_,rfl⟩,by omega,by omega⟩
  · exact ⟨v3,rfl,⟨_,_,_,_,_,_,_,_,_,_,_,_,_,_,rfl⟩,by omega,by omega⟩
theorem jvr (p:List Cl) (m:Me) (cls:ByteArray) (st:Bool) (hp:Sz p) (n:Nat) (ih:StB p m cls st n) (vs:List Pa) (kd num:Int) (ty nm:ByteArray) (cs0:List DV) (n0:Nat) (nth:Int) (a b c:List Sm) (hn:d5 a + d5 b + d5 c ≤ n) (hv:vs.length + 1 +(d5 a + d5 b + d5 c) ≤ 3000000) (hN:d5 a + d5 b + d5 c ≤ 1000000) (ha:kx a) (hb:kx b) (hc:kx c):WB p m cls st vs 169 [.agg [vI kd,.d (dN num),vS ty,vS nm,.d (.sl cs0 n0),.d (eq a),.d (eq b),.d (eq c),vI nth]] (YR vs (1 +(d5 a + d5 b + d5 c))):=by
  intro S T M id hid
  have hlt:=(List.getElem?_eq_some_iff.1 hid).1
  refine am [id] [] Tryz.func169 rfl Tryz.ntmps169 Tryz.results169 ?_
  repeat' (first|apply ab|(apply V;rfl;(first|(apply bj;(apply tyT;rfl);rfl;(apply at_;exact List.length_set;rfl);rfl)|(apply bz;(apply tyT;rfl);rfl;(apply at_;exact List.length_set;rfl);rfl)|(apply bl;rfl)|(apply bg;rfl)|(apply cb;(apply plT;rfl);rfl;rfl;decide)|(apply bz;(apply tyT;rfl);rfl;(first|(apply at_;rfl;rfl)|(apply aq;assumption));rfl)|(apply bq;(apply elT;rfl);rfl;rfl)|(apply ck;rfl)|(apply eu;rfl;rfl)|(apply cg;rfl)|(apply ed;(apply plT;rfl);rfl)|(apply z5;apply elT;rfl;rfl;rfl;rfl;exact dn;omega)))|(apply Vs;rfl;(apply bw;exact List.length_set;(apply tyT;rfl);rfl;rfl;rfl;(first|apply bc|(apply bh;omega));rfl;rfl;(first|decide|(apply Nat.le_of_ble_eq_true;rfl))))|(apply fm _ (.inr rfl);(exact List.prefix_append _ _);(focus repeat (first|apply a8|(apply a9;rfl)|(apply cp;exact List.length_set;rfl;apply tyT;rfl;rfl;rfl)));rfl;(first|(apply aq;assumption)|(apply aa;assumption));rfl;rfl)|(show Tri _ (.seq (.region 11 _ _) _) _ _ _;apply ju (fun ρ st'=>v1.length = vs.length ∧ ∃(e_ z_ tg_:Nat) (X:List Nat),st' = ⟨S.set id ([.d (cy df p),vB m.static,vB m.ctor,vS m.typ,vS m.name,.d (cy gk m.params),.d (eq m.body),vS cls,vB st,.own e_ z_ tg_ ((v1.take v1.length ++ [(⟨ty,nm⟩:Pa)]).flatMap gk) (v1.take v1.length ++ [(⟨ty,nm⟩:Pa)]).length],196) ++ [([vI kd,.d (dN num),vS ty,vS nm,.d (.sl cs0 n0),.d (eq a),.d (eq b),.d (eq c),vI nth],126),([vI 0,.d (dN 0),vS ⟨#[]⟩,vS ⟨#[]⟩,.tight [] 0,.tight [] 0,.tight [] 0,.tight [] 0,vI 0],126)],T ++ X,M⟩ ∧ ng ρ [(0,.ptr id 0),(3,.ptr (S.length + 0) 0),(4,.ptr (S.length + 1) 0),(6,.d (.sl c1_ n1_)),(8,vI v1.length)]))|(apply Vc;rfl;rfl;apply fnT;rfl;apply (ih vs a);omega;omega;omega;assumption;(first|(apply aa;assumption)|(apply aq;assumption));(intro i_ hi_ _;obtain rfl:=List.mem_singleton.1 hi_;(apply bm;simp));(intro i_ hi_;cases hi_);rintro _ _ ⟨v1,rfl,c1_,n1_,f1_,rfl,hl1,hu1,hz1⟩ <;>(first|rw [au (by assumption)]|rw [ax (by assumption)]|skip))|(apply oP;rfl;rfl;rfl;apply fnT;rfl;apply (jel p _ hp);rintro _ ⟨(_|_),rfl⟩)|(apply oP;rfl;rfl;rfl;apply fnT;rfl;apply (vg p _ _ hp);rintro _ ⟨(_|_),rfl⟩)|(apply oP;rfl;rfl;rfl;apply fnT;rfl;apply (jom cls st v1 nm (by omega));rintro _ ⟨t_,rfl⟩)|(apply bt (nt:=118) (.take 0 (.take 1 (.take 2 (.take 3 (.take 4 (.take 5 (.one 6 (.take 7 (.take 8 .nil))))))))) [] [];exact co;rfl;decide +kernel)|(apply bt (nt:=118) (.take 0 (.take 1 (.take 2 (.take 3 (.take 4 (.take 5 (.one 6 (.take 7 (.take 8 .nil))))))))) [] [];exact co;rfl;decide +kernel)|(apply bt (nt:=118) (.take 0 (.take 1 (.take 2 (.take 3 (.take 4 (.take 5 (.one 6 (.take 7 (.take 8 .nil))))))))) [] [];exact co;rfl;decide +kernel)|(apply de (nt:=118) (.take 0 (.take 1 (.take 2 (.take 3 (.take 4 (.take 5 (.take 6 (.take 7 (.take 8 (.take 9 (.take 10 (.take 11 (.take 12 (.take 13 (.one 14 (.one 15 (.take 16 (.take 17 (.take 18 (.one 19 .nil)))))))))))))))))))) [] [19];exact co;rfl;decide +kernel)|(apply Vd;rfl;(first|(apply fb;rfl;rfl)|(apply fy;rfl;rfl));all_goals intro h_)|(apply Vw;rfl;(first|(apply cd;rfl;(apply tyT;rfl))|(apply cj;rfl;rfl;rfl)|(apply d8;rfl;(apply elT;rfl);(apply tyT;rfl);rfl;decide;rfl;rfl)|(apply mf;(apply elT;rfl);(apply tyT;rfl);(apply byT;rfl);rfl;rfl;rfl;decide;rfl;(apply tq (f:=gk) (c:=(⟨ty,nm⟩:Pa));rfl;(simp only [List.length_take];omega);(simp only [List.length_take];omega);exact dn))))|(apply ac;rfl)|apply ak|apply aj|apply ah|apply ai|(apply ae;rfl)|(apply af;rfl)|apply ap|apply cq|apply dm|apply aw|apply dg|(apply tV;rfl;rfl;(first|(apply bj;(apply tyT;rfl);rfl;(apply at_;exact List.length_set;rfl);rfl)|(apply bz;(apply tyT;rfl);rfl;(apply at_;exact List.length_set;rfl);rfl)|(apply bl;rfl)|(apply bg;rfl)|(apply cb;(apply plT;rfl);rfl;rfl;decide)|(apply bz;(apply tyT;rfl);rfl;(first|(apply at_;rfl;rfl)|(apply aq;assumption));rfl)|(apply bq;(apply elT;rfl);rfl;rfl)|(apply ck;rfl)|(apply eu;rfl;rfl)|(apply cg;rfl)|(apply ed;(apply plT;rfl);rfl)|(apply z5;apply elT;rfl;rfl;rfl;rfl;exact dn;omega));rfl)|(apply tVd;rfl;rfl;(first|(apply fb;rfl;rfl)|(apply fy;rfl;rfl));rfl;all_goals intro h_)|(apply oW;rfl;rfl;(first|(apply cd;rfl;(apply tyT;rfl))|(apply cj;rfl;rfl;rfl)|(apply d8;rfl;(apply elT;rfl);(apply tyT;rfl);rfl;decide;rfl;rfl)|(apply mf;(apply elT;rfl);(apply tyT;rfl);(apply byT;rfl);rfl;rfl;rfl;decide;rfl;(apply tq (f:=gk) (c:=(⟨ty,nm⟩:Pa));rfl;(simp only [List.length_take];omega);(simp only [List.length_take];omega);exact dn))))|(apply oS;rfl;rfl;(apply jm;(apply tyT;rfl);rfl;rfl;assumption;(apply mz <;> simp);rfl;rfl;(first|decide|(apply Nat.le_of_ble_eq_true;rfl)))))
  all_goals first
    | exact ⟨v1,rfl,⟨_,_,_,_,_,_,_,_,_,_,_,_,_,_,rfl⟩,by omega,by omega⟩
    | exact ⟨hz1 (by omega),_,_,_,_,rfl,rfl,rfl,rfl,rfl,rfl,trivial⟩
    | skip
  rintro ρ _ ⟨e1,e_,z_,tg_,X,rfl,hR⟩
  refine c9 (dt hR) ?_
  clear hR
  refine nz (id:=id) (aa (List.getElem?_set_self hlt)) ?_
  rw [au hlt,(rfl:wks [.d (cy df p),vB m.static,vB m.ctor,vS m.typ,vS m.name,.d (cy gk m.params),.d (eq m.body),vS cls,vB st,.own e_ z_ tg_ ((v1.take v1.length ++ [(⟨ty,nm⟩:Pa)]).flatMap gk) (v1.take v1.length ++ [(⟨ty,nm⟩:Pa)]).length] = bxB p m cls st (v1.take v1.length ++ [(⟨ty,nm⟩:Pa)]))]
  obtain ⟨v2,hv2,h2⟩:∃ v2:List Pa,v2 = v1.take v1.length ++ [(⟨ty,nm⟩:Pa)] ∧ v2.length = vs.length + 1:=⟨_,rfl,by simp only [List.length_append,List.length_take,List.length_singleton];omega⟩
  rw [← hv2]
  clear hv2
  repeat' (first|apply ab|(apply V;rfl;(first|(apply bz;(apply tyT;rfl);rfl;(apply at_;exact List.length_set;rfl);rfl)|(apply bl;rfl)|(apply bg;rfl)|(apply cb;(apply plT;rfl);rfl;rfl;decide)|(apply bz;(apply tyT;rfl);rfl;(apply aq;assumption);rfl)|(apply ck;rfl)|(apply eu;rfl;rfl)|(apply z5;apply elT;rfl;rfl;rfl;rfl;exact dn;omega)))|(show Tri _ (.seq (.region 13 _ _) _) _ _ _;apply ju (fun ρ st'=>∃(X:List Nat),st' = ⟨S.set id ([.d (cy df p),vB m.static,vB m.ctor,vS m.typ,vS m.name,.d (cy gk m.params),.d (eq m.body),vS cls,vB st,.tight ((v3.take v1.length).flatMap gk) (v3.take v1.length).length],196) ++ [([vI kd,.d (dN num),vS ty,vS nm,.d (.sl cs0 n0),.d (eq a),.d (eq b),.d (eq c),vI nth],126),([vI 0,.d (dN 0),vS ⟨#[]⟩,vS ⟨#[]⟩,.tight [] 0,.tight [] 0,.tight [] 0,.tight [] 0,vI 0],126)],T ++ X,M⟩ ∧ ng ρ [(0,.ptr id 0),(3,.ptr (S.length + 0) 0),(4,.ptr (S.length + 1) 0),(6,.d (.sl c1_ n1_)),(9,.d (.sl c2_ n2_)),(10,vI f2_)]))|(apply Vc;rfl;rfl;apply fnT;rfl;apply (ih v2 b);omega;omega;omega;assumption;(first|(apply aa;assumption)|(apply aq;assumption));(intro i_ hi_ _;obtain rfl:=List.mem_singleton.1 hi_;(apply bm;simp));(intro i_ hi_;cases hi_);rintro _ _ ⟨v3,rfl,c2_,n2_,f2_,rfl,hl2,hu2,hz2⟩ <;>(first|rw [au (by assumption)]|rw [ax (by assumption)]|skip))|(apply Vs;rfl;(apply jm;(apply tyT;rfl);rfl;rfl;assumption;(apply bm;simp);rfl;rfl;(first|decide|(apply Nat.le_of_ble_eq_true;rfl))))|(apply ac;rfl)|(apply al;rfl)|apply ap)
  · exact ⟨_,rfl,rfl,rfl,rfl,rfl,rfl,rfl,trivial⟩
  rintro ρ _ ⟨X,rfl,hR⟩
  refine c9 (dt hR) ?_
  clear hR
  refine nz (id:=id) (aa (List.getElem?_set_self hlt)) ?_
  rw [au hlt,(rfl:wks [.d (cy df p),vB m.static,vB m.ctor,vS m.typ,vS m.name,.d (cy gk m.params),.d (eq m.body),vS cls,vB st,.tight ((v3.take v1.length).flatMap gk) (v3.take v1.length).length] = bxB p m cls st (v3.take v1.length))]
  obtain ⟨v4,hv4,h4⟩:∃ v4:List Pa,v4 = v3.take v1.length ∧ v4.length = vs.length:=⟨_,rfl,by simp only [List.length_take];omega⟩
  rw [← hv4]
  clear hv4
  repeat' (first|apply ab|(apply V;rfl;(first|(apply bj;(apply tyT;rfl);rfl;(apply at_;exact List.length_set;rfl);rfl)|(apply bz;(apply tyT;rfl);rfl;(apply at_;exact List.length_set;rfl);rfl)|(apply bl;rfl)|(apply bg;rfl)|(apply cb;(apply plT;rfl);rfl;rfl;decide)|(apply eu;rfl;rfl)))|(apply Vs;rfl;(apply bw;exact List.length_set;(apply tyT;rfl);rfl;rfl;rfl;(first|apply bc|(apply bh;omega));rfl;rfl;(first|decide|(apply Nat.le_of_ble_eq_true;rfl))))|(apply fm _ (.inr rfl);(exact List.prefix_append _ _);(focus repeat (first|apply a8|(apply a9;rfl)|(apply cp;exact List.length_set;rfl;apply tyT;rfl;rfl;rfl)));rfl;(first|(apply aq;assumption)|(apply aa;assumption));rfl;rfl)|(apply Vc;rfl;rfl;apply fnT;rfl;apply (ih v4 c);omega;omega;omega;assumption;(first|(apply aa;assumption)|(apply aq;assumption));(intro i_ hi_ _;obtain rfl:=List.mem_singleton.1 hi_;(apply bm;simp));(intro i_ hi_;cases hi_);rintro _ _ ⟨v5,rfl,c3_,n3_,f3_,rfl,hl3,hu3,hz3⟩ <;>(first|rw [au (by assumption)]|rw [ax (by assumption)]|skip))|(apply Vd;rfl;(apply fb;rfl;rfl);all_goals intro h_)|(apply ac;rfl)|apply ak|apply ah|apply ai|(apply ae;rfl)|(apply af;rfl)|apply ap|apply aw)
  · exact ⟨v4,rfl,⟨_,_,_,_,_,_,_,_,_,_,_,_,_,_,rfl⟩,by omega,by omega⟩
  · exact ⟨v5,rfl,⟨_,_,_,_,_,_,_,_,_,_,_,_,_,_,rfl⟩,by omega,by omega⟩
theorem jrd (p:List Cl) (m:Me) (cls:ByteArray) (st:Bool) (hp:Sz p) (n:Nat) (h160:∀ vs s,gm s ≤ n → vs.length + gm s ≤ 3000000 → gm s ≤ 1000000 → nw s → WB p m cls st vs 160 [vSm s] (YR vs (gm s))):StB p m cls st n:=by
  intro vs l hn hv hN hok S T M id hid
  have hlt:=(List.getElem?_eq_some_iff.1 hid).1
  have hlen:=qi l
  refine am [id] [] Tryz.func148 rfl Tryz.ntmps148 Tryz.results148 ?_
  repeat' (first|apply ab|(apply V;rfl;(first|(apply bl;rfl)|(apply bg;rfl)|(apply cb;(apply plT;rfl);rfl;rfl;decide)|(apply bz;(apply tyT;rfl);rfl;(apply aa;assumption);rfl)|(apply bq;(apply elT;rfl);rfl;rfl)|(apply ck;rfl)))|(apply ac;rfl)|apply ak|apply aj)
  refine gc 7 126 9 rfl rfl ?_
  refine cx (fun k:Nat × List DV × List Pa=>l.length - k.1) (fun k=>[(0,.ptr id 0),(1,.d (eq l)),(6,vI vs.length),(7,.own 126 9 (T.length + 0) k.2.1 k.1),(8,vI k.1)]) (fun k S1 T1=>k.1 ≤ l.length ∧ k.2.1.length = 9 * k.1 ∧ S1[id]? = some (bxB p m cls st k.2.2,196) ∧ S.length ≤ S1.length ∧ T <+: T1 ∧ T1[T.length + 0]? = some k.2.1.length ∧ vs.length ≤ k.2.2.length ∧ k.2.2.length + d5 (l.drop k.1) ≤ vs.length + d5 l) (0,[],vs) ⟨Nat.zero_le _,rfl,aa hid,by simp,by simp,by simp,Nat.le_refl _,Nat.le_refl _⟩ ⟨rfl,rfl,rfl,rfl,rfl,trivial⟩ ?_
  rintro ⟨k,cs,v1⟩ S1 T1 ⟨hk,hcs,hid1,hS,hT,hT0,hl1,hu1⟩
  dsimp only at hk hcs hid1 hT0 hl1 hu1 ⊢
  have h00:T.length ≤ T.length + 0:=Nat.le_refl _
  have hlt1:id < S1.length:=by omega
  repeat' (first|apply ab|(apply V;rfl;(first|(apply bl;rfl)|(apply cb;(apply plT;rfl);rfl;rfl;decide)|(apply bz;(apply tyT;rfl);rfl;(apply aa;assumption);rfl)|(apply bq;(apply elT;rfl);rfl;rfl)|(apply ck;rfl)|(apply z5;apply elT;rfl;rfl;rfl;rfl;exact dn;omega)))|(show Tri _ (.seq (.region 10 _ _) _) _ _ _;apply ju (fun ρ st'=>st' = ⟨S1.set id ([.d (cy df p),vB m.static,vB m.ctor,vS m.typ,vS m.name,.d (cy gk m.params),.d (eq m.body),vS cls,vB st,.tight ((v1.take vs.length).flatMap gk) (v1.take vs.length).length],196) ++ [],T1 ++ [],M⟩ ∧ ng ρ [(7,.own 126 9 (T.length + 0) cs k)]))|(apply Vd;rfl;(apply cu;rfl;rfl);all_goals intro h_)|(apply Vs;rfl;(apply fg;(apply tyT;rfl);rfl;rfl;assumption;(apply bm;simp);rfl;rfl;(first|decide|(apply Nat.le_of_ble_eq_true;rfl))))|(apply ac;rfl)|apply ak|(apply al;rfl)|apply aj|apply ah|apply bd|(apply ae;rfl)|(apply af;rfl)|apply ap|apply ey|apply bo)
  · obtain ⟨c,hc⟩:∃ c,l[k]? = some c:=⟨_,List.getElem?_eq_getElem (by omega)⟩
    have hcz:=w9 hc
    have hdr:=jhs hc
    have h:=h160 v1 c (by omega) (by omega) (by omega) (jgb hok hc)
    repeat' (first|apply ab|(apply V;rfl;(first|(apply bj;(apply tyT;rfl);rfl;(apply at_;exact List.length_set;rfl);rfl)|(apply bl;rfl)|(apply bg;rfl)|(apply dp;(apply tyT;rfl);rfl;(first|rfl|apply ay|apply ba))|(apply eu;rfl;rfl)|(apply az;rfl;rfl;rfl;omega)|(apply j0 (c:=c) (g8 l) ba;apply elT;rfl;rfl;rfl;rfl;omega;simpa using hc)))|(apply Vw;rfl;(apply cd;exact List.length_set;(apply tyT;rfl)))|(apply Vs;rfl;(apply bw;exact List.length_set;(apply tyT;rfl);rfl;rfl;rfl;(first|apply bc|(apply bh;omega));rfl;rfl;(first|decide|(apply Nat.le_of_ble_eq_true;rfl))))|(apply fm _ (.inr rfl);(apply av;assumption);(focus repeat (first|apply a8|(apply a9;rfl)|(apply cp;exact List.length_set;rfl;apply tyT;rfl;rfl;rfl)));rfl;(first|(apply aq;assumption)|(apply aa;assumption));rfl;rfl)|(apply Vc;rfl;rfl;apply fnT;rfl;apply h;(first|(apply aa;assumption)|(apply aq;assumption));(intro i_ hi_ _;obtain rfl:=List.mem_singleton.1 hi_;(apply bm;simp));(intro i_ hi_;cases hi_);rintro _ _ ⟨v2,rfl,⟨k_,n_,ty_,nm_,a1_,b1_,a2_,b2_,a3_,b3_,a4_,b4_,y_,f_,rfl⟩,hl2,hu2⟩ <;>(first|rw [au (by assumption)]|rw [ax (by assumption)]|skip))|(apply Vd;rfl;(apply fb;rfl;rfl);all_goals intro h_)|(apply Vw;rfl;(first|(apply d8;rfl;(apply elT;rfl);(apply tyT;rfl);rfl;decide;rfl;rfl)|(apply mf;(apply elT;rfl);(apply tyT;rfl);(apply byT;rfl);rfl;rfl;rfl;decide;rfl;(apply qf;decide;omega;omega;assumption))))|(apply ac;rfl)|apply ak|(apply al;rfl)|apply ah|apply ai|(apply ae;rfl)|(apply af;rfl)|apply ap|apply cq|apply dm|apply aw)
    · exact ⟨v2,rfl,_,_,_,rfl,by omega,by omega,fun h=>absurd h (by assumption)⟩
    · exact ⟨(k + 1,cs ++ [dI k_,dN n_,dS ty_,dS nm_,.sl a1_ b1_,.sl a2_ b2_,.sl a3_ b3_,.sl a4_ b4_,dI y_],v2),_,_,by dsimp only;omega,⟨by dsimp only;omega,by simp only [List.length_append,List.length_cons,List.length_nil];omega,aa (List.getElem?_set_self hlt1),by simp only [List.length_append,List.length_set];omega,av (dc hT h00),aa (List.getElem?_set_self (List.getElem?_eq_some_iff.1 hT0).1),by dsimp only;omega,by dsimp only;omega⟩,⟨rfl,rfl,rfl,rfl,di (by omega),trivial⟩,rfl⟩
  · exact ⟨rfl,rfl,trivial⟩
  rintro ρ _ ⟨rfl,hR⟩
  refine c9 (dt hR) ?_
  clear hR
  refine nz (id:=id) (aa (List.getElem?_set_self hlt1)) ?_
  rw [au hlt1,(rfl:wks [.d (cy df p),vB m.static,vB m.ctor,vS m.typ,vS m.name,.d (cy gk m.params),.d (eq m.body),vS cls,vB st,.tight ((v1.take vs.length).flatMap gk) (v1.take vs.length).length] = bxB p m cls st (v1.take vs.length))]
  repeat' (first|apply ab|(apply V;rfl;(first|(apply bl;rfl)|(apply bg;rfl)))|(apply fm _ (.inr rfl);(apply av;assumption);(focus repeat (first|apply a8|(apply a9;rfl)|(apply cp;exact List.length_set;rfl;apply tyT;rfl;rfl;rfl)));rfl;(first|(apply aq;assumption)|(apply aa;assumption));rfl;rfl)|(apply ac;rfl)|apply ai)
  exact ⟨v1.take vs.length,rfl,_,_,_,rfl,by simp only [List.length_take];omega,by simp only [List.length_take];omega,fun _=>by simp only [List.length_take];omega⟩
end Go.Proofs.YtinffhimfoicdaaGreat
namespace Go.Proofs.YtinffhimfoicdaaGreat
open Go Go.RowKit Go.Proofs.YtinffhimfoicdaaGreat.Calc
set_option linter.unusedVariables false
set_option linter.unusedSimpArgs false
set_option maxRecDepth 100000
set_option maxHeartbeats 8000000
attribute [local irreducible] Tri ew er ci bn db d7 inQ jb
theorem sm1 (p:List Cl) (m:Me) (cls:ByteArray) (st:Bool) (hp:Sz p) (n:Nat) (ih:StB p m cls st n) (vs:List Pa) (kd num:Int) (ty nm:ByteArray) (e:List Ex) (a b c:List Sm) (nth:Int) (hs:gm (.mk kd num ty nm e a b c nth) ≤ n + 1) (hv:vs.length + gm (.mk kd num ty nm e a b c nth) ≤ 3000000) (hN:gm (.mk kd num ty nm e a b c nth) ≤ 1000000) (hok:nw (.mk kd num ty nm e a b c nth)) (hk:kd = 1):WB p m cls st vs 160 [vSm (.mk kd num ty nm e a b c nth)] (YR vs (gm (.mk kd num ty nm e a b c nth))):=by
  have hs0:=ku (.mk kd num ty nm e a b c nth)
  have hok0:nw (.mk kd num ty nm e a b c 0):=by rw [nw] at hok ⊢;exact hok
  have hN0:gm (.mk kd num ty nm e a b c 0) ≤ 1000000:=by rw [gm] at hN ⊢;exact hN
  have hv4:vs.length ≤ 4000000:=by omega
  unfold vSm
  rw [nh]
  unfold YR
  rw [gm] at hs hv hN hs0 ⊢
  rw [nw] at hok
  obtain ⟨hsh,hE,hA,hB,hC⟩:=hok
  have hel:=fp e
  subst hk
  have hl1:e.length = 1:=hsh.1 (.inl rfl)
  obtain ⟨x,hx⟩:∃ x,e[0]? = some x:=⟨_,List.getElem?_eq_getElem (by omega)⟩
  have hxs:=jo hx
  have hxk:=j8 hE hx
  have hxn:qa x ≤ 1000000:=by omega
  intro S T M id hid
  have hlt:=(List.getElem?_eq_some_iff.1 hid).1
  refine am [id] [] Tryz.func160 rfl Tryz.ntmps160 Tryz.results160 ?_
  repeat' (first|apply ab|(apply V;rfl;(first|(apply n8;rfl;rfl)|(apply bl;rfl)|(apply bg;rfl)|(apply cb;(apply plT;rfl);rfl;rfl;decide)|(apply bj;(apply tyT;rfl);rfl;(first|(apply at_;rfl;rfl)|(apply aa;assumption));rfl)|(apply bz;(apply tyT;rfl);rfl;(first|(apply at_;rfl;rfl)|(apply aa;assumption));rfl)|(apply dp;(apply tyT;rfl);rfl;(first|rfl|apply ay|apply ba))|(apply bq;(apply elT;rfl);rfl;rfl)|(apply ck;rfl)|(apply eu;rfl;rfl)|(apply cg;rfl)|(apply ed;(apply plT;rfl);rfl)|(apply j0 (c:=x) (d4 e) ay;apply elT;rfl;rfl;rfl;rfl;omega;simpa using hx)|(apply z5;apply elT;rfl;rfl;rfl;rfl;exact dn;omega)))|(show Tri _ (.seq (.region 12 _ _) _) _ _ _;apply ju (fun ρ st'=>∃(e_ z_ tg_:Nat) (X:List Nat) (k n:Int) (t na ty':ByteArray) (cs:List DV) (m':Nat) (o:ByteArray) (h f:Int),st' = ⟨S.set id ([.d (cy df p),vB m.static,vB m.ctor,vS m.typ,vS m.name,.d (cy gk m.params),.d (eq m.body),vS cls,vB st,.own e_ z_ tg_ ((vs.take vs.length ++ [(⟨ty,nm⟩:Pa)]).flatMap gk) (vs.take vs.length ++ [(⟨ty,nm⟩:Pa)]).length],196) ++ [([vI 1,.d (dN num),vS ty,vS nm,.d (qg e),.d (eq a),.d (eq b),.d (eq c),vI 0],126),([vI 0,.d (dN 0),vS ⟨#[]⟩,vS ⟨#[]⟩,.tight [] 0,.tight [] 0,.tight [] 0,.tight [] 0,vI 0],126),([vI k,.d (dN n),vS t,vS na,vS ty',.d (.sl cs m'),vS o,vI h],124)],T ++ X,M⟩ ∧ ng ρ [(3,.ptr (S.length + 0) 0),(4,.ptr (S.length + 1) 0),(6,.ptr (S.length + 2) 0),(7,vI f)]))|(apply bt (nt:=216) (.take 0 (.take 1 (.take 2 (.take 3 (.take 4 (.take 5 (.one 6 (.take 7 .nil)))))))) [] [];exact co;rfl;decide +kernel)|(apply oP;rfl;rfl;rfl;apply fnT;rfl;apply (jof p ty hp);rintro _ ⟨(_|_),rfl⟩)|(apply bt (nt:=216) (.take 0 (.take 1 (.take 2 (.take 3 (.take 4 (.take 5 (.one 6 (.take 7 .nil)))))))) [] [];exact co;rfl;decide +kernel)|(apply oP;rfl;rfl;rfl;apply fnT;rfl;apply (jom cls st vs nm hv4);rintro _ ⟨t9_,rfl⟩)|(apply bt (nt:=216) (.take 0 (.take 1 (.take 2 (.take 3 (.take 4 (.take 5 (.take 6 (.one 7 (.take 8 (.take 9 (.take 10 (.one 11 (.take 12 .nil))))))))))))) [S.length + 2] [];exact co;rfl;decide +kernel)|(apply tV;rfl;rfl;(first|(apply bj;(apply tyT;rfl);rfl;(apply at_;rfl;rfl);rfl)|(apply bz;(apply tyT;rfl);rfl;(apply at_;rfl;rfl);rfl));(apply ek;rfl;(simp)))|(apply oS;rfl;rfl;(apply bw;rfl;(apply tyT;rfl);rfl;rfl;rfl;(apply e8;omega;(simp));rfl;rfl;(apply Nat.le_of_ble_eq_true;rfl)))|(apply oP;rfl;rfl;rfl;apply fnT;rfl;apply (jlh p m cls st vs hp hv4 x ty hxn hxk);(first|(apply aa;assumption)|assumption|(apply aq;assumption));rintro _ ⟨k_,n_,t_,na_,ty_,cs_,m_,o_,y_,f_,rfl⟩)|(apply de (nt:=216) (.take 0 (.take 1 (.take 2 (.take 3 (.take 4 (.take 5 (.take 6 (.take 7 (.take 8 (.take 9 (.take 10 (.take 11 (.take 12 (.take 13 (.take 14 (.take 15 (.take 16 (.take 17 (.take 18 (.take 19 (.take 20 (.take 21 (.take 22 (.take 23 (.one 24 (.one 25 (.take 26 (.take 27 (.take 28 (.one 29 .nil)))))))))))))))))))))))))))))) [] [29];exact co;rfl;decide +kernel)|(apply Vw;rfl;(first|(apply cd;rfl;(apply tyT;rfl))|(apply cj;rfl;rfl;rfl)|(apply d8;rfl;(apply elT;rfl);(apply tyT;rfl);rfl;decide;rfl;rfl)|(apply mf;(apply elT;rfl);(apply tyT;rfl);(apply byT;rfl);rfl;rfl;rfl;decide;rfl;(apply tq (f:=gk) (c:=(⟨ty,nm⟩:Pa));rfl;(simp only [List.length_take];omega);(simp only [List.length_take];omega);exact dn))))|(apply Vs;rfl;(apply bw;rfl;(apply tyT;rfl);rfl;rfl;rfl;(first|apply bc|(apply bh;omega));rfl;rfl;(first|decide|(apply Nat.le_of_ble_eq_true;rfl))))|(apply ac;rfl)|apply ak|apply aj|apply ah|apply ai|(apply ae;rfl)|(apply af;rfl)|(apply fm _ (.inr rfl);(exact List.prefix_append _ _);(focus repeat (first|apply a8|(apply a9;rfl)|(apply cp;rfl;rfl;apply tyT;rfl;rfl;rfl)));rfl;(first|(apply aq;assumption)|(apply aa;assumption));rfl;rfl)|apply ap|apply dm|apply aw|apply dg|(apply tV;rfl;rfl;(first|(apply n8;rfl;rfl)|(apply bl;rfl)|(apply bg;rfl)|(apply cb;(apply plT;rfl);rfl;rfl;decide)|(apply bj;(apply tyT;rfl);rfl;(first|(apply at_;rfl;rfl)|(apply aa;assumption));rfl)|(apply bz;(apply tyT;rfl);rfl;(first|(apply at_;rfl;rfl)|(apply aa;assumption));rfl)|(apply dp;(apply tyT;rfl);rfl;(first|rfl|apply ay|apply ba))|(apply bq;(apply elT;rfl);rfl;rfl)|(apply ck;rfl)|(apply eu;rfl;rfl)|(apply cg;rfl)|(apply ed;(apply plT;rfl);rfl)|(apply j0 (c:=x) (d4 e) ay;apply elT;rfl;rfl;rfl;rfl;omega;simpa using hx)|(apply z5;apply elT;rfl;rfl;rfl;rfl;exact dn;omega));rfl)|(apply tVd;rfl;rfl;(apply fy;rfl;rfl);rfl;all_goals intro h_)|(apply oW;rfl;rfl;(first|(apply cd;rfl;(apply tyT;rfl))|(apply cj;rfl;rfl;rfl)|(apply d8;rfl;(apply elT;rfl);(apply tyT;rfl);rfl;decide;rfl;rfl)|(apply mf;(apply elT;rfl);(apply tyT;rfl);(apply byT;rfl);rfl;rfl;rfl;decide;rfl;(apply tq (f:=gk) (c:=(⟨ty,nm⟩:Pa));rfl;(simp only [List.length_take];omega);(simp only [List.length_take];omega);exact dn))))|(apply oS;rfl;rfl;(apply fg;(apply tyT;rfl);rfl;rfl;assumption;(apply mz <;> simp);rfl;rfl;(first|decide|(apply Nat.le_of_ble_eq_true;rfl)))))
  all_goals first
    | exact ⟨vs,rfl,⟨_,_,_,_,_,_,_,_,_,_,_,_,_,_,rfl⟩,by omega,by omega⟩
    | exact ⟨_,_,_,_,_,_,_,_,_,_,_,_,_,_,rfl,rfl,rfl,rfl,rfl,trivial⟩
    | skip
  rintro ρ _ ⟨e_,z_,tg_,X,k_,n_,t_,na_,ty_,cs_,m_,o_,y_,f_,rfl,hR⟩
  refine c9 (dt hR) ?_
  clear hR
  refine nz (id:=id) (aa (List.getElem?_set_self hlt)) ?_
  rw [au hlt,(rfl:wks [.d (cy df p),vB m.static,vB m.ctor,vS m.typ,vS m.name,.d (cy gk m.params),.d (eq m.body),vS cls,vB st,.own e_ z_ tg_ ((vs.take vs.length ++ [(⟨ty,nm⟩:Pa)]).flatMap gk) (vs.take vs.length ++ [(⟨ty,nm⟩:Pa)]).length] = bxB p m cls st (vs.take vs.length ++ [(⟨ty,nm⟩:Pa)]))]
  repeat' (first|apply ab|(apply V;rfl;(first|(apply bj;(apply tyT;rfl);rfl;(apply at_;exact List.length_set;rfl);rfl)|(apply bl;rfl)|(apply bg;rfl)|(apply cb;(apply plT;rfl);rfl;rfl;decide)))|(apply Vs;rfl;(apply bw;exact List.length_set;(apply tyT;rfl);rfl;rfl;rfl;(first|apply bc|(apply bh;omega));rfl;rfl;(first|decide|(apply Nat.le_of_ble_eq_true;rfl))))|(apply fm _ (.inr rfl);(exact List.prefix_append _ _);(focus repeat (first|apply a8|(apply a9;rfl)|(apply cp;exact List.length_set;rfl;apply tyT;rfl;rfl;rfl)));rfl;(first|(apply aq;assumption)|(apply aa;assumption));rfl;rfl)|(apply Vw;rfl;(apply d8;rfl;(apply elT;rfl);(apply tyT;rfl);rfl;decide;rfl;rfl))|(apply ac;rfl)|(apply al;rfl)|apply ai|apply ap|apply cq)
  exact ⟨vs.take vs.length ++ [(⟨ty,nm⟩:Pa)],rfl,⟨_,_,_,_,_,_,_,_,_,_,_,_,_,_,rfl⟩,by simp only [List.length_append,List.length_take,List.length_singleton];omega,by simp only [List.length_append,List.length_take,List.length_singleton];omega⟩
theorem sm2 (p:List Cl) (m:Me) (cls:ByteArray) (st:Bool) (hp:Sz p) (n:Nat) (ih:StB p m cls st n) (vs:List Pa) (kd num:Int) (ty nm:ByteArray) (e:List Ex) (a b c:List Sm) (nth:Int) (hs:gm (.mk kd num ty nm e a b c nth) ≤ n + 1) (hv:vs.length + gm (.mk kd num ty nm e a b c nth) ≤ 3000000) (hN:gm (.mk kd num ty nm e a b c nth) ≤ 1000000) (hok:nw (.mk kd num ty nm e a b c nth)) (hk:kd = 2):WB p m cls st vs 160 [vSm (.mk kd num ty nm e a b c nth)] (YR vs (gm (.mk kd num ty nm e a b c nth))):=by
  have hs0:=ku (.mk kd num ty nm e a b c nth)
  have hok0:nw (.mk kd num ty nm e a b c 0):=by rw [nw] at hok ⊢;exact hok
  have hN0:gm (.mk kd num ty nm e a b c 0) ≤ 1000000:=by rw [gm] at hN ⊢;exact hN
  have hv4:vs.length ≤ 4000000:=by omega
  unfold vSm
  rw [nh]
  unfold YR
  rw [gm] at hs hv hN hs0 ⊢
  rw [nw] at hok
  obtain ⟨hsh,hE,hA,hB,hC⟩:=hok
  have hel:=fp e
  subst hk
  have hl1:e.length = 2:=hsh.2 rfl
  obtain ⟨x,hx⟩:∃ x,e[0]? = some x:=⟨_,List.getElem?_eq_getElem (by omega)⟩
  have hxs:=jo hx
  have hxk:=j8 hE hx
  have hxn:qa x ≤ 1000000:=by omega
  obtain ⟨z,hz⟩:∃ x,e[1]? = some x:=⟨_,List.getElem?_eq_getElem (by omega)⟩
  have hzs:=jo hz
  have hzk:=j8 hE hz
  have hzn:qa z ≤ 1000000:=by omega
  intro S T M id hid
  have hlt:=(List.getElem?_eq_some_iff.1 hid).1
  refine am [id] [] Tryz.func160 rfl Tryz.ntmps160 Tryz.results160 ?_
  repeat' (first|apply ab|(apply V;rfl;(first|(apply n8;rfl;rfl)|(apply qn;rfl;rfl;rfl)|(apply bl;rfl)|(apply bg;rfl)|(apply cb;(apply plT;rfl);rfl;rfl;decide)|(apply bj;(apply tyT;rfl);rfl;(apply at_;rfl;rfl);rfl)|(apply bz;(apply tyT;rfl);rfl;(apply at_;rfl;rfl);rfl)|(apply dp;(apply tyT;rfl);rfl;(first|rfl|apply ay|apply ba))|(apply eu;rfl;rfl)|(apply j0 (c:=x) (d4 e) ay;apply elT;rfl;rfl;rfl;rfl;omega;simpa using hx)|(apply j0 (c:=z) (d4 e) ay;apply elT;rfl;rfl;rfl;rfl;omega;simpa using hz)))|(apply Vp;rfl;rfl;apply fnT;rfl;apply (jlg p m cls st vs hp hv4 x hxn hxk);(first|(apply aa;assumption)|assumption|(apply aq;assumption));rintro _ ⟨k_,n_,t_,na_,ty_,cs_,m_,o_,y_,tt_,f_,rfl⟩)|(apply Vp;rfl;rfl;apply fnT;rfl;apply (jlh p m cls st vs hp hv4 z _ hzn hzk);(first|(apply aa;assumption)|assumption|(apply aq;assumption));rintro _ ⟨kg_,ng_,tg_,nag_,tyg_,csg_,mg_,og_,yg_,g_,rfl⟩)|(apply Vd;rfl;(apply fb;rfl;rfl);all_goals intro h_)|(apply Vw;rfl;(first|(apply cd;rfl;(apply tyT;rfl))|(apply cj;rfl;rfl;rfl)|(apply d8;rfl;(apply elT;rfl);(apply tyT;rfl);rfl;decide;rfl;rfl)))|(apply Vs;rfl;(apply bw;rfl;(apply tyT;rfl);rfl;rfl;rfl;(first|apply bc|(apply bh;omega));rfl;rfl;(first|decide|(apply Nat.le_of_ble_eq_true;rfl))))|(apply ac;rfl)|apply ak|(apply al;rfl)|apply aj|apply ah|apply ai|(apply ae;rfl)|(apply af;rfl)|(apply fm _ (.inr rfl);(exact List.prefix_append _ _);(focus repeat (first|apply a8|(apply a9;rfl)|(apply cp;rfl;rfl;apply tyT;rfl;rfl;rfl)));rfl;(first|(apply aq;assumption)|(apply aa;assumption));rfl;rfl)|apply ap|apply cq|apply dm|apply aw)
  all_goals exact ⟨vs,rfl,⟨_,_,_,_,_,_,_,_,_,_,_,_,_,_,rfl⟩,by omega,by omega⟩
theorem sm3 (p:List Cl) (m:Me) (cls:ByteArray) (st:Bool) (hp:Sz p) (n:Nat) (ih:StB p m cls st n) (vs:List Pa) (kd num:Int) (ty nm:ByteArray) (e:List Ex) (a b c:List Sm) (nth:Int) (hs:gm (.mk kd num ty nm e a b c nth) ≤ n + 1) (hv:vs.length + gm (.mk kd num ty nm e a b c nth) ≤ 3000000) (hN:gm (.mk kd num ty nm e a b c nth) ≤ 1000000) (hok:nw (.mk kd num ty nm e a b c nth)) (hk:kd = 3 ∨ kd = 7 ∨ kd = 8 ∨ kd = 9):WB p m cls st vs 160 [vSm (.mk kd num ty nm e a b c nth)] (YR vs (gm (.mk kd num ty nm e a b c nth))):=by
  have hs0:=ku (.mk kd num ty nm e a b c nth)
  have hok0:nw (.mk kd num ty nm e a b c 0):=by rw [nw] at hok ⊢;exact hok
  have hN0:gm (.mk kd num ty nm e a b c 0) ≤ 1000000:=by rw [gm] at hN ⊢;exact hN
  have hv4:vs.length ≤ 4000000:=by omega
  unfold vSm
  rw [nh]
  unfold YR
  rw [gm] at hs hv hN hs0 ⊢
  rw [nw] at hok
  obtain ⟨hsh,hE,hA,hB,hC⟩:=hok
  have hel:=fp e
  have hl1:e.length = 1:=hsh.1 (by omega)
  obtain ⟨x,hx⟩:∃ x,e[0]? = some x:=⟨_,List.getElem?_eq_getElem (by omega)⟩
  have hxs:=jo hx
  have hxk:=j8 hE hx
  have hxn:qa x ≤ 1000000:=by omega
  intro S T M id hid
  have hlt:=(List.getElem?_eq_some_iff.1 hid).1
  refine am [id] [] Tryz.func160 rfl Tryz.ntmps160 Tryz.results160 ?_
  rcases hk with rfl|rfl|rfl|rfl
  all_goals
    repeat' (first|apply ab|(apply V;rfl;(first|(apply n8;rfl;rfl)|(apply qn;rfl;rfl;rfl)|(apply bl;rfl)|(apply bg;rfl)|(apply cb;(apply plT;rfl);rfl;rfl;decide)|(apply bj;(apply tyT;rfl);rfl;(apply at_;rfl;rfl);rfl)|(apply bz;(apply tyT;rfl);rfl;(apply at_;rfl;rfl);rfl)|(apply dp;(apply tyT;rfl);rfl;(first|rfl|apply ay|apply ba))|(apply ca;rfl;rfl)|(apply bu;rfl;rfl)|(apply eu;rfl;rfl)|(apply cg;rfl)|(apply j0 (c:=x) (d4 e) ay;apply elT;rfl;rfl;rfl;rfl;omega;simpa using hx)))|(apply Vp;rfl;rfl;apply fnT;rfl;apply (jlg p m cls st vs hp hv4 x hxn hxk);(first|(apply aa;assumption)|assumption|(apply aq;assumption));rintro _ ⟨k_,n_,t_,na_,ty_,cs_,m_,o_,y_,tt_,f_,rfl⟩)|(apply Vp;rfl;rfl;apply fnT;rfl;apply (jlh p m cls st vs hp hv4 x _ hxn hxk);(first|(apply aa;assumption)|assumption|(apply aq;assumption));rintro _ ⟨kg_,ng_,tg_,nag_,tyg_,csg_,mg_,og_,yg_,g_,rfl⟩)|(apply Vp;rfl;rfl;apply fnT;rfl;apply jrb;rintro _ ⟨(_|_),rfl⟩)|(apply Vd;rfl;(apply dq;rfl;rfl);all_goals intro h_)|(apply Vo;rfl)|(apply Vw;rfl;(first|(apply cd;rfl;(apply tyT;rfl))|(apply cj;rfl;rfl;rfl)|(apply d8;rfl;(apply elT;rfl);(apply tyT;rfl);rfl;decide;rfl;rfl)))|(apply Vs;rfl;(apply bw;rfl;(apply tyT;rfl);rfl;rfl;rfl;(first|apply bc|(apply bh;omega));rfl;rfl;(first|decide|(apply Nat.le_of_ble_eq_true;rfl))))|(apply ac;rfl)|apply ak|(apply al;rfl)|apply aj|apply ah|apply ai|(apply ae;rfl)|(apply af;rfl)|(apply fm _ (.inr rfl);(exact List.prefix_append _ _);(focus repeat (first|apply a8|(apply a9;rfl)|(apply cp;rfl;rfl;apply tyT;rfl;rfl;rfl)));rfl;(first|(apply aq;assumption)|(apply aa;assumption));rfl;rfl)|apply ap|apply cq)
    all_goals exact ⟨vs,rfl,⟨_,_,_,_,_,_,_,_,_,_,_,_,_,_,rfl⟩,by omega,by omega⟩
theorem sm4 (p:List Cl) (m:Me) (cls:ByteArray) (st:Bool) (hp:Sz p) (n:Nat) (ih:StB p m cls st n) (vs:List Pa) (kd num:Int) (ty nm:ByteArray) (e:List Ex) (a b c:List Sm) (nth:Int) (hs:gm (.mk kd num ty nm e a b c nth) ≤ n + 1) (hv:vs.length + gm (.mk kd num ty nm e a b c nth) ≤ 3000000) (hN:gm (.mk kd num ty nm e a b c nth) ≤ 1000000) (hok:nw (.mk kd num ty nm e a b c nth)) (hk:kd = 4 ∨ kd = 5):WB p m cls st vs 160 [vSm (.mk kd num ty nm e a b c nth)] (YR vs (gm (.mk kd num ty nm e a b c nth))):=by
  have hs0:=ku (.mk kd num ty nm e a b c nth)
  have hok0:nw (.mk kd num ty nm e a b c 0):=by rw [nw] at hok ⊢;exact hok
  have hN0:gm (.mk kd num ty nm e a b c 0) ≤ 1000000:=by rw [gm] at hN ⊢;exact hN
  have hv4:vs.length ≤ 4000000:=by omega
  unfold vSm
  rw [nh]
  unfold YR
  rw [gm] at hs hv hN hs0 ⊢
  rw [nw] at hok
  obtain ⟨hsh,hE,hA,hB,hC⟩:=hok
  have hel:=fp e
  have hl1:e.length = 1:=hsh.1 (by omega)
  obtain ⟨x,hx⟩:∃ x,e[0]? = some x:=⟨_,List.getElem?_eq_getElem (by omega)⟩
  have hxs:=jo hx
  have hxk:=j8 hE hx
  have hxn:qa x ≤ 1000000:=by omega
  intro S T M id hid
  have hlt:=(List.getElem?_eq_some_iff.1 hid).1
  refine am [id] [] Tryz.func160 rfl Tryz.ntmps160 Tryz.results160 ?_
  rcases hk with rfl|rfl
  all_goals
    repeat' (first|apply ab|(apply V;rfl;(first|(apply n8;rfl;rfl)|(apply qn;rfl;rfl;rfl)|(apply bl;rfl)|(apply bg;rfl)|(apply cb;(apply plT;rfl);rfl;rfl;decide)|(apply bj;(apply tyT;rfl);rfl;(apply at_;rfl;rfl);rfl)|(apply bz;(apply tyT;rfl);rfl;(apply at_;rfl;rfl);rfl)|(apply dp;(apply tyT;rfl);rfl;(first|rfl|apply ay|apply ba))|(apply eu;rfl;rfl)|(apply j0 (c:=x) (d4 e) ay;apply elT;rfl;rfl;rfl;rfl;omega;simpa using hx)))|(apply Vs;rfl;(apply bw;exact List.length_set;(apply tyT;rfl);rfl;rfl;rfl;(first|apply bc|(apply bh;omega));rfl;rfl;(first|decide|(apply Nat.le_of_ble_eq_true;rfl))))|(apply fm _ (.inr rfl);(exact List.prefix_append _ _);(focus repeat (first|apply a8|(apply a9;rfl)|(apply cp;exact List.length_set;rfl;apply tyT;rfl;rfl;rfl)));rfl;(first|(apply aq;assumption)|(apply aa;assumption));rfl;rfl)|(apply Vp;rfl;rfl;apply fnT;rfl;apply (jlh p m cls st vs hp hv4 x _ hxn hxk);(first|(apply aa;assumption)|assumption|(apply aq;assumption));rintro _ ⟨kg_,ng_,tg_,nag_,tyg_,csg_,mg_,og_,yg_,g_,rfl⟩)|(apply Vc;rfl;rfl;apply fnT;rfl;apply ea;rfl;apply (jvq p m cls st hp n ih vs);omega;omega;omega;assumption;assumption;assumption;(first|(apply aa;assumption)|(apply aq;assumption));(intro i_ hi_ _;obtain rfl:=List.mem_singleton.1 hi_;(apply bm;simp));(intro i_ hi_;cases hi_);rintro _ _ ⟨v1,rfl,⟨k_,n_,ty_,nm_,a1_,b1_,a2_,b2_,a3_,b3_,a4_,b4_,y_,f_,rfl⟩,hl1_,hu1_⟩ <;>(first|rw [au (by assumption)]|rw [ax (by assumption)]|skip))|(apply Vd;rfl;(apply dq;rfl;rfl);all_goals intro h_)|(apply Vw;rfl;(first|(apply cd;rfl;(apply tyT;rfl))|(apply cj;rfl;rfl;rfl)|(apply d8;rfl;(apply elT;rfl);(apply tyT;rfl);rfl;decide;rfl;rfl)))|(apply Vs;rfl;(apply bw;rfl;(apply tyT;rfl);rfl;rfl;rfl;(first|apply bc|(apply bh;omega));rfl;rfl;(first|decide|(apply Nat.le_of_ble_eq_true;rfl))))|(apply ac;rfl)|apply ak|(apply al;rfl)|apply aj|apply ah|apply ai|(apply ae;rfl)|(apply af;rfl)|(apply fm _ (.inr rfl);(exact List.prefix_append _ _);(focus repeat (first|apply a8|(apply a9;rfl)|(apply cp;rfl;rfl;apply tyT;rfl;rfl;rfl)));rfl;(first|(apply aq;assumption)|(apply aa;assumption));rfl;rfl)|apply ap|apply cq|apply dm|apply aw)
    all_goals first
      | exact ⟨vs,rfl,⟨_,_,_,_,_,_,_,_,_,_,_,_,_,_,rfl⟩,by omega,by omega⟩
      | exact ⟨v1,rfl,⟨_,_,_,_,_,_,_,_,_,_,_,_,_,_,rfl⟩,by omega,by omega⟩
theorem sm6 (p:List Cl) (m:Me) (cls:ByteArray) (st:Bool) (hp:Sz p) (n:Nat) (ih:StB p m cls st n) (vs:List Pa) (kd num:Int) (ty nm:ByteArray) (e:List Ex) (a b c:List Sm) (nth:Int) (hs:gm (.mk kd num ty nm e a b c nth) ≤ n + 1) (hv:vs.length + gm (.mk kd num ty nm e a b c nth) ≤ 3000000) (hN:gm (.mk kd num ty nm e a b c nth) ≤ 1000000) (hok:nw (.mk kd num ty nm e a b c nth)) (hk:kd = 6):WB p m cls st vs 160 [vSm (.mk kd num ty nm e a b c nth)] (YR vs (gm (.mk kd num ty nm e a b c nth))):=by
  have h168:=fun h=>jvn p m cls st vs hp h (.mk kd num ty nm e a b c 0) (by rw [gm] at hN ⊢;exact hN) (by rw [nw] at hok ⊢;exact hok)
  unfold vSm at h168
  rw [nh] at h168
  have hs0:=ku (.mk kd num ty nm e a b c nth)
  have hok0:nw (.mk kd num ty nm e a b c 0):=by rw [nw] at hok ⊢;exact hok
  have hN0:gm (.mk kd num ty nm e a b c 0) ≤ 1000000:=by rw [gm] at hN ⊢;exact hN
  have hv4:vs.length ≤ 4000000:=by omega
  unfold vSm
  rw [nh]
  unfold YR
  rw [gm] at hs hv hN hs0 ⊢
  rw [nw] at hok
  obtain ⟨hsh,hE,hA,hB,hC⟩:=hok
  have hel:=fp e
  subst hk
  intro S T M id hid
  have hlt:=(List.getElem?_eq_some_iff.1 hid).1
  refine am [id] [] Tryz.func160 rfl Tryz.ntmps160 Tryz.results160 ?_
  repeat' (first|apply ab|(apply V;rfl;(first|(apply n8;rfl;rfl)|(apply qn;rfl;rfl;rfl)|(apply bl;rfl)|(apply bg;rfl)|(apply cb;(apply plT;rfl);rfl;rfl;decide)|(apply bj;(apply tyT;rfl);rfl;(apply at_;rfl;rfl);rfl)|(apply bz;(apply tyT;rfl);rfl;(apply at_;rfl;rfl);rfl)|(apply eu;rfl;rfl)))|(apply Vp;rfl;rfl;apply fnT;rfl;apply (h168 hv4);(first|(apply aa;assumption)|assumption|(apply aq;assumption));rintro _ ⟨k_,n_,ty_,nm_,a1_,b1_,a2_,b2_,a3_,b3_,a4_,b4_,y_,f_,rfl⟩)|(apply Vw;rfl;(first|(apply cd;rfl;(apply tyT;rfl))|(apply cj;rfl;rfl;rfl)))|(apply Vs;rfl;(apply bw;rfl;(apply tyT;rfl);rfl;rfl;rfl;(first|apply bc|(apply bh;omega));rfl;rfl;(first|decide|(apply Nat.le_of_ble_eq_true;rfl))))|(apply ac;rfl)|apply ak|(apply al;rfl)|apply aj|apply ai|(apply ae;rfl)|(apply af;rfl)|(apply fm _ (.inr rfl);(exact List.prefix_append _ _);(focus repeat (first|apply a8|(apply a9;rfl)|(apply cp;rfl;rfl;apply tyT;rfl;rfl;rfl)));rfl;(first|(apply aq;assumption)|(apply aa;assumption));rfl;rfl)|apply ap|apply dm|apply aw)
  all_goals exact ⟨vs,rfl,⟨_,_,_,_,_,_,_,_,_,_,_,_,_,_,rfl⟩,by omega,by omega⟩
theorem jym (p:List Cl) (m:Me) (cls:ByteArray) (st:Bool) (hp:Sz p) (n:Nat) (ih:StB p m cls st n) (vs:List Pa) (kd num:Int) (ty nm:ByteArray) (e:List Ex) (a b c:List Sm) (nth:Int) (hs:gm (.mk kd num ty nm e a b c nth) ≤ n + 1) (hv:vs.length + gm (.mk kd num ty nm e a b c nth) ≤ 3000000) (hN:gm (.mk kd num ty nm e a b c nth) ≤ 1000000) (hok:nw (.mk kd num ty nm e a b c nth)) (hk:kd = 10):WB p m cls st vs 160 [vSm (.mk kd num ty nm e a b c nth)] (YR vs (gm (.mk kd num ty nm e a b c nth))):=by
  have hs0:=ku (.mk kd num ty nm e a b c nth)
  have hok0:nw (.mk kd num ty nm e a b c 0):=by rw [nw] at hok ⊢;exact hok
  have hN0:gm (.mk kd num ty nm e a b c 0) ≤ 1000000:=by rw [gm] at hN ⊢;exact hN
  have hv4:vs.length ≤ 4000000:=by omega
  unfold vSm
  rw [nh]
  unfold YR
  rw [gm] at hs hv hN hs0 ⊢
  rw [nw] at hok
  obtain ⟨hsh,hE,hA,hB,hC⟩:=hok
  have hel:=fp e
  subst hk
  intro S T M id hid
  have hlt:=(List.getElem?_eq_some_iff.1 hid).1
  refine am [id] [] Tryz.func160 rfl Tryz.ntmps160 Tryz.results160 ?_
  repeat' (first|apply ab|(apply V;rfl;(first|(apply n8;rfl;rfl)|(apply qn;rfl;rfl;rfl)|(apply bl;rfl)|(apply bg;rfl)|(apply cb;(apply plT;rfl);rfl;rfl;decide)|(apply bj;(apply tyT;rfl);rfl;(apply at_;rfl;rfl);rfl)|(apply bz;(apply tyT;rfl);rfl;(apply at_;rfl;rfl);rfl)|(apply eu;rfl;rfl)))|(apply Vs;rfl;(apply bw;exact List.length_set;(apply tyT;rfl);rfl;rfl;rfl;(first|apply bc|(apply bh;omega));rfl;rfl;(first|decide|(apply Nat.le_of_ble_eq_true;rfl))))|(apply fm _ (.inr rfl);(exact List.prefix_append _ _);(focus repeat (first|apply a8|(apply a9;rfl)|(apply cp;exact List.length_set;rfl;apply tyT;rfl;rfl;rfl)));rfl;(first|(apply aq;assumption)|(apply aa;assumption));rfl;rfl)|(apply Vc;rfl;rfl;apply fnT;rfl;apply (jvr p m cls st hp n ih vs);omega;omega;omega;assumption;assumption;assumption;(first|(apply aa;assumption)|(apply aq;assumption));(intro i_ hi_ _;obtain rfl:=List.mem_singleton.1 hi_;(apply bm;simp));(intro i_ hi_;cases hi_);rintro _ _ ⟨v1,rfl,⟨k_,n_,ty_,nm_,a1_,b1_,a2_,b2_,a3_,b3_,a4_,b4_,y_,f_,rfl⟩,hl1_,hu1_⟩ <;>(first|rw [au (by assumption)]|rw [ax (by assumption)]|skip))|(apply Vw;rfl;(first|(apply cd;rfl;(apply tyT;rfl))|(apply cj;rfl;rfl;rfl)))|(apply Vs;rfl;(apply bw;rfl;(apply tyT;rfl);rfl;rfl;rfl;(first|apply bc|(apply bh;omega));rfl;rfl;(first|decide|(apply Nat.le_of_ble_eq_true;rfl))))|(apply ac;rfl)|apply ak|(apply al;rfl)|apply aj|apply ai|(apply ae;rfl)|(apply af;rfl)|apply ap|apply dm|apply aw)
  all_goals exact ⟨v1,rfl,⟨_,_,_,_,_,_,_,_,_,_,_,_,_,_,rfl⟩,by omega,by omega⟩
theorem jyn (p:List Cl) (m:Me) (cls:ByteArray) (st:Bool) (hp:Sz p) (n:Nat) (ih:StB p m cls st n) (vs:List Pa) (kd num:Int) (ty nm:ByteArray) (e:List Ex) (a b c:List Sm) (nth:Int) (hs:gm (.mk kd num ty nm e a b c nth) ≤ n + 1) (hv:vs.length + gm (.mk kd num ty nm e a b c nth) ≤ 3000000) (hN:gm (.mk kd num ty nm e a b c nth) ≤ 1000000) (hok:nw (.mk kd num ty nm e a b c nth)) (hk:¬(1 ≤ kd ∧ kd ≤ 10)):WB p m cls st vs 160 [vSm (.mk kd num ty nm e a b c nth)] (YR vs (gm (.mk kd num ty nm e a b c nth))):=by
  have h170:=fun h=>jvp p m cls st vs hp h (.mk kd num ty nm e a b c 0) (by rw [gm] at hN ⊢;exact hN) (by rw [nw] at hok ⊢;exact hok)
  unfold vSm at h170
  rw [nh] at h170
  have hs0:=ku (.mk kd num ty nm e a b c nth)
  have hok0:nw (.mk kd num ty nm e a b c 0):=by rw [nw] at hok ⊢;exact hok
  have hN0:gm (.mk kd num ty nm e a b c 0) ≤ 1000000:=by rw [gm] at hN ⊢;exact hN
  have hv4:vs.length ≤ 4000000:=by omega
  unfold vSm
  rw [nh]
  unfold YR
  rw [gm] at hs hv hN hs0 ⊢
  rw [nw] at hok
  obtain ⟨hsh,hE,hA,hB,hC⟩:=hok
  have hel:=fp e
  intro S T M id hid
  have hlt:=(List.getElem?_eq_some_iff.1 hid).1
  refine am [id] [] Tryz.func160 rfl Tryz.ntmps160 Tryz.results160 ?_
  repeat' (first|apply ab|(apply V;rfl;(first|(apply jrc;rfl;rfl;omega)|(apply bl;rfl)|(apply bg;rfl)|(apply cb;(apply plT;rfl);rfl;rfl;decide)|(apply bj;(apply tyT;rfl);rfl;(apply at_;rfl;rfl);rfl)|(apply bz;(apply tyT;rfl);rfl;(apply at_;rfl;rfl);rfl)|(apply eu;rfl;rfl)))|(apply Vp;rfl;rfl;apply fnT;rfl;apply (h170 hv4);(first|(apply aa;assumption)|assumption|(apply aq;assumption));rintro _ ⟨k_,n_,ty_,nm_,a1_,b1_,a2_,b2_,a3_,b3_,a4_,b4_,y_,f_,rfl⟩)|(apply Vw;rfl;(first|(apply cd;rfl;(apply tyT;rfl))|(apply cj;rfl;rfl;rfl)))|(apply Vs;rfl;(apply bw;rfl;(apply tyT;rfl);rfl;rfl;rfl;(first|apply bc|(apply bh;omega));rfl;rfl;(first|decide|(apply Nat.le_of_ble_eq_true;rfl))))|(apply ac;rfl)|apply ak|(apply al;rfl)|apply aj|apply ai|(apply af;rfl)|(apply fm _ (.inr rfl);(exact List.prefix_append _ _);(focus repeat (first|apply a8|(apply a9;rfl)|(apply cp;rfl;rfl;apply tyT;rfl;rfl;rfl)));rfl;(first|(apply aq;assumption)|(apply aa;assumption));rfl;rfl)|apply ap|apply dm|apply aw)
  all_goals exact ⟨vs,rfl,⟨_,_,_,_,_,_,_,_,_,_,_,_,_,_,rfl⟩,by omega,by omega⟩
theorem jvs (p:List Cl) (m:Me) (cls:ByteArray) (st:Bool) (hp:Sz p) (n:Nat) (ih:StB p m cls st n):∀ vs s,gm s ≤ n + 1 → vs.length + gm s ≤ 3000000 → gm s ≤ 1000000 → nw s → WB p m cls st vs 160 [vSm s] (YR vs (gm s)):=by
  rintro vs ⟨kd,num,ty,nm,e,a,b,c,nth⟩ hs hv hN hok
  by_cases h1:kd = 1
  · exact sm1 p m cls st hp n ih vs kd num ty nm e a b c nth hs hv hN hok h1
  by_cases h2:kd = 2
  · exact sm2 p m cls st hp n ih vs kd num ty nm e a b c nth hs hv hN hok h2
  by_cases h3:kd = 3 ∨ kd = 7 ∨ kd = 8 ∨ kd = 9
  · exact sm3 p m cls st hp n ih vs kd num ty nm e a b c nth hs hv hN hok h3
  by_cases h4:kd = 4 ∨ kd = 5
  · exact sm4 p m cls st hp n ih vs kd num ty nm e a b c nth hs hv hN hok h4
  by_cases h6:kd = 6
  · exact sm6 p m cls st hp n ih vs kd num ty nm e a b c nth hs hv hN hok h6
  by_cases h10:kd = 10
  · exact jym p m cls st hp n ih vs kd num ty nm e a b c nth hs hv hN hok h10
  exact jyn p m cls st hp n ih vs kd num ty nm e a b c nth hs hv hN hok (by omega)
theorem jdb (p:List Cl) (m:Me) (cls:ByteArray) (st:Bool) (hp:Sz p):∀ n,StB p m cls st n
  | 0=>jrd p m cls st hp 0 fun vs s hs=>absurd (ku s) (by omega)
  | n + 1=>jrd p m cls st hp (n + 1) (jvs p m cls st hp n (jdb p m cls st hp n))
end Go.Proofs.YtinffhimfoicdaaGreat
namespace Go.Proofs.YtinffhimfoicdaaGreat
open Go Go.RowKit Go.Proofs.YtinffhimfoicdaaGreat.Calc
set_option linter.unusedVariables false
set_option linter.unusedSimpArgs false
set_option maxRecDepth 100000
set_option maxHeartbeats 8000000
attribute [local irreducible] Tri ew er ci bn db d7 inQ jb
abbrev jyo (r:BV):Prop:=∃(cs:List DV) (n:Nat) (f:Int),r = .tup [.d (.sl cs n),vI f]
abbrev jyp (r:BV):Prop:=∃(nm su:ByteArray) (c1:List DV) (n1:Nat) (c2:List DV) (n2:Nat) (e:Int) (s:ByteArray),r = .tup [.agg [vS nm,vS su,.d (.sl c1 n1),.d (.sl c2 n2)],vI e,vS s]
theorem jvt (p:List Cl) (hp:Sz p) (cls:ByteArray) (m:Me) (hm:y5 m ≤ 1000000) (hok:kx m.body):PC 123 [vP p,vS cls,vMe m] jyo:=by
  have hps:=jcx m
  have hbs:d5 m.body ≤ y5 m:=by simp only [y5];omega
  have h148:=jdb p m cls m.static hp (d5 m.body) m.params m.body (Nat.le_refl _) (by simp only [y5] at hm;omega) (by omega) hok
  have h149:=jvo m hm
  have hbl:=qi m.body
  obtain ⟨q1,q2,q3,q4,q5,q6⟩:=m
  dsimp only at *
  intro S T M
  refine am [] [] Tryz.func123 rfl Tryz.ntmps123 Tryz.results123 ?_
  by_cases he:q6.length = 0
  · cases q2
    all_goals
      repeat' (first|apply ab|(apply V;rfl;(first|(apply bl;rfl)|(apply bg;rfl)|(apply cb;(apply plT;rfl);rfl;rfl;decide)|(apply bj;(apply tyT;rfl);rfl;(apply at_;rfl;rfl);rfl)|(apply bz;(apply tyT;rfl);rfl;(apply at_;rfl;rfl);rfl)|(apply bq;(apply elT;rfl);rfl;rfl)|(apply ca;rfl;rfl)|(apply bu;rfl;rfl)|(apply eu;rfl;rfl)|(apply cg;rfl)|(apply ed;(apply plT;rfl);rfl)))|(apply Vp;rfl;rfl;apply fnT;rfl;apply (ji6 p _ hp);rintro _ ⟨u_,rfl⟩)|(apply Vp;rfl;rfl;apply fnT;rfl;apply ea;rfl;apply (jir p _ [] hp);rintro _ ⟨o_,n_,e_,rfl⟩)|(apply Vc;rfl;rfl;apply fnT;rfl;apply h148;(apply at_;rfl;rfl);(intro i_ hi_ _;obtain rfl:=List.mem_singleton.1 hi_;(apply bh;omega));(intro i_ hi_;cases hi_);rintro _ _ ⟨v1,rfl,c1_,n1_,f1_,rfl,-,-,-⟩;rw [wy rfl])|(apply Vp;rfl;rfl;apply fnT;rfl;apply h149;rintro _ ⟨(_|_),rfl⟩)|(apply Vd;rfl;(first|(apply dq;rfl;rfl)|(apply fb;rfl;rfl)|(apply fy;rfl;rfl));all_goals intro h_)|(apply Vo;rfl)|(apply Vw;rfl;(first|(apply cd;rfl;(apply tyT;rfl))|(apply cj;rfl;rfl;rfl)))|(apply Vs;rfl;(apply bw;rfl;(apply tyT;rfl);rfl;rfl;rfl;(first|apply bc|(apply bh;omega));rfl;rfl;(first|decide|(apply Nat.le_of_ble_eq_true;rfl))))|(apply ac;rfl)|apply ak|(apply al;rfl)|apply ah|apply ai|(apply ae;rfl)|(apply af;rfl)|(apply bf _ (.inr rfl);(exact List.prefix_append _ _);(focus repeat (first|apply a8|(apply a9;rfl)));rfl)|apply ap|apply aw|(show ew _ _ _ _ _ _;exfalso;dsimp only at *;omega))
      all_goals exact ⟨_,_,_,rfl⟩
  · obtain ⟨⟨kd,num,ty,nm,e,a,b,c,nth⟩,hx⟩:∃ x,q6[0]? = some x:=⟨_,List.getElem?_eq_getElem (by omega)⟩
    cases q2
    all_goals
      repeat' (first|apply ab|(apply V;rfl;(first|(apply bl;rfl)|(apply bg;rfl)|(apply cb;(apply plT;rfl);rfl;rfl;decide)|(apply fz;(apply plT;rfl);rfl;rfl;decide)|(apply bj;(apply tyT;rfl);rfl;(apply at_;rfl;rfl);rfl)|(apply bz;(apply tyT;rfl);rfl;(apply at_;rfl;rfl);rfl)|(apply ef;(apply tyT;rfl);rfl;rfl)|(apply bq;(apply elT;rfl);rfl;rfl)|(apply ca;rfl;rfl)|(apply bu;rfl;rfl)|(apply eu;rfl;rfl)|(apply cg;rfl)|(apply ed;(apply plT;rfl);rfl)|(apply j0 (c:=Sm.mk kd num ty nm e a b c nth) (g8 q6) ba;apply elT;rfl;rfl;rfl;rfl;omega;simpa using hx)))|(apply Vp;rfl;rfl;apply fnT;rfl;apply (ji6 p _ hp);rintro _ ⟨u_,rfl⟩)|(apply Vp;rfl;rfl;apply fnT;rfl;apply ea;rfl;apply (jir p _ [] hp);rintro _ ⟨o_,n_,e_,rfl⟩)|(apply Vc;rfl;rfl;apply fnT;rfl;apply h148;(apply at_;rfl;rfl);(intro i_ hi_ _;obtain rfl:=List.mem_singleton.1 hi_;(apply bh;omega));(intro i_ hi_;cases hi_);rintro _ _ ⟨v1,rfl,c1_,n1_,f1_,rfl,-,-,-⟩;rw [wy rfl])|(apply Vp;rfl;rfl;apply fnT;rfl;apply h149;rintro _ ⟨(_|_),rfl⟩)|(apply Vd;rfl;(first|(apply dq;rfl;rfl)|(apply fb;rfl;rfl)|(apply fy;rfl;rfl));all_goals intro h_)|(apply Vo;rfl)|(apply Vw;rfl;(first|(apply cd;rfl;(apply tyT;rfl))|(apply cj;rfl;rfl;rfl)))|(apply Vs;rfl;(apply bw;rfl;(apply tyT;rfl);rfl;rfl;rfl;(first|apply bc|(apply bh;omega));rfl;rfl;(first|decide|(apply Nat.le_of_ble_eq_true;rfl))))|(apply ac;rfl)|apply ak|(apply al;rfl)|apply ah|apply ai|(apply ae;rfl)|(apply af;rfl)|(apply bf _ (.inr rfl);(exact List.prefix_append _ _);(focus repeat (first|apply a8|(apply a9;rfl)));rfl)|apply ap|apply aw)
      all_goals exact ⟨_,_,_,rfl⟩
theorem jyq (p:List Cl) (hp:Sz p) (c:Cl) (hcs:vd c ≤ 1000000) (hok:jur c) (hB:BCl c):PC 89 [vP p,vCl c] jyp:=by
  have hfl:=k7 c
  have hml:=gd c
  have hfs:∀(k:Nat) (f:Fi),c.fields[k]? = some f → jh5 f ≤ 1000000:=fun k f h=>by
    have:=qh (f:=jh5) h
    simp only [vd] at hcs
    omega
  have hms:∀(k:Nat) (m:Me),c.methods[k]? = some m → y5 m ≤ 1000000:=fun k m h=>Nat.le_trans (jiq h) hcs
  obtain ⟨hok1,hok2⟩:=hok
  obtain ⟨hB1,hB2,hB3,hB4⟩:=hB
  obtain ⟨cn,csup,cf,cm⟩:=c
  dsimp only at *
  intro S T M
  refine am [] [] Tryz.func89 rfl Tryz.ntmps89 Tryz.results89 ?_
  repeat' (first|apply ab|(apply V;rfl;(first|(apply bg;rfl)|(apply cb;(apply plT;rfl);rfl;rfl;decide)|(apply bz;(apply tyT;rfl);rfl;(apply at_;rfl;rfl);rfl)|(apply ed;(apply plT;rfl);rfl)))|(apply Vw;rfl;(first|(apply cd;rfl;(apply tyT;rfl))|(apply cj;rfl;rfl;rfl)))|(apply Vs;rfl;(apply bw;rfl;(apply tyT;rfl);rfl;rfl;rfl;(first|apply bc|(apply bh;omega));rfl;rfl;(first|decide|(apply Nat.le_of_ble_eq_true;rfl))))|(apply ac;rfl)|apply ak|apply aj)
  refine j4 (id:=S.length + 3) (j:=2) 76 4 (at_ rfl rfl) rfl ?_
  refine j4 (id:=S.length + 3) (j:=3) 98 6 (List.getElem?_set_self (by simp)) rfl ?_
  refine cx (fun k:Nat × List DV=>cf.length - k.1) (fun k=>[(2,.ptr (S.length + 0) 0),(3,.ptr (S.length + 1) 0),(4,.ptr (S.length + 2) 0),(7,.ptr (S.length + 3) 0),(8,vI k.1)]) (fun k S1 T1=>k.1 ≤ cf.length ∧ S.length + 4 ≤ S1.length ∧ T <+: T1 ∧ S1[S.length + 0]? = some ([.d (cy df p)],26) ∧ S1[S.length + 1]? = some ([vS cn,vS csup,.d (cy je cf),.d (cy j1 cm)],37) ∧ S1[S.length + 2]? = some ([vS ⟨#[]⟩,vS ⟨#[]⟩,.tight [] 0,.tight [] 0],37) ∧ S1[S.length + 3]? = some ([vS cn,vS csup,.own 76 4 (T.length + 0) k.2 k.1,.own 98 6 (T.length + 1) [] 0],37) ∧ T1[T.length + 0]? = some k.2.length ∧ T1[T.length + 1]? = some 0) (0,[]) ⟨Nat.zero_le _,by simp,by simp,fe (by omega) (fe (by omega) (at_ rfl rfl)),fe (by omega) (fe (by omega) (at_ rfl rfl)),fe (by omega) (fe (by omega) (at_ rfl rfl)),by rw [List.getElem?_set_self (by simp)];simp;rfl,by simp,by simp⟩ ⟨rfl,rfl,rfl,rfl,rfl,trivial⟩ ?_
  rintro ⟨k,cs⟩ S1 T1 ⟨hk,hS,hT,g0,g1,g2,g3,hT0,hT1⟩
  dsimp only at hk g3 hT0 ⊢
  have h00:T.length ≤ T.length + 0:=Nat.le_refl _
  have h01:T.length ≤ T.length + 1:=by omega
  have hlt3:S.length + 3 < S1.length:=by omega
  have hlt2:S.length + 2 < S1.length:=by omega
  repeat' (first|apply ab|(apply V;rfl;(first|(apply bl;rfl)|(apply bg;rfl)|(apply cb;(apply plT;rfl);rfl;rfl;decide)|(apply bz;(apply tyT;rfl);rfl;(apply aa;assumption);rfl)|(apply bq;(apply elT;rfl);rfl;rfl)))|(apply Vd;rfl;(apply cu;rfl;rfl);all_goals intro h_)|(apply ac;rfl)|apply ak|apply aj|apply ah|apply bd|(apply ae;rfl)|(apply af;rfl)|apply ap|apply ey|apply bo)
  · obtain ⟨⟨fs,ft,fn,init⟩,hf⟩:∃ c,cf[k]? = some c:=⟨_,List.getElem?_eq_getElem (by omega)⟩
    have hfz:=hfs k _ hf
    obtain ⟨hf1,hf2,hf3⟩:=hB3 _ (List.mem_of_getElem? hf)
    obtain ⟨ho1,ho2⟩:=hok1 _ (List.mem_of_getElem? hf)
    simp only [jh5] at hfz
    dsimp only at hf1 hf2 hf3 ho1 ho2
    by_cases he:init.length = 0
    · repeat' (first|apply ab|(apply V;rfl;(first|(apply bl;rfl)|(apply bg;rfl)|(apply cb;(apply plT;rfl);rfl;rfl;decide)|(apply bj;(apply tyT;rfl);rfl;(first|(apply at_;rfl;rfl)|(apply aa;assumption));rfl)|(apply bz;(apply tyT;rfl);rfl;(first|(apply at_;rfl;rfl)|(apply aa;assumption));rfl)|(apply dp;(apply tyT;rfl);rfl;(first|rfl|apply ay|apply ba))|(apply bq;(apply elT;rfl);rfl;rfl)|(apply az;rfl;rfl;rfl;omega)|(apply bp (c:=(⟨fs,ft,fn,init⟩:Fi));apply elT;rfl;rfl;rfl;rfl;exact dx;omega;simpa using hf)))|(apply Vs;rfl;(apply fg;(apply tyT;rfl);rfl;rfl;assumption;(apply bh;omega);rfl;rfl;(apply Nat.le_of_ble_eq_true;rfl)))|(apply Vd;rfl;(apply gj;rfl;rfl);all_goals intro h_)|(apply Vw;rfl;(first|(apply cd;rfl;(apply tyT;rfl))|(apply d8;rfl;(apply elT;rfl);(apply tyT;rfl);rfl;decide;rfl;rfl)|(apply mf;(apply elT;rfl);(apply tyT;rfl);(apply byT;rfl);rfl;rfl;rfl;decide;rfl;(apply qf;decide;omega;omega;assumption))))|(apply Vs;rfl;(apply bw;rfl;(apply tyT;rfl);rfl;rfl;rfl;(first|apply bc|(apply bh;omega));rfl;rfl;(first|decide|(apply Nat.le_of_ble_eq_true;rfl))))|(apply ac;rfl)|apply ak|(apply al;rfl)|apply ah|(apply ae;rfl)|(apply af;rfl)|apply ap|apply cq|(show Tri _ _ _ _ _;exfalso;dsimp only at *;omega))
      all_goals first
        | exact ⟨(k + 1,_),_,_,by dsimp only;omega,⟨by dsimp only;omega,by simp only [List.length_append,List.length_set];omega,av (dc hT h00),aa (fe (by omega) g0),aa (fe (by omega) g1),aa (fe (by omega) g2),aa (List.getElem?_set_self hlt3),aa (List.getElem?_set_self (List.getElem?_eq_some_iff.1 hT0).1),aa (by rw [List.getElem?_set_ne (by omega)];exact hT1)⟩,⟨rfl,rfl,rfl,rfl,di (by omega),trivial⟩,rfl⟩
    · obtain ⟨x,hx⟩:∃ x,init[0]? = some x:=⟨_,List.getElem?_eq_getElem (by omega)⟩
      have hxz:=jo hx
      have hxk:=j8 ho2 hx
      have h121:=joo p hp cn fs [] (Nat.zero_le _) x (by omega) hxk
      obtain ⟨xk,xn,xt,xm,xy,xl,xo,xh⟩:=x
      unfold vEx at h121
      rw [jn] at h121
      repeat' (first|apply ab|(apply V;rfl;(first|(apply bl;rfl)|(apply bg;rfl)|(apply cb;(apply plT;rfl);rfl;rfl;decide)|(apply bj;(apply tyT;rfl);rfl;(first|(apply at_;rfl;rfl)|(apply aa;assumption));rfl)|(apply bz;(apply tyT;rfl);rfl;(first|(apply at_;rfl;rfl)|(apply aa;assumption));rfl)|(apply dp;(apply tyT;rfl);rfl;(first|rfl|apply ay|apply ba))|(apply bq;(apply elT;rfl);rfl;rfl)|(apply ca;rfl;rfl)|(apply bu;rfl;rfl)|(apply eu;rfl;rfl)|(apply cg;rfl)|(apply ed;(apply plT;rfl);rfl)|(apply az;rfl;rfl;rfl;omega)|(apply kr;rfl;rfl;(first|omega|(simp only [ByteArray.size_append,ByteArray.size_extract,cw,List.size_toArray,List.length_cons,List.length_nil,List.length_append] at *;omega)))|(apply bp (c:=(⟨fs,ft,fn,init⟩:Fi));apply elT;rfl;rfl;rfl;rfl;exact dx;omega;simpa using hf)|(apply j0 (c:=Ex.mk xk xn xt xm xy xl xo xh) (d4 init) ay;apply elT;rfl;rfl;rfl;rfl;omega;simpa using hx)))|(apply Vs;rfl;(apply fg;(apply tyT;rfl);rfl;rfl;assumption;(apply bh;omega);rfl;rfl;(apply Nat.le_of_ble_eq_true;rfl)))|apply nr|(apply bt (nt:=149) (.take 0 (.take 1 (.take 2 (.take 3 (.take 4 (.take 5 (.take 6 (.take 7 (.take 8 (.take 9 (.fork 10 (.take 11 (.take 12 (.take 13 (.take 14 (.one 15 (.one 16 (.take 17 (.take 18 .nil)))))))) 15 (.one 10 (.take 11 (.take 12 (.take 13 (.take 14 (.one 16 (.take 17 (.take 18 .nil))))))))))))))))))) [S1.length + 1] [];exact co;rfl;decide +kernel)|(apply tV;rfl;rfl;(first|(apply bj;(apply tyT;rfl);rfl;(first|(apply at_;rfl;rfl)|(apply aa;assumption));rfl)|(apply bz;(apply tyT;rfl);rfl;(first|(apply at_;rfl;rfl)|(apply aa;assumption));rfl));(apply ek;rfl;(focus (first|(simp;done)|(simp;omega)))))|(apply oS;rfl;rfl;(apply bw;rfl;(apply tyT;rfl);rfl;rfl;rfl;(apply e8;omega;(simp));rfl;rfl;(apply Nat.le_of_ble_eq_true;rfl)))|(apply bt (nt:=149) (.take 0 (.take 1 (.take 2 (.take 3 (.take 4 (.take 5 (.take 6 (.take 7 (.one 8 (.take 9 (.take 10 .nil))))))))))) [S.length + 2] [];exact co;rfl;decide +kernel)|(apply tV;rfl;rfl;(first|(apply bj;(apply tyT;rfl);rfl;(first|(apply at_;rfl;rfl)|(apply aa;assumption));rfl)|(apply bz;(apply tyT;rfl);rfl;(first|(apply at_;rfl;rfl)|(apply aa;assumption));rfl));(apply ek;rfl;(focus (first|(simp;done)|(simp;omega)))))|(apply oS;rfl;rfl;(apply fg;(apply tyT;rfl);rfl;rfl;assumption;(apply e8;omega;(simp));rfl;rfl;(apply Nat.le_of_ble_eq_true;rfl)))|(apply bf _ (.inr rfl);(first|exact List.prefix_append _ _|assumption|(apply av;assumption)|(apply av;apply dc <;> assumption));(focus repeat (first|apply a8|(apply a9;rfl)|(apply ez;rfl;(apply tyT;rfl);(apply List.getElem?_set_self;assumption);rfl)));rfl)|(apply oP;rfl;rfl;rfl;apply fnT;rfl;apply ea;rfl;apply h121;rintro _ ⟨k_,n_,t_,na_,ty_,cs_,m_,o_,y_,tt_,f_,rfl⟩)|(apply Vp;rfl;rfl;apply fnT;rfl;apply (vg p _ _ hp);rintro _ ⟨(_|_),rfl⟩)|(apply Vd;rfl;(first|(apply gj;rfl;rfl)|(apply dq;rfl;rfl)|(apply fb;rfl;rfl));all_goals intro h_)|(apply Vo;rfl)|(apply Vw;rfl;(first|(apply cd;rfl;(apply tyT;rfl))|(apply d8;rfl;(apply elT;rfl);(apply tyT;rfl);rfl;decide;rfl;rfl)|(apply mf;(apply elT;rfl);(apply tyT;rfl);(apply byT;rfl);rfl;rfl;rfl;decide;rfl;(apply qf;decide;omega;omega;assumption))))|(apply Vs;rfl;(apply bw;rfl;(apply tyT;rfl);rfl;rfl;rfl;(first|apply bc|(apply bh;omega));rfl;rfl;(first|decide|(apply Nat.le_of_ble_eq_true;rfl))))|(apply ac;rfl)|apply ak|(apply al;rfl)|apply ah|apply ai|(apply ae;rfl)|(apply af;rfl)|apply ap|apply cq|apply dm|apply aw|apply dg|(apply tV;rfl;rfl;(first|(apply bl;rfl)|(apply bg;rfl)|(apply cb;(apply plT;rfl);rfl;rfl;decide)|(apply bj;(apply tyT;rfl);rfl;(first|(apply at_;rfl;rfl)|(apply aa;assumption));rfl)|(apply bz;(apply tyT;rfl);rfl;(first|(apply at_;rfl;rfl)|(apply aa;assumption));rfl)|(apply dp;(apply tyT;rfl);rfl;(first|rfl|apply ay|apply ba))|(apply bq;(apply elT;rfl);rfl;rfl)|(apply ca;rfl;rfl)|(apply bu;rfl;rfl)|(apply eu;rfl;rfl)|(apply cg;rfl)|(apply ed;(apply plT;rfl);rfl)|(apply az;rfl;rfl;rfl;omega)|(apply kr;rfl;rfl;(first|omega|(simp only [ByteArray.size_append,ByteArray.size_extract,cw,List.size_toArray,List.length_cons,List.length_nil,List.length_append] at *;omega)))|(apply bp (c:=(⟨fs,ft,fn,init⟩:Fi));apply elT;rfl;rfl;rfl;rfl;exact dx;omega;simpa using hf)|(apply j0 (c:=Ex.mk xk xn xt xm xy xl xo xh) (d4 init) ay;apply elT;rfl;rfl;rfl;rfl;omega;simpa using hx));rfl)|(apply oW;rfl;rfl;(first|(apply cd;rfl;(apply tyT;rfl))|(apply d8;rfl;(apply elT;rfl);(apply tyT;rfl);rfl;decide;rfl;rfl)|(apply mf;(apply elT;rfl);(apply tyT;rfl);(apply byT;rfl);rfl;rfl;rfl;decide;rfl;(apply qf;decide;omega;omega;assumption)))))
      all_goals first
        | exact ⟨_,_,_,_,_,_,_,_,rfl⟩
        | exact ⟨(k + 1,_),_,_,by dsimp only;omega,⟨by dsimp only;omega,by simp only [List.length_append,List.length_set];omega,av (dc hT h00),aa (fe (by omega) g0),aa (fe (by omega) g1),aa (fe (by omega) g2),aa (List.getElem?_set_self hlt3),aa (List.getElem?_set_self (List.getElem?_eq_some_iff.1 hT0).1),aa (by rw [List.getElem?_set_ne (by omega)];exact hT1)⟩,⟨rfl,rfl,rfl,rfl,di (by omega),trivial⟩,rfl⟩
  obtain ⟨kf,hkf⟩:∃ kf,kf = k:=⟨_,rfl⟩
  rw [← hkf] at g3
  clear hkf
  refine cx (fun k:Nat × List DV × Bool=>cm.length - k.1) (fun k=>[(2,.ptr (S.length + 0) 0),(3,.ptr (S.length + 1) 0),(4,.ptr (S.length + 2) 0),(7,.ptr (S.length + 3) 0),(13,vB k.2.2),(14,vI k.1)]) (fun k S1 T1=>k.1 ≤ cm.length ∧ S.length + 4 ≤ S1.length ∧ T <+: T1 ∧ S1[S.length + 0]? = some ([.d (cy df p)],26) ∧ S1[S.length + 1]? = some ([vS cn,vS csup,.d (cy je cf),.d (cy j1 cm)],37) ∧ S1[S.length + 2]? = some ([vS ⟨#[]⟩,vS ⟨#[]⟩,.tight [] 0,.tight [] 0],37) ∧ S1[S.length + 3]? = some ([vS cn,vS csup,.own 76 4 (T.length + 0) cs kf,.own 98 6 (T.length + 1) k.2.1 k.1],37) ∧ T1[T.length + 1]? = some k.2.1.length) (0,[],false) ⟨Nat.zero_le _,by simpa using hS,av hT,aa g0,aa g1,aa g2,aa g3,aa hT1⟩ ⟨rfl,rfl,rfl,rfl,rfl,rfl,trivial⟩ ?_
  clear g0 g1 g2 g3 hT0 hT1 hlt3 hlt2 hS hT
  rintro ⟨j,cs2,ct⟩ S1 T1 ⟨hj,hS,hT,g0,g1,g2,g3,hT1⟩
  dsimp only at hj g3 hT1 ⊢
  have hlt3:S.length + 3 < S1.length:=by omega
  have hlt2:S.length + 2 < S1.length:=by omega
  cases ct
  all_goals
    repeat' (first|apply ab|(apply V;rfl;(first|(apply bl;rfl)|(apply bg;rfl)|(apply cb;(apply plT;rfl);rfl;rfl;decide)|(apply bj;(apply tyT;rfl);rfl;(apply aa;assumption);rfl)|(apply bz;(apply tyT;rfl);rfl;(apply aa;assumption);rfl)|(apply bq;(apply elT;rfl);rfl;rfl)|(apply ca;rfl;rfl)|(apply bu;rfl;rfl)|(apply eu;rfl;rfl)|(apply cg;rfl)|(apply kr;rfl;rfl;(first|omega|(simp only [ByteArray.size_append,ByteArray.size_extract,cw,List.size_toArray,List.length_cons,List.length_nil,List.length_append] at *;omega)))))|(apply Vs;rfl;(apply fg;(apply tyT;rfl);rfl;rfl;assumption;(apply bh;omega);rfl;rfl;(apply Nat.le_of_ble_eq_true;rfl)))|(apply bt (nt:=149) (.take 0 (.take 1 (.take 2 (.take 3 (.take 4 (.one 5 (.take 6 (.take 7 .nil)))))))) [S.length + 2] [];exact co;rfl;decide +kernel)|(apply tV;rfl;rfl;(first|(apply bj;(apply tyT;rfl);rfl;(first|(apply at_;rfl;rfl)|(apply aa;assumption));rfl)|(apply bz;(apply tyT;rfl);rfl;(first|(apply at_;rfl;rfl)|(apply aa;assumption));rfl));(apply ek;rfl;(focus (first|(simp;done)|(simp;omega)))))|(apply oS;rfl;rfl;(apply fg;(apply tyT;rfl);rfl;rfl;assumption;(apply e8;omega;(simp));rfl;rfl;(apply Nat.le_of_ble_eq_true;rfl)))|(apply bf _ (.inr rfl);(first|exact List.prefix_append _ _|assumption|(apply av;assumption)|(apply av;apply dc <;> assumption));(focus repeat (first|apply a8|(apply a9;rfl)|(apply ez;rfl;(apply tyT;rfl);(apply List.getElem?_set_self;assumption);rfl)));rfl)|(apply Vp;rfl;rfl;apply fnT;rfl;apply ea;rfl;apply (jir p _ [] hp);rintro _ ⟨o_,n_,e_,rfl⟩)|(apply Vd;rfl;(first|(apply cu;rfl;rfl)|(apply fb;rfl;rfl)|(apply fy;rfl;rfl));all_goals intro h_)|(apply Vo;rfl)|(apply Vw;rfl;(apply cd;rfl;(apply tyT;rfl)))|(apply Vs;rfl;(apply bw;rfl;(apply tyT;rfl);rfl;rfl;rfl;(first|apply bc|(apply bh;omega));rfl;rfl;(first|decide|(apply Nat.le_of_ble_eq_true;rfl))))|(apply ac;rfl)|apply ak|apply aj|apply ah|apply bd|apply ai|(apply ae;rfl)|(apply af;rfl)|apply ap|apply ey|apply aw|apply bo|apply dg|(apply tV;rfl;rfl;(first|(apply bl;rfl)|(apply bg;rfl)|(apply cb;(apply plT;rfl);rfl;rfl;decide)|(apply bj;(apply tyT;rfl);rfl;(apply aa;assumption);rfl)|(apply bz;(apply tyT;rfl);rfl;(apply aa;assumption);rfl)|(apply bq;(apply elT;rfl);rfl;rfl)|(apply ca;rfl;rfl)|(apply bu;rfl;rfl)|(apply eu;rfl;rfl)|(apply cg;rfl)|(apply kr;rfl;rfl;(first|omega|(simp only [ByteArray.size_append,ByteArray.size_extract,cw,List.size_toArray,List.length_cons,List.length_nil,List.length_append] at *;omega))));rfl))
    all_goals first
      | exact ⟨_,_,_,_,_,_,_,_,rfl⟩
      | skip
    try
      obtain ⟨m,hm⟩:∃ c,cm[j]? = some c:=⟨_,List.getElem?_eq_getElem (by omega)⟩
      have hmz:=hms j m hm
      obtain ⟨hm1,hm2,hm3,hm4⟩:=hB4 _ (List.mem_of_getElem? hm)
      have h123:=jvt p hp cn m hmz (hok2 _ (List.mem_of_getElem? hm))
      obtain ⟨q1,q2,q3,q4,q5,q6⟩:=m
      dsimp only at hm1 hm2 hm3 hm4
      cases q2
      all_goals
        repeat' (first|apply ab|(apply V;rfl;(first|(apply bl;rfl)|(apply bg;rfl)|(apply cb;(apply plT;rfl);rfl;rfl;decide)|(apply bj;(apply tyT;rfl);rfl;(first|(apply at_;rfl;rfl)|(apply aa;assumption));rfl)|(apply bz;(apply tyT;rfl);rfl;(first|(apply at_;rfl;rfl)|(apply aa;assumption));rfl)|(apply dp;(apply tyT;rfl);rfl;(first|rfl|apply ay|apply ba))|(apply eu;rfl;rfl)|(apply az;rfl;rfl;rfl;omega)|(apply kr;rfl;rfl;(first|omega|(simp only [ByteArray.size_append,ByteArray.size_extract,cw,List.size_toArray,List.length_cons,List.length_nil,List.length_append] at *;omega)))|(apply bp (c:=(⟨q1,_,q3,q4,q5,q6⟩:Me));apply elT;rfl;rfl;rfl;rfl;exact fu;omega;simpa using hm)))|(apply Vs;rfl;(apply fg;(apply tyT;rfl);rfl;rfl;assumption;(apply bh;omega);rfl;rfl;(apply Nat.le_of_ble_eq_true;rfl)))|(apply bt (nt:=149) (.take 0 (.take 1 (.take 2 (.take 3 (.take 4 (.take 5 (.take 6 (.one 7 (.take 8 (.take 9 .nil)))))))))) [S.length + 2] [];exact co;rfl;decide +kernel)|(apply tV;rfl;rfl;(first|(apply bj;(apply tyT;rfl);rfl;(first|(apply at_;rfl;rfl)|(apply aa;assumption));rfl)|(apply bz;(apply tyT;rfl);rfl;(first|(apply at_;rfl;rfl)|(apply aa;assumption));rfl));(apply ek;rfl;(focus (first|(simp;done)|(simp;omega)))))|(apply oS;rfl;rfl;(apply fg;(apply tyT;rfl);rfl;rfl;assumption;(apply e8;omega;(simp));rfl;rfl;(apply Nat.le_of_ble_eq_true;rfl)))|(apply bf _ (.inr rfl);(first|exact List.prefix_append _ _|assumption|(apply av;assumption)|(apply av;apply dc <;> assumption));(focus repeat (first|apply a8|(apply a9;rfl)|(apply ez;rfl;(apply tyT;rfl);(apply List.getElem?_set_self;assumption);rfl)));rfl)|(apply Vp;rfl;rfl;apply fnT;rfl;apply h123;rintro _ ⟨l_,n_,f_,rfl⟩)|(apply Vd;rfl;(apply fb;rfl;rfl);all_goals intro h_)|(apply Vw;rfl;(first|(apply cd;rfl;(apply tyT;rfl))|(apply d8;rfl;(apply elT;rfl);(apply tyT;rfl);rfl;decide;rfl;rfl)|(apply mf;(apply elT;rfl);(apply tyT;rfl);(apply byT;rfl);rfl;rfl;rfl;decide;rfl;(apply qf;decide;omega;omega;assumption))))|(apply Vs;rfl;(apply bw;rfl;(apply tyT;rfl);rfl;rfl;rfl;(first|apply bc|(apply bh;omega));rfl;rfl;(first|decide|(apply Nat.le_of_ble_eq_true;rfl))))|(apply ac;rfl)|apply ak|(apply al;rfl)|apply ah|apply ai|(apply ae;rfl)|(apply af;rfl)|apply ap|apply cq|apply dm|apply aw|apply dg|(apply tV;rfl;rfl;(first|(apply bl;rfl)|(apply bg;rfl)|(apply cb;(apply plT;rfl);rfl;rfl;decide)|(apply bj;(apply tyT;rfl);rfl;(first|(apply at_;rfl;rfl)|(apply aa;assumption));rfl)|(apply bz;(apply tyT;rfl);rfl;(first|(apply at_;rfl;rfl)|(apply aa;assumption));rfl)|(apply dp;(apply tyT;rfl);rfl;(first|rfl|apply ay|apply ba))|(apply eu;rfl;rfl)|(apply az;rfl;rfl;rfl;omega)|(apply kr;rfl;rfl;(first|omega|(simp only [ByteArray.size_append,ByteArray.size_extract,cw,List.size_toArray,List.length_cons,List.length_nil,List.length_append] at *;omega)))|(apply bp (c:=(⟨q1,_,q3,q4,q5,q6⟩:Me));apply elT;rfl;rfl;rfl;rfl;exact fu;omega;simpa using hm));rfl))
        all_goals first
          | exact ⟨_,_,_,_,_,_,_,_,rfl⟩
          | exact ⟨(j + 1,_,_),_,_,by dsimp only;omega,⟨by dsimp only;omega,by simp only [List.length_append,List.length_set];omega,av (dc hT h01),aa (fe (by omega) g0),aa (fe (by omega) g1),aa (fe (by omega) g2),aa (List.getElem?_set_self hlt3),aa (List.getElem?_set_self (List.getElem?_eq_some_iff.1 hT1).1)⟩,⟨rfl,rfl,rfl,rfl,rfl,di (by omega),trivial⟩,rfl⟩
end Go.Proofs.YtinffhimfoicdaaGreat
