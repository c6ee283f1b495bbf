/- Texts of the claim, merged: RD, HV, TL. No conditions. -/
import Derived.Test.YtinffhimfoicdaaGreatPq16
import Derived.Test.YtinffhimfoicdaaGreatPq17
import Derived.Test.YtinffhimfoicdaaGreatPq5
import Derived.Test.YtinffhimfoicdaaGreatPq3
namespace Go.Proofs.YtinffhimfoicdaaGreat
open Go Go.RowKit Go.Proofs.YtinffhimfoicdaaGreat.Calc
set_option linter.unusedVariables false
set_option linter.unusedSimpArgs false
set_option maxRecDepth 1000000
set_option maxHeartbeats 8000000
def cA:ByteArray:=⟨#[65]⟩
def cB:ByteArray:=⟨#[66]⟩
def cT:ByteArray:=⟨#[84]⟩
def cQ:ByteArray:=⟨#[81]⟩
def vlI (n:Int):Vl:=⟨1,n,⟨#[]⟩⟩
theorem jg7:rf P0:=by unfold rf;decide +kernel
theorem jmg:jlb P0:=by unfold jlb;decide +kernel
theorem jmh:(ji P0).1 = 0:=by decide +kernel
theorem jzr:isC P0 cB = true:=by decide +kernel
theorem jzs:isC P0 cQ = false:=by decide +kernel
theorem jso:chC P0 cB = [cB,cA]:=by decide +kernel
def tS:Tbl:=[(⟨cA,1⟩,vlI 0),(⟨cT,0⟩,⟨4,0,⟨#[]⟩⟩)]
def tB:Tbl:=[(⟨cB,0⟩,vlI 0),(⟨cB,1⟩,vlI 0),(⟨cB,2⟩,⟨4,0,⟨#[]⟩⟩),(⟨cA,0⟩,vlI 0),(⟨cA,2⟩,⟨4,0,⟨#[]⟩⟩),(⟨cA,3⟩,⟨3,0,⟨#[]⟩⟩)]
theorem jp0:qk P0 [] = tS:=by decide +kernel
theorem jp1:nv P0 [cB,cA] [] = tB:=by decide +kernel
attribute [local irreducible] Tri ew er ci bn db d7 inQ jb
theorem cl7:PC 7 [jxv] (fun r=>r = vP P0):=by
  have h25:=jzm
  have h24:=jzp
  have h26:=jzq
  rw [jmd] at h24 h26
  unfold vP at *
  have hl:P0.length = 3:=rfl
  generalize P0 = p at *
  generalize jsi = sr at *
  intro S T M
  refine am [] [] Tryz.func7 rfl Tryz.ntmps7 Tryz.results7 ?_
  repeat' (first|apply ab|(apply V;rfl;(first|(apply bl;rfl)|(apply bg;rfl)|(apply cb;(apply plT;rfl);rfl;rfl;decide)|(apply fz;(apply plT;rfl);rfl;rfl;decide)|(apply bj;(apply tyT;rfl);rfl;(first|(apply at_;rfl;rfl)|(apply aa;assumption)|(apply aq;assumption));rfl)|(apply bz;(apply tyT;rfl);rfl;(first|(apply at_;rfl;rfl)|(apply aa;assumption)|(apply aq;assumption));rfl)|(apply dp;(apply tyT;rfl);rfl;(first|rfl|apply ay|apply ba))|(apply ef;(apply tyT;rfl);rfl;rfl)|(apply bq;(apply elT;rfl);rfl;rfl)|(apply fx;(apply udT;rfl);rfl)|(apply ck;rfl)|(apply jeb;rfl)|(apply jec;rfl)|(apply ca;rfl;rfl)|(apply bu;rfl;rfl)|(apply eu;rfl;rfl)|(apply cg;rfl)|(apply ed;(apply plT;rfl);rfl)|(apply jb6;rfl)|(apply kt;rfl;(apply udT;rfl);(apply udT;rfl))|(apply nq;(apply udT;rfl);rfl;rfl;omega)|(apply az;rfl;rfl;rfl;omega)|(apply ei;rfl;rfl;rfl;omega)|(apply qd;rfl;rfl)|(apply rc;rfl;rfl)|(apply jd9;rfl;rfl)|(apply jcm;rfl;rfl)|(apply jea;rfl;rfl)|(apply y8;rfl;rfl)|(apply jnv;rfl;rfl)|(apply jcn;rfl;rfl;(first|decide|apply qe|omega))|(apply ug;(apply udT;rfl);rfl;rfl;rfl;(first|exact .inr ⟨_,_,rfl,by omega,rfl⟩|exact .inl ⟨rfl,rfl⟩);(first|exact .inr ⟨_,_,rfl,by omega,rfl⟩|exact .inl ⟨rfl,rfl⟩);(first|omega|(simp only [ByteArray.size_append,ByteArray.size_extract,cw,List.size_toArray,List.length_cons,List.length_nil,List.length_append] at *;omega));(first|omega|(simp only [ByteArray.size_append,ByteArray.size_extract,cw,List.size_toArray,List.length_cons,List.length_nil,List.length_append] at *;omega)))|(apply kr;rfl;rfl;(first|omega|(simp only [ByteArray.size_append,ByteArray.size_extract,cw,List.size_toArray,List.length_cons,List.length_nil,List.length_append] at *;omega)))))|(apply Vp;rfl;rfl;apply fnT;rfl;apply h25;rintro _ rfl)|(apply Vp;rfl;rfl;apply fnT;rfl;apply ea;rfl;apply h25;rintro _ rfl)|(apply oP;rfl;rfl;rfl;apply fnT;rfl;apply h25;rintro _ rfl)|(apply oP;rfl;rfl;rfl;apply fnT;rfl;apply ea;rfl;apply h25;rintro _ rfl)|(apply Vp;rfl;rfl;apply fnT;rfl;apply h24;rintro _ rfl)|(apply Vp;rfl;rfl;apply fnT;rfl;apply ea;rfl;apply h24;rintro _ rfl)|(apply oP;rfl;rfl;rfl;apply fnT;rfl;apply h24;rintro _ rfl)|(apply oP;rfl;rfl;rfl;apply fnT;rfl;apply ea;rfl;apply h24;rintro _ rfl)|(apply Vp;rfl;rfl;apply fnT;rfl;apply h26;rintro _ rfl)|(apply Vp;rfl;rfl;apply fnT;rfl;apply ea;rfl;apply h26;rintro _ rfl)|(apply oP;rfl;rfl;rfl;apply fnT;rfl;apply h26;rintro _ rfl)|(apply oP;rfl;rfl;rfl;apply fnT;rfl;apply ea;rfl;apply h26;rintro _ rfl)|(apply Vd;rfl;(first|(apply cu;rfl;rfl)|(apply mj;rfl;rfl)|(apply gj;rfl;rfl)|(apply ep;rfl;rfl)|(apply dq;rfl;rfl)|(apply fb;rfl;rfl)|(apply du;rfl;rfl)|(apply fy;rfl;rfl));all_goals intro h_)|(apply Vo;rfl)|(apply Vw;rfl;(first|(apply cd;rfl;(apply tyT;rfl))|(apply cj;rfl;rfl;rfl)|(apply d8;rfl;(apply elT;rfl);(apply tyT;rfl);rfl;decide;rfl;rfl)))|(apply Vs;rfl;(first|(apply jm;(apply tyT;rfl);rfl;rfl;assumption;(apply bm;simp);rfl;rfl;(first|decide|(apply Nat.le_of_ble_eq_true;rfl)))|(apply bw;rfl;(apply tyT;rfl);rfl;rfl;rfl;(first|apply bc|(apply bh;omega));rfl;rfl;(first|decide|(apply Nat.le_of_ble_eq_true;rfl)))|(apply fg;(apply tyT;rfl);rfl;rfl;assumption;(apply bm;simp);rfl;rfl;(first|decide|(apply Nat.le_of_ble_eq_true;rfl)))))|(apply ac;rfl)|apply ak|(apply al;rfl)|apply aj|apply ah|apply bd|apply ai|(apply ae;rfl)|(apply af;rfl)|(apply bf _ (.inr rfl);(first|exact List.prefix_append _ _|assumption|(apply av;assumption)|(apply av;apply dc <;> assumption)|exact List.prefix_refl _);(focus repeat (first|apply a8|(apply a9;rfl)|(apply cp;rfl;rfl;apply tyT;rfl;rfl;rfl)|(apply ez;rfl;apply tyT;rfl;assumption;rfl)));rfl)|(apply bf _ (.inl rfl);(first|exact List.prefix_append _ _|assumption|(apply av;assumption)|(apply av;apply dc <;> assumption)|exact List.prefix_refl _);(focus repeat (first|apply a8|(apply a9;rfl)|(apply cp;rfl;rfl;apply tyT;rfl;rfl;rfl)|(apply ez;rfl;apply tyT;rfl;assumption;rfl)));rfl)|(apply fm _ (.inr rfl);(first|exact List.prefix_append _ _|assumption|(apply av;assumption)|(apply av;apply dc <;> assumption)|exact List.prefix_refl _);(focus repeat (first|apply a8|(apply a9;rfl)|(apply cp;rfl;rfl;apply tyT;rfl;rfl;rfl)|(apply ez;rfl;apply tyT;rfl;assumption;rfl)));rfl;(first|(apply aq;assumption)|(apply aa;assumption));rfl;rfl)|(apply fm _ (.inl rfl);(first|exact List.prefix_append _ _|assumption|(apply av;assumption)|(apply av;apply dc <;> assumption)|exact List.prefix_refl _);(focus repeat (first|apply a8|(apply a9;rfl)|(apply cp;rfl;rfl;apply tyT;rfl;rfl;rfl)|(apply ez;rfl;apply tyT;rfl;assumption;rfl)));rfl;(first|(apply aq;assumption)|(apply aa;assumption));rfl;rfl)|apply ap|apply ey|apply cq|apply dm|apply aw|(apply jp3;rfl)|apply bo|apply dg|(apply tV;rfl;rfl;(first|(apply bl;rfl)|(apply bg;rfl)|(apply cb;(apply plT;rfl);rfl;rfl;decide)|(apply fz;(apply plT;rfl);rfl;rfl;decide)|(apply bj;(apply tyT;rfl);rfl;(first|(apply at_;rfl;rfl)|(apply aa;assumption)|(apply aq;assumption));rfl)|(apply bz;(apply tyT;rfl);rfl;(first|(apply at_;rfl;rfl)|(apply aa;assumption)|(apply aq;assumption));rfl)|(apply dp;(apply tyT;rfl);rfl;(first|rfl|apply ay|apply ba))|(apply ef;(apply tyT;rfl);rfl;rfl)|(apply bq;(apply elT;rfl);rfl;rfl)|(apply fx;(apply udT;rfl);rfl)|(apply ck;rfl)|(apply jeb;rfl)|(apply jec;rfl)|(apply ca;rfl;rfl)|(apply bu;rfl;rfl)|(apply eu;rfl;rfl)|(apply cg;rfl)|(apply ed;(apply plT;rfl);rfl)|(apply jb6;rfl)|(apply kt;rfl;(apply udT;rfl);(apply udT;rfl))|(apply nq;(apply udT;rfl);rfl;rfl;omega)|(apply az;rfl;rfl;rfl;omega)|(apply ei;rfl;rfl;rfl;omega)|(apply qd;rfl;rfl)|(apply rc;rfl;rfl)|(apply jd9;rfl;rfl)|(apply jcm;rfl;rfl)|(apply jea;rfl;rfl)|(apply y8;rfl;rfl)|(apply jnv;rfl;rfl)|(apply jcn;rfl;rfl;(first|decide|apply qe|omega))|(apply ug;(apply udT;rfl);rfl;rfl;rfl;(first|exact .inr ⟨_,_,rfl,by omega,rfl⟩|exact .inl ⟨rfl,rfl⟩);(first|exact .inr ⟨_,_,rfl,by omega,rfl⟩|exact .inl ⟨rfl,rfl⟩);(first|omega|(simp only [ByteArray.size_append,ByteArray.size_extract,cw,List.size_toArray,List.length_cons,List.length_nil,List.length_append] at *;omega));(first|omega|(simp only [ByteArray.size_append,ByteArray.size_extract,cw,List.size_toArray,List.length_cons,List.length_nil,List.length_append] at *;omega)))|(apply kr;rfl;rfl;(first|omega|(simp only [ByteArray.size_append,ByteArray.size_extract,cw,List.size_toArray,List.length_cons,List.length_nil,List.length_append] at *;omega))));rfl)|(apply tVd;rfl;rfl;(first|(apply cu;rfl;rfl)|(apply mj;rfl;rfl)|(apply gj;rfl;rfl)|(apply ep;rfl;rfl)|(apply dq;rfl;rfl)|(apply fb;rfl;rfl)|(apply du;rfl;rfl)|(apply fy;rfl;rfl));rfl;all_goals intro h_)|(apply tVo;rfl;rfl)|(apply oV;rfl;rfl;(first|(apply bl;rfl)|(apply bg;rfl)|(apply cb;(apply plT;rfl);rfl;rfl;decide)|(apply fz;(apply plT;rfl);rfl;rfl;decide)|(apply bj;(apply tyT;rfl);rfl;(first|(apply at_;rfl;rfl)|(apply aa;assumption)|(apply aq;assumption));rfl)|(apply bz;(apply tyT;rfl);rfl;(first|(apply at_;rfl;rfl)|(apply aa;assumption)|(apply aq;assumption));rfl)|(apply dp;(apply tyT;rfl);rfl;(first|rfl|apply ay|apply ba))|(apply ef;(apply tyT;rfl);rfl;rfl)|(apply bq;(apply elT;rfl);rfl;rfl)|(apply fx;(apply udT;rfl);rfl)|(apply ck;rfl)|(apply jeb;rfl)|(apply jec;rfl)|(apply ca;rfl;rfl)|(apply bu;rfl;rfl)|(apply eu;rfl;rfl)|(apply cg;rfl)|(apply ed;(apply plT;rfl);rfl)|(apply jb6;rfl)|(apply kt;rfl;(apply udT;rfl);(apply udT;rfl))|(apply nq;(apply udT;rfl);rfl;rfl;omega)|(apply az;rfl;rfl;rfl;omega)|(apply ei;rfl;rfl;rfl;omega)|(apply qd;rfl;rfl)|(apply rc;rfl;rfl)|(apply jd9;rfl;rfl)|(apply jcm;rfl;rfl)|(apply jea;rfl;rfl)|(apply y8;rfl;rfl)|(apply jnv;rfl;rfl)|(apply jcn;rfl;rfl;(first|decide|apply qe|omega))|(apply ug;(apply udT;rfl);rfl;rfl;rfl;(first|exact .inr ⟨_,_,rfl,by omega,rfl⟩|exact .inl ⟨rfl,rfl⟩);(first|exact .inr ⟨_,_,rfl,by omega,rfl⟩|exact .inl ⟨rfl,rfl⟩);(first|omega|(simp only [ByteArray.size_append,ByteArray.size_extract,cw,List.size_toArray,List.length_cons,List.length_nil,List.length_append] at *;omega));(first|omega|(simp only [ByteArray.size_append,ByteArray.size_extract,cw,List.size_toArray,List.length_cons,List.length_nil,List.length_append] at *;omega)))|(apply kr;rfl;rfl;(first|omega|(simp only [ByteArray.size_append,ByteArray.size_extract,cw,List.size_toArray,List.length_cons,List.length_nil,List.length_append] at *;omega)))))|(apply oVd;rfl;rfl;(first|(apply cu;rfl;rfl)|(apply mj;rfl;rfl)|(apply gj;rfl;rfl)|(apply ep;rfl;rfl)|(apply dq;rfl;rfl)|(apply fb;rfl;rfl)|(apply du;rfl;rfl)|(apply fy;rfl;rfl));all_goals intro h_)|(apply oVo;rfl;rfl)|(apply oW;rfl;rfl;(first|(apply cd;rfl;(apply tyT;rfl))|(apply cj;rfl;rfl;rfl)|(apply d8;rfl;(apply elT;rfl);(apply tyT;rfl);rfl;decide;rfl;rfl)))|(apply oS;rfl;rfl;(first|(apply jm;(apply tyT;rfl);rfl;rfl;assumption;(apply mz <;> simp);rfl;rfl;(first|decide|(apply Nat.le_of_ble_eq_true;rfl)))|(apply bw;rfl;(apply tyT;rfl);rfl;rfl;rfl;(first|(apply jl;rfl)|(apply mb;omega;rfl));rfl;rfl;(first|decide|(apply Nat.le_of_ble_eq_true;rfl)))|(apply fg;(apply tyT;rfl);rfl;rfl;assumption;(apply mz <;> simp);rfl;rfl;(first|decide|(apply Nat.le_of_ble_eq_true;rfl)))))|(exfalso;omega))
  all_goals first|rfl|contradiction|(exfalso;omega)
end Go.Proofs.YtinffhimfoicdaaGreat
namespace Go.Proofs.YtinffhimfoicdaaGreat
open Go Go.RowKit Go.Proofs.YtinffhimfoicdaaGreat.Calc
set_option linter.unusedVariables false
set_option linter.unusedSimpArgs false
set_option maxRecDepth 100000
set_option maxHeartbeats 8000000
attribute [local irreducible] Tri ew er ci bn db d7 inQ jb jhl
abbrev vNo:BV:=.d (.flat (.pointer none))
theorem q28 (x y:Operand):(gb Tryz.prog (do eqGuard .eql 28 x y (.pointer none) (.pointer none);binOp .eql 28 (.pointer none) (.pointer none))).bind d6 = some (vB true):=by kernel_rfl
theorem jzt (x y:Operand):(gb Tryz.prog (do eqGuard .eql 39 x y (.agg #[.int .i64 4,.int .i32 1,.string ⟨#[]⟩]) (.agg #[.int .i64 4,.int .i32 1,.string ⟨#[]⟩]);binOp .eql 39 (.agg #[.int .i64 4,.int .i32 1,.string ⟨#[]⟩]) (.agg #[.int .i64 4,.int .i32 1,.string ⟨#[]⟩]))).bind d6 = some (vB true):=by kernel_rfl
theorem jzu (x y:Operand):(gb Tryz.prog (do eqGuard .eql 39 x y (.agg #[.int .i64 1,.int .i32 0,.string ⟨#[]⟩]) (.agg #[.int .i64 1,.int .i32 0,.string ⟨#[]⟩]);binOp .eql 39 (.agg #[.int .i64 1,.int .i32 0,.string ⟨#[]⟩]) (.agg #[.int .i64 1,.int .i32 0,.string ⟨#[]⟩]))).bind d6 = some (vB true):=by kernel_rfl
theorem jzv (x y:Operand):(gb Tryz.prog (do eqGuard .eql 39 x y (.agg #[.int .i64 4,.int .i32 0,.string ⟨#[]⟩]) (.agg #[.int .i64 4,.int .i32 0,.string ⟨#[]⟩]);binOp .eql 39 (.agg #[.int .i64 4,.int .i32 0,.string ⟨#[]⟩]) (.agg #[.int .i64 4,.int .i32 0,.string ⟨#[]⟩]))).bind d6 = some (vB true):=by kernel_rfl
theorem jzw:jmn Tryz.prog 39 1 = some (21,1):=by kernel_rfl
theorem jwl {P:Program} {st:St} {ρ:Rg} {x y:Operand} {t ty:Nat} {k:IntKind} {a:Int} (hx:fl ρ x = some (.int k a)) (hy:fl ρ y = some (.int k a)):bn P st ρ (.binOp .eql t x y ty) = some (vB true):=by
  rw [dq hx hy,decide_eq_true rfl]
theorem jsp {P:Program} {st:St} {ρ:Rg} {x y:Operand} {t ty:Nat} {a:ByteArray} (hx:fl ρ x = some (.string a)) (hy:fl ρ y = some (.string a)):bn P st ρ (.binOp .eql t x y ty) = some (vB true):=by
  rw [du hx hy,decide_eq_true rfl]
theorem q4 (a b:Bool) (x y:Operand):(gb Tryz.prog (do eqGuard .eql 4 x y (.bool a) (.bool b);binOp .eql 4 (.bool a) (.bool b))).bind d6 = some (vB (decide (a = b))):=by
  cases a <;> cases b <;> kernel_rfl
theorem jwm:PC 19 [vNo] (fun r=>r = vI 0):=by
  intro S T M
  refine am [] [] Tryz.func19 rfl Tryz.ntmps19 Tryz.results19 ?_
  repeat' (first|apply ab|(apply V;rfl;(first|(apply bl;rfl)|(apply bg;rfl)))|(apply VR;rfl;apply jek;rfl;rfl;rfl;exact q28 _ _)|(apply ac;rfl)|apply ak|apply ai|(apply ae;rfl)|(apply bf _ (.inr rfl);(exact List.prefix_append _ _);(focus repeat (first|apply a8|(apply a9;rfl)));rfl)|apply aw)
  rfl
theorem jwn (c:ByteArray):PC 11 [vNo,vS c] (fun r=>r = .tup [vVl vl0,vB false]):=by
  intro S T M
  refine am [] [] Tryz.func11 rfl Tryz.ntmps11 Tryz.results11 ?_
  repeat' (first|apply ab|(apply V;rfl;(first|(apply bl;rfl)|(apply bg;rfl)|(apply ca;rfl;rfl)|(apply ed;(apply plT;rfl);rfl)))|(apply VR;rfl;apply jek;rfl;rfl;rfl;exact q28 _ _)|(apply Vo;rfl)|(apply Vw;rfl;(apply cd;rfl;(apply tyT;rfl)))|(apply Vs;rfl;(apply bw;rfl;(apply tyT;rfl);rfl;rfl;rfl;(first|apply bc|(apply bh;omega));rfl;rfl;(first|decide|(apply Nat.le_of_ble_eq_true;rfl))))|(apply ac;rfl)|apply ak|apply ai|(apply ae;rfl)|(apply bf _ (.inr rfl);(exact List.prefix_append _ _);(focus repeat (first|apply a8|(apply a9;rfl)|(apply cp;rfl;rfl;apply tyT;rfl;rfl;rfl)));rfl)|apply aw)
  rfl
theorem jb2 {α:Type} {A B C:List α} (h:A <+: B):A <+: B ++ C:=h.trans (List.prefix_append _ _)
theorem jg8 {α:Type} {A B:List α} (h:A <+: B) {i:Nat} {x:α} (hi:A.length ≤ i):A <+: B.set i x:=by
  obtain ⟨X,hX⟩:=h
  subst hX
  rw [List.set_append_right _ _ hi]
  exact List.prefix_append _ _
structure Hp (nb:Nat) (T0:List Nat) (M0:List (List (Value × DV))) (id sid tg:Nat) (l:List (ByteArray × Nat)) (ts:Tbl) (tb:Nat → Tbl) (S:List (List BV × Nat)) (T:List Nat) (M:List (List (Value × DV))):Prop where
  ge:nb ≤ id
  box:T0.length ≤ tg ∧ S[id]? = some ([.d (cy df P0),.own 79 2 tg (l.flatMap gx) l.length,.d (.map sid)],73) ∧ T[tg]? = some (l.flatMap gx).length
  pre:T0 <+: T
  preM:M0 <+: M
  sge:M0.length ≤ sid
  st:M[sid]? = some (jd ts)
  ok:OKM ts
  ob:∀(i:Nat) (o:ByteArray × Nat),l[i]? = some o → o.1 = cB ∧ sid < o.2 ∧ M[o.2]? = some (jd (tb i)) ∧ OKM (tb i)
  dist:∀(i j:Nat) (o o':ByteArray × Nat),l[i]? = some o → l[j]? = some o' → o.2 = o'.2 → i = j
  len:l.length ≤ 200
section
variable {nb id sid tg:Nat} {T0:List Nat} {M0:List (List (Value × DV))} {l:List (ByteArray × Nat)} {ts:Tbl} {tb:Nat → Tbl} {S:List (List BV × Nat)} {T:List Nat} {M:List (List (Value × DV))}
theorem Hp.more (h:Hp nb T0 M0 id sid tg l ts tb S T M) (L:List (List BV × Nat)) (X:List Nat):Hp nb T0 M0 id sid tg l ts tb (S ++ L) (T ++ X) M:=by
  obtain ⟨h1,h2,h3⟩:=h.box
  exact { h with
    box:=⟨h1,aa h2,by rw [List.getElem?_append_left (List.getElem?_eq_some_iff.1 h3).1];exact h3⟩
    pre:=av h.pre }
theorem Hp.moreM (h:Hp nb T0 M0 id sid tg l ts tb S T M) (N:List (List (Value × DV))):Hp nb T0 M0 id sid tg l ts tb S T (M ++ N):=by
  have q:∀ {i:Nat} {x:List (Value × DV)},M[i]? = some x →(M ++ N)[i]? = some x:=fun hx=>by
    rw [List.getElem?_append_left (List.getElem?_eq_some_iff.1 hx).1]
    exact hx
  exact { h with
    preM:=jb2 h.preM
    st:=q h.st
    ob:=fun i o ho=>⟨(h.ob i o ho).1,(h.ob i o ho).2.1,q (h.ob i o ho).2.2.1,(h.ob i o ho).2.2.2⟩ }
theorem jsq:OKM tS:=by
  refine ⟨by decide +kernel,fun p hp=>?_⟩
  simp only [tS,List.mem_cons,List.not_mem_nil,or_false] at hp
  rcases hp with rfl|rfl
  · exact m6 (c:=cA) (k:=1) (by decide) (by decide)
  · exact m6 (c:=cT) (k:=0) (by decide) (by decide)
theorem jsr:OKM tB:=by
  refine ⟨by decide +kernel,fun p hp=>?_⟩
  simp only [tB,List.mem_cons,List.not_mem_nil,or_false] at hp
  rcases hp with rfl|rfl|rfl|rfl|rfl|rfl
  · exact m6 (c:=cB) (k:=0) (by decide) (by decide)
  · exact m6 (c:=cB) (k:=1) (by decide) (by decide)
  · exact m6 (c:=cB) (k:=2) (by decide) (by decide)
  · exact m6 (c:=cA) (k:=0) (by decide) (by decide)
  · exact m6 (c:=cA) (k:=2) (by decide) (by decide)
  · exact m6 (c:=cA) (k:=3) (by decide) (by decide)
theorem jwo (nb:Nat) (T0:List Nat) (M0:List (List (Value × DV))) (S:List (List BV × Nat)) (T:List Nat) (M:List (List (Value × DV))) (h1:nb ≤ S.length) (h2:T0 <+: T) (h3:M0 <+: M) :
    ci Tryz.prog [] [] 8 [vP P0] ⟨S,T,M⟩ (fun r s=>∃ S1 T1 M1 id sid tg,r = .ptr id 0 ∧ s = ⟨S1 ++ [],T1 ++ [],M1⟩ ∧ nb ≤ S1.length ∧ Hp nb T0 M0 id sid tg [] tS (fun _=>tB) S1 T1 M1):=by
  refine rt 79 2 (dz (jf8 P0 jg7 jmg jmh S T M) fun r s ⟨hr,hs⟩=>?_)
  subst hr hs
  have e1:(S ++ [([BV.d (cy df P0)],26),([.d (cy df P0),.tight [] 0,.d (.map M.length)],73)])[S.length + 1]? = some ([.d (cy df P0),.tight [] 0,.d (.map M.length)],73):=at_ rfl rfl
  have hlt:=(List.getElem?_eq_some_iff.1 e1).1
  refine ⟨S.length + 1,_,_,1,e1,rfl,_,_,_,S.length + 1,M.length,T.length,rfl,by simp only [List.append_nil];rfl,?_,?_⟩
  · simp only [List.length_set,List.length_append];omega
  · refine ⟨by omega,⟨h2.length_le,by rw [List.getElem?_set_self hlt];rfl,by simp⟩,av h2,jb2 h3,h3.length_le,?_,jsq,nofun,nofun,by simp⟩
    rw [jp0]
    simp
theorem jss (h:Hp nb T0 M0 id sid tg l ts tb S T M) (hl:l.length < 200) (hS:nb ≤ S.length):ci Tryz.prog [id] [] 11 [.ptr id 0,vS cB] ⟨S,T,M⟩ (fun r s=>r = .tup [vVl ⟨4,(l.length:Int) + 1,⟨#[]⟩⟩,vB true] ∧
    ∃ S1 T1 M1 o,s = ⟨S1 ++ [],T1 ++ [],M1⟩ ∧ S1.length = S.length ∧(∀ t,t ≠ tg → T1[t]? = T[t]?) ∧ T1.length = T.length ∧ Hp nb T0 M0 id sid tg (l ++ [o]) ts (fun j=>if j = l.length then tB else tb j) S1 T1 M1):=by
  obtain ⟨h1,h2,h3⟩:=h.box
  refine dz (jcv P0 jg7 tg sid l cB hl jzr (fun c hc=>?_) S T M id h2 h3) fun r s ⟨hr,hs⟩=>⟨hr,?_⟩
  · rw [jso] at hc
    simp only [List.mem_cons,List.not_mem_nil,or_false] at hc
    rcases hc with rfl|rfl <;> decide
  · rw [jso,jp1] at hs
    have htl:=(List.getElem?_eq_some_iff.1 h3).1
    have hil:=(List.getElem?_eq_some_iff.1 h2).1
    have hsl:=(List.getElem?_eq_some_iff.1 h.st).1
    have q:∀ {i:Nat} {x:List (Value × DV)},M[i]? = some x →(M ++ [jd tB])[i]? = some x:=fun hx=>by
      rw [List.getElem?_append_left (List.getElem?_eq_some_iff.1 hx).1]
      exact hx
    refine ⟨_,_,_,(cB,M.length),by rw [hs,List.append_nil,List.append_nil],by simp,fun t ht=>by rw [List.getElem?_set_ne (fun e=>ht e.symm)],by simp,h.ge,⟨h1,List.getElem?_set_self hil,List.getElem?_set_self htl⟩,?_,jb2 h.preM,h.sge,q h.st,h.ok,?_,?_,by simp only [List.length_append,List.length_cons,List.length_nil];omega⟩
    · obtain ⟨X,hX⟩:=h.pre
      subst hX
      rw [List.set_append_right _ _ h1]
      exact List.prefix_append _ _
    · intro i o ho
      by_cases hi:i < l.length
      · rw [List.getElem?_append_left hi] at ho
        obtain ⟨a,b,c,d⟩:=h.ob i o ho
        have e:(if i = l.length then tB else tb i) = tb i:=if_neg (by omega)
        try dsimp only
        rw [e]
        exact ⟨a,b,q c,d⟩
      · have hi':=(List.getElem?_eq_some_iff.1 ho).1
        simp only [List.length_append,List.length_cons,List.length_nil] at hi'
        obtain rfl:i = l.length:=by omega
        have:o =(cB,M.length):=by simpa using ho.symm
        subst this
        dsimp only
        rw [if_pos rfl]
        exact ⟨rfl,hsl,by simp,jsr⟩
    · intro i j o o' ho ho' e
      have key:∀ {i j:Nat} {o o':ByteArray × Nat},(l ++ [(cB,M.length)])[i]? = some o →(l ++ [(cB,M.length)])[j]? = some o' → o.2 = o'.2 → i < l.length → i = j:=fun {i j o o'} ho ho' e hi=>by
        rw [List.getElem?_append_left hi] at ho
        have hlt:=(List.getElem?_eq_some_iff.1 (h.ob i o ho).2.2.1).1
        by_cases hj:j < l.length
        · rw [List.getElem?_append_left hj] at ho'
          exact h.dist i j o o' ho ho' e
        · have hj':=(List.getElem?_eq_some_iff.1 ho').1
          simp only [List.length_append,List.length_cons,List.length_nil] at hj'
          obtain rfl:j = l.length:=by omega
          have:o' =(cB,M.length):=by simpa using ho'.symm
          subst this
          dsimp only at e
          omega
      by_cases hi:i < l.length
      · exact key ho ho' e hi
      · by_cases hj:j < l.length
        · exact (key ho' ho e.symm hj).symm
        · have hi':=(List.getElem?_eq_some_iff.1 ho).1
          have hj':=(List.getElem?_eq_some_iff.1 ho').1
          simp only [List.length_append,List.length_cons,List.length_nil] at hi' hj'
          omega
section
variable (L:List (List BV × Nat)) (X:List Nat)
theorem jp2 (h:Hp nb T0 M0 id sid tg l ts tb S T M) (c:ByteArray) (hc:l.length = 200 ∨ isC P0 c = false):ci Tryz.prog [] [] 11 [.ptr id 0,vS c] ⟨S ++ L,T ++ X,M⟩ (fun r s=>s = ⟨S ++ L,T ++ X,M⟩ ∧ r = .tup [vVl vl0,vB false]):=by
  obtain ⟨h1,h2,h3⟩:=h.box
  exact jga P0 (by decide) tg sid l c (by have:=h.len;omega) hc _ _ M id (aa h2)
theorem jwp (h:Hp nb T0 M0 id sid tg l ts tb S T M):ci Tryz.prog [] [] 19 [.ptr id 0] ⟨S ++ L,T ++ X,M⟩ (fun r s=>s = ⟨S ++ L,T ++ X,M⟩ ∧ r = vI l.length):=by
  obtain ⟨h1,h2,h3⟩:=h.box
  exact jw4 P0 tg sid l _ _ M id (aa h2)
theorem jko (h:Hp nb T0 M0 id sid tg l ts tb S T M) (v:Vl) (hv:okV v):ci Tryz.prog [] [] 17 [.ptr id 0,vVl v] ⟨S ++ L,T ++ X,M⟩ (fun r s=>s = ⟨S ++ L,T ++ X,M⟩ ∧ r = vS (jp7 l v)):=by
  obtain ⟨h1,h2,h3⟩:=h.box
  exact jw6 P0 tg sid l v hv (by have:=h.len;omega) _ _ M id (aa h2)
end
def obV (i:Nat):Vl:=⟨4,(i:Int) + 1,⟨#[]⟩⟩
theorem jmi {o:ByteArray × Nat} {i:Nat} (ho:l[i]? = some o):jhn l (obV i) = some o ∧ zw sid l (obV i) = some o.2:=by
  have e:jhn l (obV i) = some o:=by
    unfold jhn obV
    rw [if_pos rfl]
    dsimp only
    rw [if_neg (by omega),show ((i:Int) + 1 - 1).toNat = i by omega]
    exact ho
  refine ⟨e,?_⟩
  unfold zw
  rw [if_neg (by simp [obV]),e]
  rfl
theorem jg9 {i:Nat} (hi:i < 1000):okV (obV i):=by
  unfold okV obV
  dsimp only
  omega
theorem Hp.set (h:Hp nb T0 M0 id sid tg l ts tb S T M) {i:Nat} {o:ByteArray × Nat} (ho:l[i]? = some o) {k:Tg} (hk:okT k) (w:Vl):Hp nb T0 M0 id sid tg l ts (fun j=>if j = i then pk (tb i) k w else tb j) S T (M.set o.2 (jd (pk (tb i) k w))):=by
  obtain ⟨a,b,c,d⟩:=h.ob i _ ho
  exact { h with
    preM:=jg8 h.preM (by have:=h.sge;omega)
    st:=by
      rw [List.getElem?_set_ne (by omega)]
      exact h.st
    ob:=by
      intro j o' hj
      obtain ⟨a',b',c',d'⟩:=h.ob j o' hj
      by_cases e:j = i
      · subst e
        obtain rfl:=Option.some.inj (ho.symm.trans hj)
        try dsimp only
        rw [if_pos rfl]
        exact ⟨a',b',List.getElem?_set_self (List.getElem?_eq_some_iff.1 c).1,d'.put hk _⟩
      · try dsimp only
        rw [if_neg e]
        refine ⟨a',b',?_,d'⟩
        rw [List.getElem?_set_ne (fun e2=>e (h.dist j i o' _ hj ho e2.symm))]
        exact c' }
theorem Hp.setS (h:Hp nb T0 M0 id sid tg l ts tb S T M) {k:Tg} (hk:okT k) (w:Vl):Hp nb T0 M0 id sid tg l (pk ts k w) tb S T (M.set sid (jd (pk ts k w))) :=
  { h with
    preM:=jg8 h.preM h.sge
    st:=List.getElem?_set_self (List.getElem?_eq_some_iff.1 h.st).1
    ok:=h.ok.put hk _
    ob:=by
      intro j o hj
      obtain ⟨a',b',c',d'⟩:=h.ob j o hj
      refine ⟨a',b',?_,d'⟩
      rw [List.getElem?_set_ne (by omega)]
      exact c' }
section
variable (L:List (List BV × Nat)) (X:List Nat)
theorem jmj (h:Hp nb T0 M0 id sid tg l ts tb S T M) (i:Nat) (hi:i < l.length):ci Tryz.prog [] [] 17 [.ptr id 0,vVl (obV i)] ⟨S ++ L,T ++ X,M⟩ (fun r s=>s = ⟨S ++ L,T ++ X,M⟩ ∧ r = vS cB):=by
  have hl:=h.len
  have ho:l[i]? = some l[i]:=List.getElem?_eq_getElem hi
  have e:=jko L X h (obV i) (jg9 (by omega))
  unfold jp7 at e
  rw [(jmi (sid:=sid) ho).1] at e
  dsimp only at e
  rw [(h.ob i _ ho).1] at e
  exact e
theorem jmk (h:Hp nb T0 M0 id sid tg l ts tb S T M):ci Tryz.prog [] [] 17 [.ptr id 0,vVl ⟨4,0,⟨#[]⟩⟩] ⟨S ++ L,T ++ X,M⟩ (fun r s=>s = ⟨S ++ L,T ++ X,M⟩ ∧ r = vS ⟨#[]⟩) :=
  jko L X h ⟨4,0,⟨#[]⟩⟩ (by unfold okV;decide)
theorem jst (h:Hp nb T0 M0 id sid tg l ts tb S T M) (i:Nat) (hi:i < l.length) (k:Tg) (hk:okT k) (x:Vl) (hx:(mc (tb i) k).getD vl0 = x):ci Tryz.prog [] [] 15 [.ptr id 0,vVl (obV i),vTg k] ⟨S ++ L,T ++ X,M⟩ (fun r s=>s = ⟨S ++ L,T ++ X,M⟩ ∧ r = vVl x):=by
  subst hx
  have hl:=h.len
  obtain ⟨h1,h2,h3⟩:=h.box
  have ho:l[i]? = some l[i]:=List.getElem?_eq_getElem hi
  obtain ⟨a,b,c,d⟩:=h.ob i _ ho
  exact js3 P0 tg sid l (obV i) (jg9 (by omega)) (by omega) k hk _ (jmi ho).2 (tb i) d _ _ M id (aa h2) c
theorem jwq (h:Hp nb T0 M0 id sid tg l ts tb S T M) (k:Tg) (hk:okT k) (x:Vl) (hx:(mc ts k).getD vl0 = x):ci Tryz.prog [] [] 15 [.ptr id 0,vVl vl0,vTg k] ⟨S ++ L,T ++ X,M⟩ (fun r s=>s = ⟨S ++ L,T ++ X,M⟩ ∧ r = vVl x):=by
  subst hx
  have hl:=h.len
  obtain ⟨h1,h2,h3⟩:=h.box
  exact js3 P0 tg sid l vl0 (by unfold okV vl0;decide) (by omega) k hk sid rfl ts h.ok _ _ M id (aa h2) h.st
theorem jwr (h:Hp nb T0 M0 id sid tg l ts tb S T M) (i:Nat) (hi:i < l.length) (k:Tg) (hk:okT k) (w:Vl) (hg:(mc (tb i) k).isSome = true):∃ m,M0.length ≤ m ∧ ci Tryz.prog [] [m] 13 [.ptr id 0,vVl (obV i),vTg k,vVl w] ⟨S ++ L,T ++ X,M⟩ (fun r s=>r = vB true ∧
    ∃ M1,s = ⟨S ++ L,T ++ X,M1⟩ ∧ Hp nb T0 M0 id sid tg l ts (fun j=>if j = i then pk (tb i) k w else tb j) S T M1):=by
  have hl:=h.len
  obtain ⟨h1,h2,h3⟩:=h.box
  have ho:l[i]? = some l[i]:=List.getElem?_eq_getElem hi
  obtain ⟨a,b,c,d⟩:=h.ob i _ ho
  refine ⟨l[i].2,by have:=h.sge;omega,dz (jqz P0 tg sid l (obV i) (jg9 (by omega)) (by omega) k hk w _ (jmi ho).2 (tb i) d _ _ M id (aa h2) c) fun r s ⟨hr,hs⟩=>?_⟩
  rw [if_pos hg] at hs
  exact ⟨by rw [hr,hg],_,hs,h.set ho hk w⟩
theorem jsu (h:Hp nb T0 M0 id sid tg l ts tb S T M) (i:Nat) (hi:i < l.length) (k:Tg) (hk:okT k) (w:Vl) (hg:(mc (tb i) k).isSome = false):∃ m,M0.length ≤ m ∧ ci Tryz.prog [] [m] 13 [.ptr id 0,vVl (obV i),vTg k,vVl w] ⟨S ++ L,T ++ X,M⟩ (fun r s=>r = vB false ∧ s = ⟨S ++ L,T ++ X,M⟩):=by
  have hl:=h.len
  obtain ⟨h1,h2,h3⟩:=h.box
  have ho:l[i]? = some l[i]:=List.getElem?_eq_getElem hi
  obtain ⟨a,b,c,d⟩:=h.ob i _ ho
  refine ⟨l[i].2,by have:=h.sge;omega,dz (jqz P0 tg sid l (obV i) (jg9 (by omega)) (by omega) k hk w _ (jmi ho).2 (tb i) d _ _ M id (aa h2) c) fun r s ⟨hr,hs⟩=>?_⟩
  rw [hg] at hr hs
  exact ⟨hr,hs⟩
theorem jws (h:Hp nb T0 M0 id sid tg l ts tb S T M) (k:Tg) (hk:okT k) (w:Vl) (hg:(mc ts k).isSome = true):∃ m,M0.length ≤ m ∧ ci Tryz.prog [] [m] 13 [.ptr id 0,vVl vl0,vTg k,vVl w] ⟨S ++ L,T ++ X,M⟩ (fun r s=>r = vB true ∧
    ∃ M1,s = ⟨S ++ L,T ++ X,M1⟩ ∧ Hp nb T0 M0 id sid tg l (pk ts k w) tb S T M1):=by
  have hl:=h.len
  obtain ⟨h1,h2,h3⟩:=h.box
  refine ⟨sid,h.sge,dz (jqz P0 tg sid l vl0 (by unfold okV vl0;decide) (by omega) k hk w sid rfl ts h.ok _ _ M id (aa h2) h.st) fun r s ⟨hr,hs⟩=>?_⟩
  rw [if_pos hg] at hs
  exact ⟨by rw [hr,hg],_,hs,h.setS hk w⟩
end
end
end Go.Proofs.YtinffhimfoicdaaGreat
namespace Go.Proofs.YtinffhimfoicdaaGreat
open Go Go.RowKit Go.Proofs.YtinffhimfoicdaaGreat.Calc
set_option linter.unusedVariables false
set_option linter.unusedSimpArgs false
set_option maxRecDepth 100000
set_option maxHeartbeats 8000000
attribute [local irreducible] Tri ew er ci bn db d7 inQ jb jhl P0
abbrev kT (c:ByteArray) (n:Nat):Tg:=⟨c,(n:Int)⟩
theorem okA (n:Nat) (h:n ≤ 1000):okT (kT cA n):=m6 (by decide) (by omega)
theorem okB (n:Nat) (h:n ≤ 1000):okT (kT cB n):=m6 (by decide) (by omega)
theorem jwt (S:List (List BV × Nat)) (T:List Nat) (M:List (List (Value × DV))):ci Tryz.prog [] [] 10 [] ⟨S,T,M⟩ (fun r s=>r = vB true ∧ ∃ N,s = ⟨S,T,M ++ N⟩):=by
  have h7:=cl7
  have h19:=jwm
  have h11:=jwn cA
  have h20:=js1 cA
  refine am [] [] Tryz.func10 rfl Tryz.ntmps10 Tryz.results10 ?_
  repeat' (first|apply ab|(apply V;rfl;(first|(apply jwl;rfl;rfl)|(apply jsp;rfl;rfl)|(apply bl;rfl)|(apply bg;rfl)|(apply bj;(apply tyT;rfl);rfl;(apply at_;rfl;rfl);rfl)|(apply ca;rfl;rfl)|(apply eu;rfl;rfl)|(apply cg;rfl)|(apply ed;(apply plT;rfl);rfl)|(apply jf6;exact qj;rfl)|(apply jod;rfl;exact jzw;apply tyT;rfl;rfl)))|(apply Vp;rfl;rfl;apply fnT;rfl;apply ea;rfl;apply h7;rintro _ rfl)|(apply VR;rfl;apply joc;rfl;rfl;apply elT;rfl)|(apply Vc;rfl;rfl;apply fnT;rfl;exact jwo S.length T M _ _ _ (by simp only [List.length_append];omega) (List.prefix_append _ _) (List.prefix_refl _);(intro i_ hi_;cases hi_);(intro i_ hi_;cases hi_);rintro _ _ ⟨S1,T1,M1,id,sid,tg,rfl,rfl,hS1,hp⟩)|(apply Vc;rfl;rfl;apply fnT;rfl;exact jss (hp.more [] []) (by decide) (by simpa using hS1);(intro i_ hi_ _;obtain rfl:=List.mem_singleton.1 hi_;exact bh (k:=0) hp.ge);(intro i_ hi_;cases hi_);rintro _ _ ⟨rfl,S2,T2,M2,o,rfl,hS2,hTt,hTl,hp⟩;(have hS1:S.length ≤ S2.length:=(by rw [hS2];simpa using hS1)))|(apply Vp;rfl;rfl;apply fnT;rfl;apply h11;rintro _ rfl)|(apply Vp;rfl;rfl;apply fnT;rfl;apply jp2 _ _ hp cQ (.inr jzs);rintro _ rfl)|(apply VcM;rfl;rfl;apply fnT;rfl;exact jwr _ _ hp 0 (by simp) (kT cA 0) (okA 0 (by decide)) ⟨1,3,⟨#[]⟩⟩ (by decide +kernel);rintro _ _ ⟨rfl,M3,rfl,hp⟩)|(apply VcM;rfl;rfl;apply fnT;rfl;exact jsu _ _ hp 0 (by simp) (kT cA 1) (okA 1 (by decide)) vl0 (by decide +kernel);rintro _ _ ⟨rfl,rfl⟩)|(apply VcM;rfl;rfl;apply fnT;rfl;exact jws _ _ hp (kT cA 1) (okA 1 (by decide)) ⟨1,8,⟨#[]⟩⟩ (by decide +kernel);rintro _ _ ⟨rfl,M4,rfl,hp⟩)|(apply VR;rfl;apply jek;rfl;rfl;rfl;(first|exact jzt _ _|exact jzu _ _|exact jzv _ _))|(apply Vp;rfl;rfl;apply fnT;rfl;apply jst _ _ hp 0 (by simp) (kT cA 0) (okA 0 (by decide)) ⟨1,3,⟨#[]⟩⟩ (by decide +kernel);rintro _ rfl)|(apply Vp;rfl;rfl;apply fnT;rfl;apply jst _ _ hp 0 (by simp) (kT cB 0) (okB 0 (by decide)) ⟨1,0,⟨#[]⟩⟩ (by decide +kernel);rintro _ rfl)|(apply Vp;rfl;rfl;apply fnT;rfl;apply jwq _ _ hp (kT cA 1) (okA 1 (by decide)) ⟨1,8,⟨#[]⟩⟩ (by decide +kernel);rintro _ rfl)|(apply Vp;rfl;rfl;apply fnT;rfl;apply jmj _ _ hp 0 (by simp);rintro _ rfl)|(apply Vp;rfl;rfl;apply fnT;rfl;apply jmk _ _ hp;rintro _ rfl)|(apply Vp;rfl;rfl;apply fnT;rfl;apply jwp _ _ hp;rintro _ rfl)|(apply Vp;rfl;rfl;apply fnT;rfl;apply h20;rintro _ rfl)|(apply Vp;rfl;rfl;apply fnT;rfl;apply h19;rintro _ rfl)|(apply Vw;rfl;(first|(apply cd;rfl;(apply tyT;rfl))|(apply d8;rfl;(apply elT;rfl);(apply tyT;rfl);rfl;decide;rfl;rfl)))|(apply Vs;rfl;(apply bw;rfl;(apply tyT;rfl);rfl;rfl;rfl;(first|apply bc|(apply bh;omega));rfl;rfl;(first|decide|(apply Nat.le_of_ble_eq_true;rfl))))|(apply ac;rfl)|apply ak|apply ah|apply ai|(apply af;rfl)|apply ap)
  obtain ⟨N,hN⟩:=hp.preM
  exact zc _ (.inr rfl) (av hp.pre) (a9 rfl a8) rfl ⟨rfl,N,by rw [hN]⟩
end Go.Proofs.YtinffhimfoicdaaGreat
