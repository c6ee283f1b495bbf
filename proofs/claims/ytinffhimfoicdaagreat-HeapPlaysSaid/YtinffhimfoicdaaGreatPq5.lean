/- Texts of the claim, merged: MB, MC, MD, ME, MF, HU, MG, MI. No conditions. -/
import Derived.Test.YtinffhimfoicdaaGreatPq4
import Derived.DeepKeys3
import Derived.KernelRfl
import Derived.Test.YtinffhimfoicdaaGreatPq3
namespace Go.Proofs.YtinffhimfoicdaaGreat
open Go Go.RowKit Go.Proofs.YtinffhimfoicdaaGreat.Calc
set_option linter.unusedVariables false
set_option linter.unusedSimpArgs false
set_option maxRecDepth 100000
set_option maxHeartbeats 8000000
attribute [local irreducible] Tri ew er ci bn db d7 inQ jb jhl
def jd0 (m n:Nat):DV:=if n = 0 then .sl [] 0 else .row m n
abbrev ObR:=ByteArray × List Tg × Nat
def rv (o:ObR):List DV:=[.flat (.string o.1),cy mn o.2.1,jd0 o.2.2 o.2.1.length]
theorem kb (o:ObR):(rv o).length = 3:=rfl
def qm (r:Nat × Nat):List DV:=[jd0 r.1 r.2]
theorem td (r:Nat × Nat):(qm r).length = 1:=rfl
abbrev rhB (p:List Cl) (tg:Nat) (lo:List ObR) (ss:List (Nat × Nat)):List BV × Nat:=([.d (cy df p),.own 84 3 tg (lo.flatMap rv) lo.length,.d (cy qm ss)],54)
abbrev RHC (p:List Cl) (tg:Nat) (lo:List ObR) (ss:List (Nat × Nat)) (f:Nat) (args:Nat → List BV) (R:BV → Prop):Prop:=∀ S T M id,S[id]? = some (rhB p tg lo ss) → ci Tryz.prog [] [] f (args id) ⟨S,T,M⟩ (fun r s=>s = ⟨S,T,M⟩ ∧ R r)
def obR {α:Type} (l:List α) (v:Vl):Option α:=if v.kind = 4 then (if v.n < 1 then none else l[(v.n - 1).toNat]?) else none
section
variable (p:List Cl) (tg:Nat) (lo:List ObR) (ss:List (Nat × Nat))
theorem jw9 (v:Vl) (hv:okV v) (hl:lo.length ≤ 1000):RHC p tg lo ss 38 (fun id=>[.ptr id 0,vVl v]) (fun r=>r = vB (obR lo v).isSome):=by
  obtain ⟨k,n,s⟩:=v
  unfold okV at hv
  dsimp only at hv
  intro S T M id hid
  dsimp only [vVl]
  refine am [] [] Tryz.func38 rfl Tryz.ntmps38 Tryz.results38 ?_
  unfold obR
  dsimp only
  by_cases h1:k = 4
  case neg =>
    rw [if_neg h1]
    repeat' (first|apply ab|(apply V;rfl;(first|(apply kn;rfl;apply udT;rfl;apply udT;rfl;omega)|(apply bl;rfl)|(apply bg;rfl)|(apply cb;(apply plT;rfl);rfl;rfl;decide)|(apply bz;(apply tyT;rfl);rfl;(first|(apply at_;rfl;rfl)|(apply aa;assumption));rfl)|(apply bq;(apply elT;rfl);rfl;rfl)|(apply ck;rfl)|(apply ca;rfl;rfl)|(apply bu;rfl;rfl)))|(apply bt (nt:=24) (.take 0 (.take 1 (.take 2 (.take 3 (.take 4 (.take 5 (.take 6 (.take 7 (.take 8 (.take 9 (.take 10 (.take 11 (.take 12 (.take 13 (.take 14 (.take 15 (.take 16 (.take 17 (.take 18 (.take 19 .nil)))))))))))))))))))) [] [];exact co;rfl;decide +kernel)|(apply Vw;rfl;(apply cj;rfl;rfl;rfl))|(apply ac;rfl)|apply ai|(apply bf _ (.inr rfl);(exact List.prefix_append _ _);(focus repeat (first|apply a8|(apply a9;rfl)));rfl)|apply dg|(apply tV;rfl;rfl;(first|(apply kn;rfl;apply udT;rfl;apply udT;rfl;omega)|(apply bl;rfl)|(apply bg;rfl)|(apply cb;(apply plT;rfl);rfl;rfl;decide)|(apply bz;(apply tyT;rfl);rfl;(first|(apply at_;rfl;rfl)|(apply aa;assumption));rfl)|(apply bq;(apply elT;rfl);rfl;rfl)|(apply ck;rfl)|(apply ca;rfl;rfl)|(apply bu;rfl;rfl));rfl)|(apply tVd;rfl;rfl;(first|(apply mj;rfl;rfl)|(apply ep;rfl;rfl)|(apply dq;rfl;rfl));rfl;all_goals intro h_)|(apply tVo;rfl;rfl))
    all_goals first|rfl|(exfalso;omega)
  rw [if_pos h1]
  by_cases h2:n < 1
  · rw [if_pos h2]
    repeat' (first|apply ab|(apply V;rfl;(first|(apply kn;rfl;apply udT;rfl;apply udT;rfl;omega)|(apply bl;rfl)|(apply bg;rfl)|(apply cb;(apply plT;rfl);rfl;rfl;decide)|(apply bz;(apply tyT;rfl);rfl;(first|(apply at_;rfl;rfl)|(apply aa;assumption));rfl)|(apply bq;(apply elT;rfl);rfl;rfl)|(apply ck;rfl)|(apply ca;rfl;rfl)|(apply bu;rfl;rfl)))|(apply bt (nt:=24) (.take 0 (.take 1 (.take 2 (.take 3 (.take 4 (.take 5 (.take 6 (.take 7 (.take 8 (.take 9 (.take 10 (.take 11 (.take 12 (.take 13 (.take 14 (.take 15 (.take 16 (.take 17 (.take 18 (.take 19 .nil)))))))))))))))))))) [] [];exact co;rfl;decide +kernel)|(apply Vw;rfl;(apply cj;rfl;rfl;rfl))|(apply ac;rfl)|apply ai|(apply bf _ (.inr rfl);(exact List.prefix_append _ _);(focus repeat (first|apply a8|(apply a9;rfl)));rfl)|apply dg|(apply tV;rfl;rfl;(first|(apply kn;rfl;apply udT;rfl;apply udT;rfl;omega)|(apply bl;rfl)|(apply bg;rfl)|(apply cb;(apply plT;rfl);rfl;rfl;decide)|(apply bz;(apply tyT;rfl);rfl;(first|(apply at_;rfl;rfl)|(apply aa;assumption));rfl)|(apply bq;(apply elT;rfl);rfl;rfl)|(apply ck;rfl)|(apply ca;rfl;rfl)|(apply bu;rfl;rfl));rfl)|(apply tVd;rfl;rfl;(first|(apply mj;rfl;rfl)|(apply ep;rfl;rfl)|(apply dq;rfl;rfl));rfl;all_goals intro h_)|(apply tVo;rfl;rfl))
    all_goals first|rfl|(exfalso;omega)
  rw [if_neg h2]
  by_cases h3:n ≤ lo.length
  · rw [List.getElem?_eq_getElem (by omega)]
    repeat' (first|apply ab|(apply V;rfl;(first|(apply kn;rfl;apply udT;rfl;apply udT;rfl;omega)|(apply bl;rfl)|(apply bg;rfl)|(apply cb;(apply plT;rfl);rfl;rfl;decide)|(apply bz;(apply tyT;rfl);rfl;(first|(apply at_;rfl;rfl)|(apply aa;assumption));rfl)|(apply bq;(apply elT;rfl);rfl;rfl)|(apply ck;rfl)|(apply ca;rfl;rfl)|(apply bu;rfl;rfl)))|(apply bt (nt:=24) (.take 0 (.take 1 (.take 2 (.take 3 (.take 4 (.take 5 (.take 6 (.take 7 (.take 8 (.take 9 (.take 10 (.take 11 (.take 12 (.take 13 (.take 14 (.take 15 (.take 16 (.take 17 (.take 18 (.take 19 .nil)))))))))))))))))))) [] [];exact co;rfl;decide +kernel)|(apply Vw;rfl;(apply cj;rfl;rfl;rfl))|(apply ac;rfl)|apply ai|(apply bf _ (.inr rfl);(exact List.prefix_append _ _);(focus repeat (first|apply a8|(apply a9;rfl)));rfl)|apply dg|(apply tV;rfl;rfl;(first|(apply kn;rfl;apply udT;rfl;apply udT;rfl;omega)|(apply bl;rfl)|(apply bg;rfl)|(apply cb;(apply plT;rfl);rfl;rfl;decide)|(apply bz;(apply tyT;rfl);rfl;(first|(apply at_;rfl;rfl)|(apply aa;assumption));rfl)|(apply bq;(apply elT;rfl);rfl;rfl)|(apply ck;rfl)|(apply ca;rfl;rfl)|(apply bu;rfl;rfl));rfl)|(apply tVd;rfl;rfl;(first|(apply mj;rfl;rfl)|(apply ep;rfl;rfl)|(apply dq;rfl;rfl));rfl;all_goals intro h_)|(apply tVo;rfl;rfl))
    all_goals first|rfl|(exfalso;omega)
  · rw [List.getElem?_eq_none (by omega)]
    repeat' (first|apply ab|(apply V;rfl;(first|(apply kn;rfl;apply udT;rfl;apply udT;rfl;omega)|(apply bl;rfl)|(apply bg;rfl)|(apply cb;(apply plT;rfl);rfl;rfl;decide)|(apply bz;(apply tyT;rfl);rfl;(first|(apply at_;rfl;rfl)|(apply aa;assumption));rfl)|(apply bq;(apply elT;rfl);rfl;rfl)|(apply ck;rfl)|(apply ca;rfl;rfl)|(apply bu;rfl;rfl)))|(apply bt (nt:=24) (.take 0 (.take 1 (.take 2 (.take 3 (.take 4 (.take 5 (.take 6 (.take 7 (.take 8 (.take 9 (.take 10 (.take 11 (.take 12 (.take 13 (.take 14 (.take 15 (.take 16 (.take 17 (.take 18 (.take 19 .nil)))))))))))))))))))) [] [];exact co;rfl;decide +kernel)|(apply Vw;rfl;(apply cj;rfl;rfl;rfl))|(apply ac;rfl)|apply ai|(apply bf _ (.inr rfl);(exact List.prefix_append _ _);(focus repeat (first|apply a8|(apply a9;rfl)));rfl)|apply dg|(apply tV;rfl;rfl;(first|(apply kn;rfl;apply udT;rfl;apply udT;rfl;omega)|(apply bl;rfl)|(apply bg;rfl)|(apply cb;(apply plT;rfl);rfl;rfl;decide)|(apply bz;(apply tyT;rfl);rfl;(first|(apply at_;rfl;rfl)|(apply aa;assumption));rfl)|(apply bq;(apply elT;rfl);rfl;rfl)|(apply ck;rfl)|(apply ca;rfl;rfl)|(apply bu;rfl;rfl));rfl)|(apply tVd;rfl;rfl;(first|(apply mj;rfl;rfl)|(apply ep;rfl;rfl)|(apply dq;rfl;rfl));rfl;all_goals intro h_)|(apply tVo;rfl;rfl))
    all_goals first|rfl|(exfalso;omega)
theorem qz {α:Type} {l:List α} {v:Vl} {o:α} (h:obR l v = some o):v.kind = 4 ∧ 1 ≤ v.n ∧ v.n ≤ l.length ∧ l[(v.n - 1).toNat]? = some o:=by
  unfold obR at h
  split at h
  · split at h
    · cases h
    · have:=(List.getElem?_eq_some_iff.1 h).1
      exact ⟨by assumption,by omega,by omega,h⟩
  · cases h
def clR (v:Vl):ByteArray:=match obR lo v with
  | some o=>o.1
  | none=>⟨#[]⟩
theorem jyk (v:Vl) (hv:okV v) (hl:lo.length ≤ 1000):RHC p tg lo ss 18 (fun id=>[.ptr id 0,vVl v]) (fun r=>r = vS (clR lo v)):=by
  have h38:=jw9 p tg lo ss v hv hl
  unfold clR
  obtain ⟨k,n,s⟩:=v
  unfold okV at hv
  dsimp only [vVl] at *
  intro S T M id hid
  refine am [] [] Tryz.func18 rfl Tryz.ntmps18 Tryz.results18 ?_
  rcases ho:obR lo ⟨k,n,s⟩ with _|o
  · rw [ho] at h38
    repeat' (first|apply ab|(apply V;rfl;(first|(apply bl;rfl)|(apply bg;rfl)|(apply bj;(apply tyT;rfl);rfl;(apply at_;rfl;rfl);rfl)|(apply cg;rfl)))|(apply Vp;rfl;rfl;apply fnT;rfl;apply h38;(first|(apply aa;assumption)|assumption);rintro _ rfl)|(apply Vw;rfl;(apply cj;rfl;rfl;rfl))|(apply ac;rfl)|apply ak|apply ai|(apply ae;rfl)|(apply bf _ (.inr rfl);(exact List.prefix_append _ _);(focus repeat (first|apply a8|(apply a9;rfl)));rfl)|apply aw)
    all_goals first|rfl|contradiction
  · rw [ho] at h38
    obtain ⟨_,h1,h2,h3⟩:=qz ho
    dsimp only at h1 h2 h3
    repeat' (first|apply ab|(apply V;rfl;(first|(apply ni;rfl;rfl;rfl;omega)|(apply bl;rfl)|(apply bg;rfl)|(apply cb;(apply plT;rfl);rfl;rfl;decide)|(apply fz;(apply plT;rfl);rfl;rfl;decide)|(apply bj;(apply tyT;rfl);rfl;(first|(apply at_;rfl;rfl)|(apply aa;assumption));rfl)|(apply bz;(apply tyT;rfl);rfl;(first|(apply at_;rfl;rfl)|(apply aa;assumption));rfl)|(apply ef;(apply tyT;rfl);rfl;rfl)|(apply ck;rfl)|(apply cg;rfl)|(apply bp (c:=o);apply elT;rfl;rfl;rfl;rfl;exact kb;omega;exact h3)))|(apply bt (nt:=19) (.take 0 (.take 1 (.take 2 (.take 3 (.take 4 (.take 5 (.take 6 (.take 7 (.take 8 (.take 9 (.take 10 .nil))))))))))) [] [];exact co;rfl;decide +kernel)|(apply Vp;rfl;rfl;apply fnT;rfl;apply h38;(first|(apply aa;assumption)|assumption);rintro _ rfl)|(apply Vw;rfl;(apply cj;rfl;rfl;rfl))|(apply ac;rfl)|apply ak|apply ah|apply ai|(apply af;rfl)|(apply bf _ (.inr rfl);(exact List.prefix_append _ _);(focus repeat (first|apply a8|(apply a9;rfl)));rfl)|apply ap|apply dg|(apply tV;rfl;rfl;(first|(apply ni;rfl;rfl;rfl;omega)|(apply bl;rfl)|(apply bg;rfl)|(apply cb;(apply plT;rfl);rfl;rfl;decide)|(apply fz;(apply plT;rfl);rfl;rfl;decide)|(apply bj;(apply tyT;rfl);rfl;(first|(apply at_;rfl;rfl)|(apply aa;assumption));rfl)|(apply bz;(apply tyT;rfl);rfl;(first|(apply at_;rfl;rfl)|(apply aa;assumption));rfl)|(apply ef;(apply tyT;rfl);rfl;rfl)|(apply ck;rfl)|(apply cg;rfl)|(apply bp (c:=o);apply elT;rfl;rfl;rfl;rfl;exact kb;omega;exact h3));rfl))
    all_goals first|rfl|contradiction
end
theorem jiy {a b:Tg} (ha:okT a) (hb:okT b) (x y:Operand) (w:World):(do eqGuard .eql 44 x y (pq a) (pq b);binOp .eql 44 (pq a) (pq b):Sem Value).run Tryz.prog w = .ok (.bool (decide (a = b))) w:=by
  obtain ⟨⟨l,hl⟩,_⟩:=zu ha
  obtain ⟨⟨l',hl'⟩,_⟩:=zu hb
  obtain ⟨r,hr,hiff⟩:=run_equal_deep w (m:=2) (by decide) (by kernel_rfl) (by kernel_rfl) hl hl'
  have hr':r = decide (a = b):=by
    rw [Bool.eq_iff_iff,hiff,decide_eq_true_eq]
    refine ⟨fun e=>sw (K44.inj hl (e ▸ hl')),fun e=>?_⟩
    subst e
    exact Option.some.inj (hl.symm.trans hl')
  subst hr'
  have hg:Tryz.prog.eqGuardType Tryz.prog.depth 44 = false:=by kernel_rfl
  have e1:(eqGuard .eql 44 x y (pq a) (pq b)).run Tryz.prog w = .ok () w:=by
    unfold pq
    simp [eqGuard,hg]
  have e2:(binOp .eql 44 (pq a) (pq b)).run Tryz.prog w = .ok (.bool (decide (a = b))) w:=by
    have:binOp .eql 44 (pq a) (pq b) =(do pure (.bool (← Op.equal 44 (pq a) (pq b)))):=rfl
    rw [this,Sem.run_bind,hr]
    rfl
  rw [Sem.run_bind,e1]
  exact e2
section
variable {P:Program} {ok okm:Nat → Bool} {o:Oper} {ρ:Rg} {st:St} {Q:Rg → St → Prop} {x y:Operand}
theorem te {f:BinOp} {t ty:Nat} {a b:Value} {c0:Bool} (ho:o.op = .binOp f t x y ty) (hx:(evB ρ x).bind jh6 = some a) (hy:(evB ρ y).bind jh6 = some b) (hv:∀ w,(do eqGuard f t x y a b;binOp f t a b:Sem Value).run P w = .ok (.bool c0) w) (hq:Q (ke ρ o.dst (vB c0)) st):OpR P ok okm o ρ st Q:=by
  intro nt z c Kx h1 h2 h3 h4
  subst h1
  obtain ⟨bx,hx1,hx2⟩:=Option.bind_eq_some_iff.1 hx
  have hax:=kw (h3.ev hx1) hx2
  obtain ⟨by',hy1,hy2⟩:=Option.bind_eq_some_iff.1 hy
  have hay:=kw (h3.ev hy1) hy2
  have hrun:(execOp c.eval o).run P z.w = .ok (.value (.bool c0)) z.w:=by
    obtain ⟨dst,op,type,pos,after,guard⟩:=o
    subst ho
    rw [show (execOp c.eval { dst:=dst,op:=.binOp f t x y ty,type:=type,pos:=pos,after:=after,guard:=guard }) =(do let z ← (do eqGuard f t x y (c.eval x) (c.eval y);binOp f t (c.eval x) (c.eval y));pure (.value z)) from rfl,hax,hay,Sem.run_bind,hv]
    simp
  unfold Oper.wp
  rw [hrun]
  exact ⟨_,z,[],[],rfl,hq,h2,Step.refl _ _ _,by simp,by simp,h3.put h4 (.d _ _ (.flat _ rfl))⟩
end
def ixT (k:Tg):List Tg → Nat → Option Nat
  | [],_=>none
  | t :: l,n=>if t = k then some n else ixT k l (n + 1)
def vIx:Option Nat → BV
  | some j=>vI j
  | none=>vI (-1)
section
variable (p:List Cl) (tg:Nat) (lo:List ObR) (ss:List (Nat × Nat))
def plR (v:Vl) (k:Tg):Option Nat:=(obR lo v).bind fun o=>ixT k o.2.1 0
theorem js5 (v:Vl) (hv:okV v) (hl:lo.length ≤ 1000) (k:Tg) (hk:okT k) (hf:∀ o ∈ lo,(∀ t ∈ o.2.1,okT t) ∧ o.2.1.length ≤ 9000000000000000000):RHC p tg lo ss 36 (fun id=>[.ptr id 0,vVl v,vTg k]) (fun r=>r = vIx (plR lo v k)):=by
  have h38:=jw9 p tg lo ss v hv hl
  unfold plR vTg
  obtain ⟨kd,n,s⟩:=v
  unfold okV at hv
  dsimp only [vVl] at *
  intro S T M id hid
  refine am [] [] Tryz.func36 rfl Tryz.ntmps36 Tryz.results36 ?_
  rcases ho:obR lo ⟨kd,n,s⟩ with _|o
  · rw [ho] at h38
    repeat' (first|apply ab|(apply V;rfl;(first|(apply bl;rfl)|(apply bg;rfl)|(apply bj;(apply tyT;rfl);rfl;(apply at_;rfl;rfl);rfl)|(apply cg;rfl)))|(apply Vp;rfl;rfl;apply fnT;rfl;apply h38;(first|(apply aa;assumption)|assumption);rintro _ rfl)|(apply Vw;rfl;(apply cj;rfl;rfl;rfl))|(apply ac;rfl)|apply ak|apply ai|(apply ae;rfl)|(apply bf _ (.inr rfl);(exact List.prefix_append _ _);(focus repeat (first|apply a8|(apply a9;rfl)));rfl)|apply aw)
    all_goals first|rfl|contradiction
  · rw [ho] at h38
    obtain ⟨_,h1,h2,h3⟩:=qz ho
    dsimp only at h1 h2 h3
    obtain ⟨hf1,hf2⟩:=hf o (List.mem_of_getElem? h3)
    repeat' (first|apply ab|(apply V;rfl;(first|(apply ni;rfl;rfl;rfl;omega)|(apply bl;rfl)|(apply bg;rfl)|(apply cb;(apply plT;rfl);rfl;rfl;decide)|(apply fz;(apply plT;rfl);rfl;rfl;decide)|(apply bj;(apply tyT;rfl);rfl;(first|(apply at_;rfl;rfl)|(apply aa;assumption));rfl)|(apply bz;(apply tyT;rfl);rfl;(first|(apply at_;rfl;rfl)|(apply aa;assumption));rfl)|(apply ef;(apply tyT;rfl);rfl;rfl)|(apply ck;rfl)|(apply cg;rfl)|(apply bp (c:=o);apply elT;rfl;rfl;rfl;rfl;exact kb;omega;exact h3)))|(apply bt (nt:=36) (.take 0 (.take 1 (.take 2 (.take 3 (.take 4 (.take 5 (.take 6 (.take 7 (.take 8 (.take 9 (.take 10 .nil))))))))))) [] [];exact co;rfl;decide +kernel)|(apply Vp;rfl;rfl;apply fnT;rfl;apply h38;(first|(apply aa;assumption)|assumption);rintro _ rfl)|(apply Vw;rfl;(apply cj;rfl;rfl;rfl))|(apply ac;rfl)|apply ak|apply aj|apply ah|(apply af;rfl)|apply ap|apply dg|(apply tV;rfl;rfl;(first|(apply ni;rfl;rfl;rfl;omega)|(apply bl;rfl)|(apply bg;rfl)|(apply cb;(apply plT;rfl);rfl;rfl;decide)|(apply fz;(apply plT;rfl);rfl;rfl;decide)|(apply bj;(apply tyT;rfl);rfl;(first|(apply at_;rfl;rfl)|(apply aa;assumption));rfl)|(apply bz;(apply tyT;rfl);rfl;(first|(apply at_;rfl;rfl)|(apply aa;assumption));rfl)|(apply ef;(apply tyT;rfl);rfl;rfl)|(apply ck;rfl)|(apply cg;rfl)|(apply bp (c:=o);apply elT;rfl;rfl;rfl;rfl;exact kb;omega;exact h3));rfl))
    refine cx (fun j:Nat=>o.2.1.length - j) (fun j=>[(5,.ptr (S.length + 1) 0),(7,.d (cy mn o.2.1)),(8,vI j)]) (fun j S1 T1=>j ≤ o.2.1.length ∧ S.length ≤ S1.length ∧ T <+: T1 ∧ S1[S.length + 1]? = some ([vS k.own,vI k.nth],44) ∧ ixT k o.2.1 0 = ixT k (o.2.1.drop j) j) 0 ⟨Nat.zero_le _,by simp,by simp,at_ rfl rfl,by rw [List.drop_zero]⟩ ⟨rfl,rfl,rfl,trivial⟩ ?_
    rintro j S1 T1 ⟨hj,hS,hT,hb,hst⟩
    by_cases hlt:j < o.2.1.length
    · obtain ⟨t,ht⟩:∃ t,o.2.1[j]? = some t:=⟨_,List.getElem?_eq_getElem hlt⟩
      have hkt:=hf1 t (List.mem_of_getElem? ht)
      rw [jp ht,ixT] at hst
      by_cases hq:t = k
      · rw [if_pos hq] at hst
        have hrun:=fun x y w=>jiy hkt hk x y w
        rw [decide_eq_true hq] at hrun
        repeat' (first|apply ab|(apply V;rfl;(first|(apply bl;rfl)|(apply bg;rfl)|(apply bj;(apply tyT;rfl);rfl;(apply aa;assumption);rfl)|(apply dp;(apply tyT;rfl);rfl;(first|rfl|apply ay|apply ba))|(apply bq;(apply elT;rfl);rfl;rfl)|(apply bp (c:=t);apply elT;rfl;rfl;rfl;rfl;exact ny;omega;simpa using ht)))|(apply bt (nt:=36) (.take 0 (.take 1 (.take 2 (.take 3 (.take 4 (.one 5 .nil)))))) [] [];exact co;rfl;decide +kernel)|(apply oR;rfl;rfl;apply te;rfl;rfl;rfl;exact fun w=>hrun _ _ w)|(apply Vd;rfl;(apply cu;rfl;rfl);all_goals intro h_)|(apply ac;rfl)|apply ak|apply aj|apply ah|apply bd|apply ai|(apply ae;rfl)|(apply af;rfl)|(apply bf _ (.inr rfl);(apply av;assumption);(focus repeat (first|apply a8|(apply a9;rfl)));rfl)|apply ap|apply ey|apply dm|apply aw|apply bo|apply dg|(apply tV;rfl;rfl;(first|(apply bl;rfl)|(apply bg;rfl)|(apply bj;(apply tyT;rfl);rfl;(apply aa;assumption);rfl)|(apply dp;(apply tyT;rfl);rfl;(first|rfl|apply ay|apply ba))|(apply bq;(apply elT;rfl);rfl;rfl)|(apply bp (c:=t);apply elT;rfl;rfl;rfl;rfl;exact ny;omega;simpa using ht));rfl)|(exfalso;omega))
        all_goals first|(show _ = vIx ((some o).bind fun o=>ixT k o.2.1 0);rw [Option.bind_some,hst];rfl)|(exfalso;omega)
      · rw [if_neg hq] at hst
        have hrun:=fun x y w=>jiy hkt hk x y w
        rw [decide_eq_false hq] at hrun
        repeat' (first|apply ab|(apply V;rfl;(first|(apply bl;rfl)|(apply bg;rfl)|(apply bj;(apply tyT;rfl);rfl;(apply aa;assumption);rfl)|(apply dp;(apply tyT;rfl);rfl;(first|rfl|apply ay|apply ba))|(apply bq;(apply elT;rfl);rfl;rfl)|(apply az;rfl;rfl;rfl;omega)|(apply bp (c:=t);apply elT;rfl;rfl;rfl;rfl;exact ny;omega;simpa using ht)))|(apply bt (nt:=36) (.take 0 (.take 1 (.take 2 (.take 3 (.take 4 (.one 5 .nil)))))) [] [];exact co;rfl;decide +kernel)|(apply oR;rfl;rfl;apply te;rfl;rfl;rfl;exact fun w=>hrun _ _ w)|(apply Vd;rfl;(apply cu;rfl;rfl);all_goals intro h_)|(apply ac;rfl)|apply ak|(apply al;rfl)|apply aj|apply ah|apply bd|apply ai|(apply ae;rfl)|(apply af;rfl)|(apply bf _ (.inr rfl);(apply av;assumption);(focus repeat (first|apply a8|(apply a9;rfl)));rfl)|apply ap|apply ey|apply cq|apply bo|apply dg|(apply tV;rfl;rfl;(first|(apply bl;rfl)|(apply bg;rfl)|(apply bj;(apply tyT;rfl);rfl;(apply aa;assumption);rfl)|(apply dp;(apply tyT;rfl);rfl;(first|rfl|apply ay|apply ba))|(apply bq;(apply elT;rfl);rfl;rfl)|(apply az;rfl;rfl;rfl;omega)|(apply bp (c:=t);apply elT;rfl;rfl;rfl;rfl;exact ny;omega;simpa using ht));rfl)|(exfalso;omega))
        all_goals first|exact ⟨j + 1,_,_,by omega,⟨by omega,by simp only [List.length_append];omega,av hT,aa hb,hst⟩,⟨rfl,rfl,di (by omega),trivial⟩,rfl⟩|(exfalso;omega)
    · rw [List.drop_of_length_le (by omega),ixT] at hst
      repeat' (first|apply ab|(apply V;rfl;(first|(apply bl;rfl)|(apply bg;rfl)|(apply bq;(apply elT;rfl);rfl;rfl)))|(apply Vd;rfl;(apply cu;rfl;rfl);all_goals intro h_)|(apply ac;rfl)|apply ak|apply aj|apply ah|apply bd|apply ai|(apply ae;rfl)|(apply af;rfl)|(apply bf _ (.inr rfl);(apply av;assumption);(focus repeat (first|apply a8|(apply a9;rfl)));rfl)|apply ap|apply ey|apply bo|(exfalso;omega))
      all_goals first|(show _ = vIx ((some o).bind fun o=>ixT k o.2.1 0);rw [Option.bind_some,hst];rfl)|(exfalso;omega)
def stR (p:List Cl) (k:Tg):Int:=match sy p k with
  | some f=>if f.static = true then fq p k.own else -1
  | none=>-1
theorem js6 (k:Tg) (hp:Sz p):RHC p tg lo ss 35 (fun id=>[.ptr id 0,vTg k]) (fun r=>r = vI (stR p k)):=by
  have h33:=jq7 p k hp
  have h66:=jqu p k.own (ec hp)
  unfold stR
  intro S T M id hid
  unfold vTg at *
  have hidl:=(List.getElem?_eq_some_iff.1 hid).1
  refine am [] [] Tryz.func35 rfl Tryz.ntmps35 Tryz.results35 ?_
  rcases hf:sy p k with _|⟨fs,fty,fnm,fin⟩
  · rw [hf] at h33
    dsimp only [Option.getD,Option.isSome] at h33
    rw [jq2] at h33
    repeat' (first|apply ab|(apply V;rfl;(first|(apply bl;rfl)|(apply bg;rfl)|(apply cb;(apply plT;rfl);rfl;rfl;decide)|(apply ck;rfl)|(apply ca;rfl;rfl)|(apply eu;rfl;rfl)|(apply cg;rfl)))|apply nr|(apply bt (nt:=30) (.take 0 (.take 1 (.take 2 (.take 3 (.take 4 (.fork 5 (.take 6 (.take 7 (.take 8 (.one 9 (.one 10 (.take 11 .nil)))))) 9 (.one 5 (.take 6 (.take 7 (.take 8 (.one 10 (.take 11 .nil)))))))))))) [S.length + 1] [];exact co;rfl;decide +kernel)|(apply tV;rfl;rfl;(first|(apply bj;(apply tyT;rfl);rfl;(first|(apply at_;rfl;rfl)|(apply aa;assumption));rfl)|(apply bz;(apply tyT;rfl);rfl;(first|(apply at_;rfl;rfl)|(apply aa;assumption));rfl));(apply ek;rfl;(focus (first|(simp;done)|(simp;omega)))))|(apply oS;rfl;rfl;(apply bw;rfl;(apply tyT;rfl);rfl;rfl;rfl;(apply e8;omega;(simp));rfl;rfl;(apply Nat.le_of_ble_eq_true;rfl)))|(apply oP;rfl;rfl;rfl;apply fnT;rfl;apply h33;rintro _ rfl)|(apply Vo;rfl)|(apply Vw;rfl;(first|(apply cd;rfl;(apply tyT;rfl))|(apply cj;rfl;rfl;rfl)))|(apply ac;rfl)|apply ak|apply ai|(apply ae;rfl)|(apply bf _ (.inr rfl);(exact List.prefix_append _ _);(focus repeat (first|apply a8|(apply a9;rfl)));rfl)|apply aw|apply dg|(apply tV;rfl;rfl;(first|(apply bl;rfl)|(apply bg;rfl)|(apply cb;(apply plT;rfl);rfl;rfl;decide)|(apply ck;rfl)|(apply ca;rfl;rfl)|(apply eu;rfl;rfl)|(apply cg;rfl));rfl)|(apply oW;rfl;rfl;(first|(apply cd;rfl;(apply tyT;rfl))|(apply cj;rfl;rfl;rfl))))
    all_goals first|rfl|contradiction
  · rw [hf] at h33
    dsimp only [Option.getD,Option.isSome,vFi,je,List.map] at h33
    cases fs
    · repeat' (first|apply ab|(apply V;rfl;(first|(apply bl;rfl)|(apply bg;rfl)|(apply cb;(apply plT;rfl);rfl;rfl;decide)|(apply bz;(apply tyT;rfl);rfl;(apply at_;rfl;rfl);rfl)|(apply ck;rfl)|(apply bu;rfl;rfl)|(apply eu;rfl;rfl)|(apply cg;rfl)))|apply nr|(apply bt (nt:=30) (.take 0 (.take 1 (.take 2 (.take 3 (.take 4 (.fork 5 (.take 6 (.take 7 (.take 8 (.one 9 (.one 10 (.take 11 .nil)))))) 9 (.one 5 (.take 6 (.take 7 (.take 8 (.one 10 (.take 11 .nil)))))))))))) [S.length + 1] [];exact co;rfl;decide +kernel)|(apply tV;rfl;rfl;(first|(apply bj;(apply tyT;rfl);rfl;(first|(apply at_;rfl;rfl)|(apply aa;assumption));rfl)|(apply bz;(apply tyT;rfl);rfl;(first|(apply at_;rfl;rfl)|(apply aa;assumption));rfl));(apply ek;rfl;(focus (first|(simp;done)|(simp;omega)))))|(apply oS;rfl;rfl;(apply bw;rfl;(apply tyT;rfl);rfl;rfl;rfl;(apply e8;omega;(simp));rfl;rfl;(apply Nat.le_of_ble_eq_true;rfl)))|(apply oP;rfl;rfl;rfl;apply fnT;rfl;apply h33;rintro _ rfl)|(apply Vw;rfl;(first|(apply cd;rfl;(apply tyT;rfl))|(apply cj;rfl;rfl;rfl)))|(apply ac;rfl)|apply ak|apply ai|(apply ae;rfl)|(apply bf _ (.inr rfl);(exact List.prefix_append _ _);(focus repeat (first|apply a8|(apply a9;rfl)));rfl)|apply aw|apply dg|(apply tV;rfl;rfl;(first|(apply bl;rfl)|(apply bg;rfl)|(apply cb;(apply plT;rfl);rfl;rfl;decide)|(apply bz;(apply tyT;rfl);rfl;(apply at_;rfl;rfl);rfl)|(apply ck;rfl)|(apply bu;rfl;rfl)|(apply eu;rfl;rfl)|(apply cg;rfl));rfl)|(apply oW;rfl;rfl;(first|(apply cd;rfl;(apply tyT;rfl))|(apply cj;rfl;rfl;rfl))))
      all_goals first|rfl|contradiction
    · repeat' (first|apply ab|(apply V;rfl;(first|(apply bl;rfl)|(apply bg;rfl)|(apply cb;(apply plT;rfl);rfl;rfl;decide)|(apply bz;(apply tyT;rfl);rfl;(apply at_;rfl;rfl);rfl)|(apply ck;rfl)|(apply bu;rfl;rfl)|(apply eu;rfl;rfl)|(apply cg;rfl)))|apply nr|(apply bt (nt:=30) (.take 0 (.take 1 (.take 2 (.take 3 (.take 4 (.fork 5 (.take 6 (.take 7 (.take 8 (.one 9 (.one 10 (.take 11 .nil)))))) 9 (.one 5 (.take 6 (.take 7 (.take 8 (.one 10 (.take 11 .nil)))))))))))) [S.length + 1] [];exact co;rfl;decide +kernel)|(apply bt (nt:=30) (.take 0 (.take 1 (.take 2 (.take 3 (.take 4 (.take 5 (.one 6 (.take 7 .nil)))))))) [] [];exact co;rfl;decide +kernel)|(apply tV;rfl;rfl;(first|(apply bj;(apply tyT;rfl);rfl;(first|(apply at_;rfl;rfl)|(apply aa;assumption));rfl)|(apply bz;(apply tyT;rfl);rfl;(first|(apply at_;rfl;rfl)|(apply aa;assumption));rfl));(apply ek;rfl;(focus (first|(simp;done)|(simp;omega)))))|(apply oS;rfl;rfl;(apply bw;rfl;(apply tyT;rfl);rfl;rfl;rfl;(apply e8;omega;(simp));rfl;rfl;(apply Nat.le_of_ble_eq_true;rfl)))|(apply oP;rfl;rfl;rfl;apply fnT;rfl;apply h33;rintro _ rfl)|(apply oP;rfl;rfl;rfl;apply fnT;rfl;apply h66;rintro _ rfl)|(apply Vw;rfl;(first|(apply cd;rfl;(apply tyT;rfl))|(apply cj;rfl;rfl;rfl)))|(apply ac;rfl)|apply ak|apply ah|apply ai|(apply af;rfl)|(apply bf _ (.inr rfl);(exact List.prefix_append _ _);(focus repeat (first|apply a8|(apply a9;rfl)));rfl)|apply ap|apply dg|(apply tV;rfl;rfl;(first|(apply bl;rfl)|(apply bg;rfl)|(apply cb;(apply plT;rfl);rfl;rfl;decide)|(apply bz;(apply tyT;rfl);rfl;(apply at_;rfl;rfl);rfl)|(apply ck;rfl)|(apply bu;rfl;rfl)|(apply eu;rfl;rfl)|(apply cg;rfl));rfl)|(apply oW;rfl;rfl;(first|(apply cd;rfl;(apply tyT;rfl))|(apply cj;rfl;rfl;rfl))))
      all_goals first|rfl|contradiction
end
end Go.Proofs.YtinffhimfoicdaaGreat
namespace Go.Proofs.YtinffhimfoicdaaGreat
open Go Go.RowKit Go.Proofs.YtinffhimfoicdaaGreat.Calc
set_option linter.unusedVariables false
set_option linter.unusedSimpArgs false
set_option maxRecDepth 100000
set_option maxHeartbeats 8000000
attribute [local irreducible] Tri ew er ci bn db d7 inQ jb jhl
def g9 (v:Vl):List DV:=[.flat (.int .i64 v.kind),.flat (.int .i32 v.n),.flat (.string v.s)]
theorem jc5 (v:Vl):(g9 v).length = 3:=rfl
abbrev y6 (vs:List Vl):List (Value × DV):=jem (vs.flatMap g9)
theorem ja0 {vs:List Vl} (h:vs ≠ []):vs.flatMap g9 ≠ []:=by
  cases vs with
  | nil=>exact absurd rfl h
  | cons v l=>simp [g9]
theorem jge (vs:List Vl):(vs.flatMap g9).length = vs.length * 3:=ma jc5 vs
theorem jc6 {vs:List Vl} {j:Nat} {x:Vl} (h:vs[j]? = some x):Calc.part true 3 (j * 3) ((vs.flatMap g9).map .d) = some (vVl x):=by
  have hlt:=(List.getElem?_eq_some_iff.1 h).1
  have e:=uf jc5 h
  unfold Calc.part
  rw [if_pos (by rw [List.length_map,jge];omega),if_pos rfl,← List.map_drop,← List.map_take,e]
  rfl
theorem jgf {x:Vl}:∀ {vs:List Vl} {j:Nat},j < vs.length → mi (j * 3) (g9 x) (vs.flatMap g9) =(vs.set j x).flatMap g9
  | [],j,h=>by simp at h
  | v :: l,0,h=>by simp [g9,mi]
  | v :: l,j + 1,h=>by
    have ih:=jgf (x:=x) (vs:=l) (j:=j) (by simpa using h)
    have e:(j + 1) * 3 = j * 3 + 1 + 1 + 1:=by omega
    simp only [List.flatMap_cons,List.set_cons_succ,g9,mi,List.cons_append,List.nil_append,e,List.set_cons_succ] at ih ⊢
    rw [← ih]
theorem jgg {x:Vl} {vs:List Vl} {j:Nat} (h:j < vs.length):y6 (vs.set j x) = jem (mi (j * 3) (g9 x) (vs.flatMap g9)):=by
  unfold y6
  rw [jgf h]
theorem vj {P:Program} {st:St} {ρ:Rg} {x y:Operand} {t:Nat} {α:Type} {f:α → List DV} {l:List α} {c:α} {k:IntKind} {e sz:Nat} {j:Int} {b:BV} {cs:List DV} (hc:f c = cs) (he:u9 P t = some (e,sz)) (hx:evB ρ x = some b) (hr:mg b = some (l.flatMap f,l.length)) (hy:fl ρ y = some (.int k j)) (hf:∀ c,(f c).length = sz) (h0:0 ≤ j) (hg:l[j.toNat]? = some c):bn P st ρ (.indexAddr t x y) = some (.eptr cs):=hc ▸ bp he hx hr hy hf h0 hg
theorem th {m n:Nat} (h:n ≠ 0):jd0 m n = .row m n:=if_neg h
section
variable (p:List Cl) (tg:Nat) (lo:List ObR) (ss:List (Nat × Nat))
variable {S:List (List BV × Nat)} {T:List Nat} {M:List (List (Value × DV))} {id:Nat}
theorem ju4 (v:Vl) (h0:v.kind = 0) (k:Tg) (hp:Sz p) {c m:Nat} {vs:List Vl} {x:Vl} (hst:stR p k = c) (hss:ss[c]? = some (m,vs.length)) (hk0:0 ≤ k.nth) (hx:vs[k.nth.toNat]? = some x) (hid:S[id]? = some (rhB p tg lo ss)) (hM:M[m]? = some (y6 vs)) :
    ci Tryz.prog [] [] 16 [.ptr id 0,vVl v,vTg k] ⟨S,T,M⟩ (fun r s=>s = ⟨S,T,M⟩ ∧ r = vVl x):=by
  have h35:=js6 p tg lo ss k hp
  rw [hst] at h35
  obtain ⟨kd,n,s⟩:=v
  obtain ⟨ow,nth⟩:=k
  dsimp only [vVl,vTg] at *
  subst h0
  have hlt:=(List.getElem?_eq_some_iff.1 hx).1
  have hne:vs ≠ []:=by rintro rfl;simp at hlt
  have hrow:qm (m,vs.length) = [.row m vs.length]:=by
    unfold qm
    rw [th (by omega)]
  have hpv:=jc6 hx
  have hvn:=ja0 hne
  refine am [] [] Tryz.func16 rfl Tryz.ntmps16 Tryz.results16 ?_
  repeat' (first|apply ab|(apply V;rfl;(first|(apply bl;rfl)|(apply bg;rfl)|(apply cb;(apply plT;rfl);rfl;rfl;decide)|(apply bj;(apply tyT;rfl);rfl;(first|(apply at_;rfl;rfl)|(apply aa;assumption));rfl)|(apply bz;(apply tyT;rfl);rfl;(first|(apply at_;rfl;rfl)|(apply aa;assumption));rfl)|(apply ef;(apply tyT;rfl);rfl;rfl)|(apply ck;rfl)|(apply ed;(apply plT;rfl);rfl)|(apply vj hrow;apply elT;rfl;rfl;rfl;rfl;exact td;omega;exact hss)))|(apply bt (nt:=49) (.take 0 (.take 1 (.take 2 (.take 3 (.take 4 (.take 5 (.take 6 (.take 7 (.take 8 (.one 9 (.one 10 (.one 11 .nil)))))))))))) [] [11];exact co;rfl;decide +kernel)|(apply Vp;rfl;rfl;apply fnT;rfl;apply h35;(first|(apply aa;assumption)|assumption);rintro _ rfl)|(apply oR;rfl;rfl;apply jaw;rfl;apply elT;rfl;rfl;rfl;omega)|(apply oR;rfl;rfl;apply jiv;rfl;apply tyT;rfl;rfl;exact hM;exact hvn;exact hpv)|(apply Vd;rfl;(first|(apply ep;rfl;rfl)|(apply dq;rfl;rfl));all_goals intro h_)|(apply Vw;rfl;(first|(apply cd;rfl;(apply tyT;rfl))|(apply cj;rfl;rfl;rfl)))|(apply Vs;rfl;(apply bw;rfl;(apply tyT;rfl);rfl;rfl;rfl;(first|apply bc|(apply bh;omega));rfl;rfl;(first|decide|(apply Nat.le_of_ble_eq_true;rfl))))|(apply ac;rfl)|apply ak|apply ah|apply ai|(apply ae;rfl)|(apply af;rfl)|(apply bf _ (.inr rfl);(exact List.prefix_append _ _);(focus repeat (first|apply a8|(apply cp;rfl;rfl;apply tyT;rfl;rfl;rfl)));rfl)|apply ap|apply aw|apply dg|(apply tV;rfl;rfl;(first|(apply bl;rfl)|(apply bg;rfl)|(apply cb;(apply plT;rfl);rfl;rfl;decide)|(apply bj;(apply tyT;rfl);rfl;(first|(apply at_;rfl;rfl)|(apply aa;assumption));rfl)|(apply bz;(apply tyT;rfl);rfl;(first|(apply at_;rfl;rfl)|(apply aa;assumption));rfl)|(apply ef;(apply tyT;rfl);rfl;rfl)|(apply ck;rfl)|(apply ed;(apply plT;rfl);rfl)|(apply vj hrow;apply elT;rfl;rfl;rfl;rfl;exact td;omega;exact hss));rfl)|(apply oS;rfl;rfl;(apply bw;rfl;(apply tyT;rfl);rfl;rfl;rfl;(first|(apply jl;rfl)|(apply mb;omega;rfl));rfl;rfl;(first|decide|(apply Nat.le_of_ble_eq_true;rfl))))|(exfalso;omega))
  all_goals first|rfl|(exfalso;omega)
def OkL (lo:List ObR):Prop:=lo.length ≤ 1000 ∧ ∀ o ∈ lo,(∀ t ∈ o.2.1,okT t) ∧ o.2.1.length ≤ 9000000000000000000
theorem ju5 (v:Vl) (hv:okV v) (h0:v.kind ≠ 0) (k:Tg) (hk:okT k) (hO:OkL lo) {o:ObR} {j:Nat} {vs:List Vl} {x:Vl} (ho:obR lo v = some o) (hj:ixT k o.2.1 0 = some j) (hl:o.2.1.length = vs.length) (hx:vs[j]? = some x) (hid:S[id]? = some (rhB p tg lo ss)) (hM:M[o.2.2]? = some (y6 vs)) :
    ci Tryz.prog [] [] 16 [.ptr id 0,vVl v,vTg k] ⟨S,T,M⟩ (fun r s=>s = ⟨S,T,M⟩ ∧ r = vVl x):=by
  have h36:=js5 p tg lo ss v hv hO.1 k hk hO.2
  unfold plR at h36
  rw [ho,Option.bind_some,hj] at h36
  obtain ⟨_,h1,h2,h3⟩:=qz ho
  have hv:=hv
  unfold okV at hv
  obtain ⟨kd,n,s⟩:=v
  obtain ⟨ow,nth⟩:=k
  dsimp only [vVl,vTg,vIx] at *
  have hlt:=(List.getElem?_eq_some_iff.1 hx).1
  have hne:vs ≠ []:=by rintro rfl;simp at hlt
  have hrow:rv o = [.flat (.string o.1),cy mn o.2.1,.row o.2.2 vs.length]:=by
    have hn0:o.2.1.length ≠ 0:=by omega
    unfold rv
    rw [th hn0,hl]
  have hpv:=jc6 hx
  have hvn:=ja0 hne
  refine am [] [] Tryz.func16 rfl Tryz.ntmps16 Tryz.results16 ?_
  repeat' (first|apply ab|(apply V;rfl;(first|(apply ni;rfl;rfl;rfl;omega)|(apply bl;rfl)|(apply bg;rfl)|(apply cb;(apply plT;rfl);rfl;rfl;decide)|(apply fz;(apply plT;rfl);rfl;rfl;decide)|(apply bj;(apply tyT;rfl);rfl;(first|(apply at_;rfl;rfl)|(apply aa;assumption));rfl)|(apply bz;(apply tyT;rfl);rfl;(first|(apply at_;rfl;rfl)|(apply aa;assumption));rfl)|(apply ef;(apply tyT;rfl);rfl;rfl)|(apply ck;rfl)|(apply ed;(apply plT;rfl);rfl)|(apply vj hrow;apply elT;rfl;rfl;rfl;rfl;exact kb;omega;exact h3)))|(apply bt (nt:=49) (.take 0 (.take 1 (.take 2 (.take 3 (.take 4 (.take 5 (.take 6 (.take 7 (.take 8 (.take 9 (.take 10 (.one 11 (.one 12 (.one 13 .nil)))))))))))))) [] [13];exact co;rfl;decide +kernel)|(apply Vp;rfl;rfl;apply fnT;rfl;apply h36;(first|(apply aa;assumption)|assumption);rintro _ rfl)|(apply oR;rfl;rfl;apply jaw;rfl;apply elT;rfl;rfl;rfl;omega)|(apply oR;rfl;rfl;apply jiv;rfl;apply tyT;rfl;rfl;exact hM;exact hvn;exact hpv)|(apply Vd;rfl;(first|(apply ep;rfl;rfl)|(apply dq;rfl;rfl));all_goals intro h_)|(apply Vw;rfl;(first|(apply cd;rfl;(apply tyT;rfl))|(apply cj;rfl;rfl;rfl)))|(apply Vs;rfl;(apply bw;rfl;(apply tyT;rfl);rfl;rfl;rfl;(first|apply bc|(apply bh;omega));rfl;rfl;(first|decide|(apply Nat.le_of_ble_eq_true;rfl))))|(apply ac;rfl)|apply ak|apply ah|apply ai|(apply ae;rfl)|(apply af;rfl)|(apply bf _ (.inr rfl);(exact List.prefix_append _ _);(focus repeat (first|apply a8|(apply cp;rfl;rfl;apply tyT;rfl;rfl;rfl)));rfl)|apply ap|apply aw|apply dg|(apply tV;rfl;rfl;(first|(apply ni;rfl;rfl;rfl;omega)|(apply bl;rfl)|(apply bg;rfl)|(apply cb;(apply plT;rfl);rfl;rfl;decide)|(apply fz;(apply plT;rfl);rfl;rfl;decide)|(apply bj;(apply tyT;rfl);rfl;(first|(apply at_;rfl;rfl)|(apply aa;assumption));rfl)|(apply bz;(apply tyT;rfl);rfl;(first|(apply at_;rfl;rfl)|(apply aa;assumption));rfl)|(apply ef;(apply tyT;rfl);rfl;rfl)|(apply ck;rfl)|(apply ed;(apply plT;rfl);rfl)|(apply vj hrow;apply elT;rfl;rfl;rfl;rfl;exact kb;omega;exact h3));rfl)|(apply oS;rfl;rfl;(apply bw;rfl;(apply tyT;rfl);rfl;rfl;rfl;(first|(apply jl;rfl)|(apply mb;omega;rfl));rfl;rfl;(first|decide|(apply Nat.le_of_ble_eq_true;rfl))))|(exfalso;omega))
  all_goals first|rfl|(exfalso;omega)
theorem joh (v:Vl) (hv:okV v) (k:Tg) (hk:okT k) (hp:Sz p) (hO:OkL lo) (h:(v.kind = 0 ∧ stR p k = -1) ∨(v.kind ≠ 0 ∧ plR lo v k = none)) (hid:S[id]? = some (rhB p tg lo ss)) :
    ci Tryz.prog [] [] 16 [.ptr id 0,vVl v,vTg k] ⟨S,T,M⟩ (fun r s=>s = ⟨S,T,M⟩ ∧ r = vVl vl0):=by
  have h35:=js6 p tg lo ss k hp
  have h36:=js5 p tg lo ss v hv hO.1 k hk hO.2
  obtain ⟨kd,n,s⟩:=v
  obtain ⟨ow,nth⟩:=k
  dsimp only [vVl,vTg] at *
  rcases h with ⟨h0,h⟩|⟨h0,h⟩
  · subst h0
    rw [h] at h35
    refine am [] [] Tryz.func16 rfl Tryz.ntmps16 Tryz.results16 ?_
    repeat' (first|apply ab|(apply V;rfl;(first|(apply bl;rfl)|(apply bg;rfl)|(apply cb;(apply plT;rfl);rfl;rfl;decide)|(apply bj;(apply tyT;rfl);rfl;(apply at_;rfl;rfl);rfl)|(apply bz;(apply tyT;rfl);rfl;(apply at_;rfl;rfl);rfl)|(apply ed;(apply plT;rfl);rfl)))|(apply Vp;rfl;rfl;apply fnT;rfl;apply h35;(first|(apply aa;assumption)|assumption);rintro _ rfl)|(apply Vd;rfl;(first|(apply ep;rfl;rfl)|(apply dq;rfl;rfl));all_goals intro h_)|(apply Vw;rfl;(first|(apply cd;rfl;(apply tyT;rfl))|(apply cj;rfl;rfl;rfl)))|(apply Vs;rfl;(apply bw;rfl;(apply tyT;rfl);rfl;rfl;rfl;(first|apply bc|(apply bh;omega));rfl;rfl;(first|decide|(apply Nat.le_of_ble_eq_true;rfl))))|(apply ac;rfl)|apply ak|apply ah|apply ai|(apply ae;rfl)|(apply af;rfl)|(apply bf _ (.inr rfl);(exact List.prefix_append _ _);(focus repeat (first|apply a8|(apply cp;rfl;rfl;apply tyT;rfl;rfl;rfl)));rfl)|apply ap|apply aw|(exfalso;omega))
    all_goals first|rfl|(exfalso;omega)
  · rw [h] at h36
    dsimp only [vIx] at h36
    refine am [] [] Tryz.func16 rfl Tryz.ntmps16 Tryz.results16 ?_
    repeat' (first|apply ab|(apply V;rfl;(first|(apply bl;rfl)|(apply bg;rfl)|(apply cb;(apply plT;rfl);rfl;rfl;decide)|(apply bj;(apply tyT;rfl);rfl;(apply at_;rfl;rfl);rfl)|(apply bz;(apply tyT;rfl);rfl;(apply at_;rfl;rfl);rfl)|(apply ed;(apply plT;rfl);rfl)))|(apply Vp;rfl;rfl;apply fnT;rfl;apply h36;(first|(apply aa;assumption)|assumption);rintro _ rfl)|(apply Vd;rfl;(first|(apply ep;rfl;rfl)|(apply dq;rfl;rfl));all_goals intro h_)|(apply Vw;rfl;(first|(apply cd;rfl;(apply tyT;rfl))|(apply cj;rfl;rfl;rfl)))|(apply Vs;rfl;(apply bw;rfl;(apply tyT;rfl);rfl;rfl;rfl;(first|apply bc|(apply bh;omega));rfl;rfl;(first|decide|(apply Nat.le_of_ble_eq_true;rfl))))|(apply ac;rfl)|apply ak|apply ah|apply ai|(apply ae;rfl)|(apply af;rfl)|(apply bf _ (.inr rfl);(exact List.prefix_append _ _);(focus repeat (first|apply a8|(apply cp;rfl;rfl;apply tyT;rfl;rfl;rfl)));rfl)|apply ap|(exfalso;omega))
    all_goals first|rfl|(exfalso;omega)
theorem jiz {x:Vl} {vs:List Vl} {j:Nat} (h:j < vs.length):j * 3 + 3 ≤(vs.flatMap g9).length:=by
  rw [jge]
  omega
theorem ju6 (v:Vl) (h0:v.kind = 0) (k:Tg) (w:Vl) (hp:Sz p) {c m:Nat} {vs:List Vl} (hst:stR p k = c) (hss:ss[c]? = some (m,vs.length)) (hk0:0 ≤ k.nth) (hx:k.nth.toNat < vs.length) (hid:S[id]? = some (rhB p tg lo ss)) (hM:M[m]? = some (y6 vs)) :
    ci Tryz.prog [] [m] 14 [.ptr id 0,vVl v,vTg k,vVl w] ⟨S,T,M⟩ (fun r s=>r = vB true ∧ s = ⟨S,T,M.set m (y6 (vs.set k.nth.toNat w))⟩):=by
  have h35:=js6 p tg lo ss k hp
  rw [hst] at h35
  rw [jgg (x:=w) hx]
  have hof:=jiz (x:=w) hx
  obtain ⟨kd,n,s⟩:=v
  obtain ⟨ow,nth⟩:=k
  dsimp only [vVl,vTg] at *
  subst h0
  have hne:vs ≠ []:=by rintro rfl;simp at hx
  have hrow:qm (m,vs.length) = [.row m vs.length]:=by
    unfold qm
    rw [th (by omega)]
  have hvn:=ja0 hne
  refine am [] [m] Tryz.func14 rfl Tryz.ntmps14 Tryz.results14 ?_
  repeat' (first|apply ab|(apply V;rfl;(first|(apply bl;rfl)|(apply bg;rfl)|(apply cb;(apply plT;rfl);rfl;rfl;decide)|(apply bj;(apply tyT;rfl);rfl;(first|(apply at_;rfl;rfl)|(apply aa;assumption));rfl)|(apply bz;(apply tyT;rfl);rfl;(first|(apply at_;rfl;rfl)|(apply aa;assumption));rfl)|(apply ef;(apply tyT;rfl);rfl;rfl)|(apply ck;rfl)|(apply vj hrow;apply elT;rfl;rfl;rfl;rfl;exact td;omega;exact hss)))|(apply de (nt:=53) (.take 0 (.take 1 (.take 2 (.take 3 (.take 4 (.take 5 (.take 6 (.take 7 (.take 8 (.take 9 (.one 10 (.one 11 .nil)))))))))))) [] [11];exact co;rfl;decide +kernel)|(apply Vp;rfl;rfl;apply fnT;rfl;apply h35;(first|(apply aa;assumption)|assumption);rintro _ rfl)|(apply oR;rfl;rfl;apply jaw;rfl;apply elT;rfl;rfl;rfl;omega)|(apply oR;rfl;rfl;apply jiw;rfl;apply tyT;rfl;rfl;rfl;rfl;rfl;rfl;exact hM;exact hvn;exact hof;exact jil)|(apply Vd;rfl;(first|(apply ep;rfl;rfl)|(apply dq;rfl;rfl));all_goals intro h_)|(apply Vw;rfl;(apply cj;rfl;rfl;rfl))|(apply ac;rfl)|apply ak|apply ah|apply ai|(apply ae;rfl)|(apply af;rfl)|apply ap|apply aw|apply dg|(apply tV;rfl;rfl;(first|(apply bl;rfl)|(apply bg;rfl)|(apply cb;(apply plT;rfl);rfl;rfl;decide)|(apply bj;(apply tyT;rfl);rfl;(first|(apply at_;rfl;rfl)|(apply aa;assumption));rfl)|(apply bz;(apply tyT;rfl);rfl;(first|(apply at_;rfl;rfl)|(apply aa;assumption));rfl)|(apply ef;(apply tyT;rfl);rfl;rfl)|(apply ck;rfl)|(apply vj hrow;apply elT;rfl;rfl;rfl;rfl;exact td;omega;exact hss));rfl)|(exfalso;omega))
  all_goals first|(exfalso;omega)|exact zc _ (.inr rfl) (List.prefix_append _ _) (a9 rfl a8) rfl ⟨rfl,rfl⟩
theorem ju7 (v:Vl) (hv:okV v) (h0:v.kind ≠ 0) (k:Tg) (hk:okT k) (w:Vl) (hO:OkL lo) {o:ObR} {j:Nat} {vs:List Vl} (ho:obR lo v = some o) (hj:ixT k o.2.1 0 = some j) (hl:o.2.1.length = vs.length) (hx:j < vs.length) (hid:S[id]? = some (rhB p tg lo ss)) (hM:M[o.2.2]? = some (y6 vs)) :
    ci Tryz.prog [] [o.2.2] 14 [.ptr id 0,vVl v,vTg k,vVl w] ⟨S,T,M⟩ (fun r s=>r = vB true ∧ s = ⟨S,T,M.set o.2.2 (y6 (vs.set j w))⟩):=by
  have h36:=js5 p tg lo ss v hv hO.1 k hk hO.2
  unfold plR at h36
  rw [ho,Option.bind_some,hj] at h36
  rw [jgg (x:=w) hx]
  have hof:=jiz (x:=w) hx
  obtain ⟨_,h1,h2,h3⟩:=qz ho
  have hv:=hv
  unfold okV at hv
  obtain ⟨kd,n,s⟩:=v
  obtain ⟨ow,nth⟩:=k
  dsimp only [vVl,vTg,vIx] at *
  have hne:vs ≠ []:=by rintro rfl;simp at hx
  have hrow:rv o = [.flat (.string o.1),cy mn o.2.1,.row o.2.2 vs.length]:=by
    have hn0:o.2.1.length ≠ 0:=by omega
    unfold rv
    rw [th hn0,hl]
  have hvn:=ja0 hne
  refine am [] [o.2.2] Tryz.func14 rfl Tryz.ntmps14 Tryz.results14 ?_
  repeat' (first|apply ab|(apply V;rfl;(first|(apply ni;rfl;rfl;rfl;omega)|(apply bl;rfl)|(apply bg;rfl)|(apply cb;(apply plT;rfl);rfl;rfl;decide)|(apply fz;(apply plT;rfl);rfl;rfl;decide)|(apply bj;(apply tyT;rfl);rfl;(first|(apply at_;rfl;rfl)|(apply aa;assumption));rfl)|(apply bz;(apply tyT;rfl);rfl;(first|(apply at_;rfl;rfl)|(apply aa;assumption));rfl)|(apply ef;(apply tyT;rfl);rfl;rfl)|(apply ck;rfl)|(apply vj hrow;apply elT;rfl;rfl;rfl;rfl;exact kb;omega;exact h3)))|(apply de (nt:=53) (.take 0 (.take 1 (.take 2 (.take 3 (.take 4 (.take 5 (.take 6 (.take 7 (.take 8 (.take 9 (.take 10 (.take 11 (.one 12 (.one 13 .nil)))))))))))))) [] [13];exact co;rfl;decide +kernel)|(apply Vp;rfl;rfl;apply fnT;rfl;apply h36;(first|(apply aa;assumption)|assumption);rintro _ rfl)|(apply oR;rfl;rfl;apply jaw;rfl;apply elT;rfl;rfl;rfl;omega)|(apply oR;rfl;rfl;apply jiw;rfl;apply tyT;rfl;rfl;rfl;rfl;rfl;rfl;exact hM;exact hvn;exact hof;exact jil)|(apply Vd;rfl;(first|(apply ep;rfl;rfl)|(apply dq;rfl;rfl));all_goals intro h_)|(apply Vw;rfl;(apply cj;rfl;rfl;rfl))|(apply ac;rfl)|apply ak|apply ah|apply ai|(apply ae;rfl)|(apply af;rfl)|apply ap|apply dg|(apply tV;rfl;rfl;(first|(apply ni;rfl;rfl;rfl;omega)|(apply bl;rfl)|(apply bg;rfl)|(apply cb;(apply plT;rfl);rfl;rfl;decide)|(apply fz;(apply plT;rfl);rfl;rfl;decide)|(apply bj;(apply tyT;rfl);rfl;(first|(apply at_;rfl;rfl)|(apply aa;assumption));rfl)|(apply bz;(apply tyT;rfl);rfl;(first|(apply at_;rfl;rfl)|(apply aa;assumption));rfl)|(apply ef;(apply tyT;rfl);rfl;rfl)|(apply ck;rfl)|(apply vj hrow;apply elT;rfl;rfl;rfl;rfl;exact kb;omega;exact h3));rfl)|(exfalso;omega))
  all_goals first|(exfalso;omega)|exact zc _ (.inr rfl) (List.prefix_append _ _) (a9 rfl a8) rfl ⟨rfl,rfl⟩
theorem joi (v:Vl) (hv:okV v) (k:Tg) (hk:okT k) (w:Vl) (hp:Sz p) (hO:OkL lo) (h:(v.kind = 0 ∧ stR p k = -1) ∨(v.kind ≠ 0 ∧ plR lo v k = none)) (hid:S[id]? = some (rhB p tg lo ss)) :
    ci Tryz.prog [] [] 14 [.ptr id 0,vVl v,vTg k,vVl w] ⟨S,T,M⟩ (fun r s=>s = ⟨S,T,M⟩ ∧ r = vB false):=by
  have h35:=js6 p tg lo ss k hp
  have h36:=js5 p tg lo ss v hv hO.1 k hk hO.2
  obtain ⟨kd,n,s⟩:=v
  obtain ⟨ow,nth⟩:=k
  dsimp only [vVl,vTg] at *
  rcases h with ⟨h0,h⟩|⟨h0,h⟩
  · subst h0
    rw [h] at h35
    refine am [] [] Tryz.func14 rfl Tryz.ntmps14 Tryz.results14 ?_
    repeat' (first|apply ab|(apply V;rfl;(first|(apply bl;rfl)|(apply bg;rfl)|(apply cb;(apply plT;rfl);rfl;rfl;decide)|(apply bj;(apply tyT;rfl);rfl;(apply at_;rfl;rfl);rfl)|(apply bz;(apply tyT;rfl);rfl;(apply at_;rfl;rfl);rfl)))|(apply Vp;rfl;rfl;apply fnT;rfl;apply h35;(first|(apply aa;assumption)|assumption);rintro _ rfl)|(apply Vd;rfl;(first|(apply ep;rfl;rfl)|(apply dq;rfl;rfl));all_goals intro h_)|(apply Vw;rfl;(apply cj;rfl;rfl;rfl))|(apply ac;rfl)|apply ak|apply ah|apply ai|(apply ae;rfl)|(apply af;rfl)|(apply bf _ (.inr rfl);(exact List.prefix_append _ _);(focus repeat (first|apply a8|(apply a9;rfl)));rfl)|apply ap|apply aw|(exfalso;omega))
    all_goals first|rfl|(exfalso;omega)
  · rw [h] at h36
    dsimp only [vIx] at h36
    refine am [] [] Tryz.func14 rfl Tryz.ntmps14 Tryz.results14 ?_
    repeat' (first|apply ab|(apply V;rfl;(first|(apply bl;rfl)|(apply bg;rfl)|(apply cb;(apply plT;rfl);rfl;rfl;decide)|(apply bj;(apply tyT;rfl);rfl;(apply at_;rfl;rfl);rfl)|(apply bz;(apply tyT;rfl);rfl;(apply at_;rfl;rfl);rfl)))|(apply Vp;rfl;rfl;apply fnT;rfl;apply h36;(first|(apply aa;assumption)|assumption);rintro _ rfl)|(apply Vd;rfl;(first|(apply ep;rfl;rfl)|(apply dq;rfl;rfl));all_goals intro h_)|(apply Vw;rfl;(apply cj;rfl;rfl;rfl))|(apply ac;rfl)|apply ak|apply ah|apply ai|(apply ae;rfl)|(apply af;rfl)|(apply bf _ (.inr rfl);(exact List.prefix_append _ _);(focus repeat (first|apply a8|(apply a9;rfl)));rfl)|apply ap|(exfalso;omega))
    all_goals first|rfl|(exfalso;omega)
end
end Go.Proofs.YtinffhimfoicdaaGreat
namespace Go.Proofs.YtinffhimfoicdaaGreat
open Go Go.RowKit Go.Proofs.YtinffhimfoicdaaGreat.Calc
set_option linter.unusedVariables false
set_option linter.unusedSimpArgs false
set_option maxRecDepth 100000
set_option maxHeartbeats 8000000
def ja1 (fs:List Fi):List Vl:=fs.map fun f=>jv f.typ
theorem tj (fs:List Fi):(ja1 fs).length = fs.length:=List.length_map ..
structure StOK (b:Nat) (q:List Cl) (ss:List (Nat × Nat)) (M:List (List (Value × DV))):Prop where
  le:b ≤ M.length
  len:ss.length = q.length
  row:∀(c:Nat) cl m n,q[c]? = some cl → ss[c]? = some (m,n) → n = cl.fields.length ∧(n ≠ 0 → b ≤ m ∧ M[m]? = some (y6 (ja1 cl.fields)))
  dist:∀(c c' m n n':Nat),ss[c]? = some (m,n) → ss[c']? = some (m,n') → n ≠ 0 → n' ≠ 0 → c = c'
theorem StOK.nil (M:List (List (Value × DV))):StOK M.length [] [] M:=⟨Nat.le_refl _,rfl,nofun,nofun⟩
theorem vk {T T':List Nat} {M M':List (List (Value × DV))} {tg:Nat} {vs:List Vl} {dv:DV} (h:jay T M tg (vs.flatMap g9) vs.length T' M' dv) :
    dv = jd0 M.length vs.length ∧(T' = T ∨ ∃ k,T' = T.set tg k) ∧((vs.length = 0 ∧ M' = M) ∨(vs.length ≠ 0 ∧ M' = M ++ [y6 vs])):=by
  rcases h with ⟨h1,h2,rfl,rfl,rfl⟩|⟨h1,rfl,rfl,rfl⟩
  · exact ⟨by rw [h2];rfl,.inl rfl,.inl ⟨h2,rfl⟩⟩
  · have hn:vs.length ≠ 0:=fun e=>h1 (by rw [List.eq_nil_of_length_eq_zero e];rfl)
    exact ⟨by rw [th hn],.inr ⟨_,rfl⟩,.inr ⟨hn,rfl⟩⟩
theorem StOK.add {b:Nat} {q:List Cl} {ss:List (Nat × Nat)} {M M':List (List (Value × DV))} (h:StOK b q ss M) (cl:Cl) (hM:(cl.fields.length = 0 ∧ M' = M) ∨(cl.fields.length ≠ 0 ∧ M' = M ++ [y6 (ja1 cl.fields)])):StOK b (q ++ [cl]) (ss ++ [(M.length,cl.fields.length)]) M':=by
  have hle:=h.le
  have hpre:∀ {m:Nat} {x:List (Value × DV)},M[m]? = some x → M'[m]? = some x:=fun {m x} hx=>by
    rcases hM with ⟨_,rfl⟩|⟨_,rfl⟩
    · exact hx
    · rw [List.getElem?_append_left (List.getElem?_eq_some_iff.1 hx).1]
      exact hx
  have hlow:∀ {c m n:Nat},ss[c]? = some (m,n) → n ≠ 0 → m < M.length:=fun {c m n} hc hn=>by
    have hlt:=(List.getElem?_eq_some_iff.1 hc).1
    obtain ⟨cl',hcl⟩:∃ cl',q[c]? = some cl':=⟨_,List.getElem?_eq_getElem (by rw [← h.len];exact hlt)⟩
    exact (List.getElem?_eq_some_iff.1 ((h.row c cl' m n hcl hc).2 hn).2).1
  refine ⟨?_,by simp [h.len],fun c cl' m n hq hs=>?_,fun c c' m n n' h1 h2 hn hn'=>?_⟩
  · rcases hM with ⟨_,rfl⟩|⟨_,rfl⟩
    · exact hle
    · rw [List.length_append]
      omega
  · by_cases hc:c < q.length
    · rw [List.getElem?_append_left hc] at hq
      rw [List.getElem?_append_left (by rw [h.len];exact hc)] at hs
      obtain ⟨a1,a2⟩:=h.row c cl' m n hq hs
      exact ⟨a1,fun hn=>⟨(a2 hn).1,hpre (a2 hn).2⟩⟩
    · have hlt:=(List.getElem?_eq_some_iff.1 hq).1
      simp only [List.length_append,List.length_singleton] at hlt
      obtain rfl:c = q.length:=by omega
      rw [← h.len] at hs
      have e1:cl = cl':=by simpa using hq
      have e2:(M.length,cl.fields.length) =(m,n):=by simpa using hs
      subst e1
      simp only [Prod.mk.injEq] at e2
      obtain ⟨rfl,rfl⟩:=e2
      refine ⟨rfl,fun hn=>⟨hle,?_⟩⟩
      rcases hM with ⟨h0,_⟩|⟨_,rfl⟩
      · exact absurd h0 hn
      · simp
  · have key:∀ {c m n:Nat},(ss ++ [(M.length,cl.fields.length)])[c]? = some (m,n) → n ≠ 0 →(c < ss.length ∧ ss[c]? = some (m,n) ∧ m < M.length) ∨(c = ss.length ∧ m = M.length):=fun {c m n} hc hn=>by
      by_cases hlt:c < ss.length
      · rw [List.getElem?_append_left hlt] at hc
        exact .inl ⟨hlt,hc,hlow hc hn⟩
      · have hl:=(List.getElem?_eq_some_iff.1 hc).1
        simp only [List.length_append,List.length_singleton] at hl
        obtain rfl:c = ss.length:=by omega
        have e2:(M.length,cl.fields.length) =(m,n):=by simpa using hc
        simp only [Prod.mk.injEq] at e2
        exact .inr ⟨rfl,e2.1.symm⟩
    rcases key h1 hn with ⟨_,a1,a2⟩|⟨a1,a2⟩ <;> rcases key h2 hn' with ⟨_,b1,b2⟩|⟨b1,b2⟩
    · exact h.dist c c' m n n' a1 b1 hn hn'
    · omega
    · omega
    · omega
section
variable {C:Cx} {c:Code} {ρ:Rg} {S L:List (List BV × Nat)} {T X:List Nat} {M:List (List (Value × DV))} {Q:nl} {nt k ty j:Nat} {cs:List BV}
theorem jhp (e sz:Nat) (hT:T.length = nt) (hk:L[k]? = some (cs,ty)) (hj:cs[j]? = some (.tight [] 0)) (h:Tri C c ρ ⟨S ++ L.set k (cs.set j (.own e sz (nt + X.length) [] 0),ty),T ++(X ++ [0]),M⟩ Q):Tri C c ρ ⟨S ++ L,T ++ X,M⟩ Q:=by
  refine j4 e sz (id:=S.length + k) (at_ rfl hk) hj ?_
  rw [wy rfl,wz hT,List.append_assoc]
  exact h
theorem jc7 (e sz:Nat) (hT:T.length = nt) (hk:L[k]? = some (cs,ty)) (hj:cs[j]? = some (.tight [] 0)) (h:Tri C c ρ ⟨S ++ L.set k (cs.set j (.fresh e sz (nt + X.length) [] 0),ty),T ++(X ++ [0]),M⟩ Q):Tri C c ρ ⟨S ++ L,T ++ X,M⟩ Q:=by
  refine jc4 e sz (id:=S.length + k) (at_ rfl hk) hj ?_
  rw [wy rfl,wz hT,List.append_assoc]
  exact h
end
section
variable {P:Program} {ok:Nat → Bool} {S:List (List BV × Nat)} {T X:List Nat} {M:List (List (Value × DV))} {ρ:Rg} {x:Operand} {t e nt m n:Nat}
theorem ju8 {ag:Bool} {z:List BV} (hT:T.length = nt) (he:u9 P t = some (e,1)) (ht:pi P e = some (ag,1,z)) (hz:z.length = 1) (hx:evB ρ x = some (.d (jd0 m n))) :
    db P ok ⟨S,T ++ X,M⟩ ρ (.buildSlice t 1 #[(0,x)]) = some (⟨S,T ++(X ++ [1]),M⟩,some (.own e 1 (nt + X.length) [jd0 m n] 1)):=by
  match z,hz with
  | [z0],_ =>
    unfold jd0 at *
    split at hx
    · rename_i h
      rw [if_pos h]
      exact d8 (ds:=[.sl [] 0]) hT he ht rfl (by decide) (by simp [nf,hx,f6,jhd,dh,jak,mi,jhc,toD]) rfl
    · rename_i h
      rw [if_neg h]
      exact d8 (ds:=[.row m n]) hT he ht rfl (by decide) (by simp [nf,hx,f6,jhd,dh,jak,mi,jhc,toD]) rfl
theorem ju9 {ag:Bool} {z:List BV} {c:ByteArray} {fs:List Tg} (hT:T.length = nt) (he:u9 P t = some (e,3)) (ht:pi P e = some (ag,3,z)) (hz:z.length = 3) (hx:evB ρ x = some (.agg [.d (.flat (.string c)),.d (cy mn fs),.d (jd0 m n)])) :
    db P ok ⟨S,T ++ X,M⟩ ρ (.buildSlice t 1 #[(0,x)]) = some (⟨S,T ++(X ++ [3]),M⟩,some (.own e 3 (nt + X.length) [.flat (.string c),cy mn fs,jd0 m n] 1)):=by
  match z,hz with
  | [z0,z1,z2],_ =>
    unfold jd0 at *
    split at hx
    · rename_i h
      rw [if_pos h]
      exact d8 (ds:=[.flat (.string c),cy mn fs,.sl [] 0]) hT he ht rfl (by decide) (by simp [nf,hx,f6,jhd,dh,jak,mi,jhc,toD]) rfl
    · rename_i h
      rw [if_neg h]
      exact d8 (ds:=[.flat (.string c),cy mn fs,.row m n]) hT he ht rfl (by decide) (by simp [nf,hx,f6,jhd,dh,jak,mi,jhc,toD]) rfl
end
attribute [local irreducible] Tri ew er ci bn db d7 inQ jb jhl
theorem sp9 (p:List Cl) (hp:rf p) (S:List (List BV × Nat)) (T:List Nat) (M:List (List (Value × DV))):ci Tryz.prog [] [] 9 [vP p] ⟨S,T,M⟩ (fun r s=>r = .ptr (S.length + 1) 0 ∧ ∃ ss N,s = ⟨S ++ [([.d (cy df p)],26),([.d (cy df p),.tight [] 0,.d (cy qm ss)],54)],T,M ++ N⟩ ∧ StOK M.length p ss (M ++ N)):=by
  have hp1:=hp.1
  refine jcr [] [] Tryz.func9 rfl Tryz.ntmps9 Tryz.results9 ?_
  repeat' (first|apply ab|(apply V;rfl;(first|(apply bg;rfl)|(apply bj;(apply tyT;rfl);rfl;(apply at_;rfl;rfl);rfl)|(apply ed;(apply plT;rfl);rfl)))|(apply Vw;rfl;(apply cj;rfl;rfl;rfl))|(apply ac;rfl)|apply ak|apply aj)
  refine jhp (k:=1) (j:=2) 62 1 rfl rfl rfl ?_
  refine nu (fun i:Nat × List (Nat × Nat)=>p.length - i.1) (fun i=>[(1,.ptr (S.length + 0) 0),(3,.ptr (S.length + 1) 0),(4,vI i.1)]) (fun i S1 T1 M1=>i.1 ≤ p.length ∧ S.length + 2 ≤ S1.length ∧ T <+: T1 ∧ M <+: M1 ∧ S1[S.length + 0]? = some ([.d (cy df p)],26) ∧ S1[S.length + 1]? = some ([.d (cy df p),.tight [] 0,.own 62 1 (T.length + 0) (i.2.flatMap qm) i.2.length],54) ∧ T1[T.length + 0]? = some (i.2.flatMap qm).length ∧ StOK M.length (p.take i.1) i.2 M1) (0,[]) ⟨Nat.zero_le _,by simp,by simp,List.prefix_refl _,at_ rfl rfl,at_ rfl rfl,at_ rfl rfl,StOK.nil _⟩ ⟨rfl,rfl,rfl,trivial⟩ ?_
  rintro ⟨i,ss⟩ S1 T1 M1 ⟨hi,hS,hT,hM,hb0,hb1,hTg,hst⟩
  dsimp only at *
  repeat' (first|apply ab|(apply V;rfl;(first|(apply bl;rfl)|(apply bg;rfl)|(apply cb;(apply plT;rfl);rfl;rfl;decide)|(apply bz;(apply tyT;rfl);rfl;(apply aa;assumption);rfl)|(apply bq;(apply elT;rfl);rfl;rfl)))|(apply Vd;rfl;(apply cu;rfl;rfl);all_goals intro h_)|(apply ac;rfl)|apply ak|apply aj|apply ah|apply bd|apply ai|(apply ae;rfl)|(apply af;rfl)|apply ap|apply ey|apply bo)
  · obtain ⟨cl,hc⟩:∃ cl,p[i]? = some cl:=⟨_,List.getElem?_eq_getElem (by omega)⟩
    have hfl:=hp.2 cl (List.mem_of_getElem? hc)
    repeat' (first|apply ab|(apply V;rfl;(first|(apply bl;rfl)|(apply bg;rfl)|(apply cb;(apply plT;rfl);rfl;rfl;decide)|(apply fz;(apply plT;rfl);rfl;rfl;decide)|(apply bj;(apply tyT;rfl);rfl;(first|(apply at_;rfl;rfl)|(apply aa;assumption)|(apply aq;assumption));rfl)|(apply bz;(apply tyT;rfl);rfl;(first|(apply at_;rfl;rfl)|(apply aa;assumption)|(apply aq;assumption));rfl)|(apply dp;(apply tyT;rfl);rfl;(first|rfl|apply ay|apply ba))|(apply ef;(apply tyT;rfl);rfl;rfl)|(apply bq;(apply elT;rfl);rfl;rfl)|(apply fx;(apply udT;rfl);rfl)|(apply ck;rfl)|(apply jeb;rfl)|(apply jec;rfl)|(apply ca;rfl;rfl)|(apply bu;rfl;rfl)|(apply eu;rfl;rfl)|(apply cg;rfl)|(apply ed;(apply plT;rfl);rfl)|(apply jb6;rfl)|(apply kt;rfl;(apply udT;rfl);(apply udT;rfl))|(apply nq;(apply udT;rfl);rfl;rfl;omega)|(apply az;rfl;rfl;rfl;omega)|(apply ei;rfl;rfl;rfl;omega)|(apply qd;rfl;rfl)|(apply rc;rfl;rfl)|(apply jd9;rfl;rfl)|(apply jcm;rfl;rfl)|(apply jea;rfl;rfl)|(apply y8;rfl;rfl)|(apply jnv;rfl;rfl)|(apply jcn;rfl;rfl;(first|decide|apply qe|omega))|(apply ug;(apply udT;rfl);rfl;rfl;rfl;(first|exact .inr ⟨_,_,rfl,by omega,rfl⟩|exact .inl ⟨rfl,rfl⟩);(first|exact .inr ⟨_,_,rfl,by omega,rfl⟩|exact .inl ⟨rfl,rfl⟩);(first|omega|(simp only [ByteArray.size_append,ByteArray.size_extract,cw,List.size_toArray,List.length_cons,List.length_nil,List.length_append] at *;omega));(first|omega|(simp only [ByteArray.size_append,ByteArray.size_extract,cw,List.size_toArray,List.length_cons,List.length_nil,List.length_append] at *;omega)))|(apply kr;rfl;rfl;(first|omega|(simp only [ByteArray.size_append,ByteArray.size_extract,cw,List.size_toArray,List.length_cons,List.length_nil,List.length_append] at *;omega)))))|(apply Vd;rfl;(first|(apply cu;rfl;rfl)|(apply mj;rfl;rfl)|(apply gj;rfl;rfl)|(apply ep;rfl;rfl)|(apply dq;rfl;rfl)|(apply fb;rfl;rfl)|(apply du;rfl;rfl)|(apply fy;rfl;rfl));all_goals intro h_)|(apply Vo;rfl)|(apply Vw;rfl;(first|(apply cd;rfl;(apply tyT;rfl))|(apply cj;rfl;rfl;rfl)|(apply d8;rfl;(apply elT;rfl);(apply tyT;rfl);rfl;decide;rfl;rfl)))|(apply Vs;rfl;(first|(apply jm;(apply tyT;rfl);rfl;rfl;assumption;(apply bm;simp);rfl;rfl;(first|decide|(apply Nat.le_of_ble_eq_true;rfl)))|(apply bw;rfl;(apply tyT;rfl);rfl;rfl;rfl;(first|apply bc|(apply bh;omega));rfl;rfl;(first|decide|(apply Nat.le_of_ble_eq_true;rfl)))|(apply fg;(apply tyT;rfl);rfl;rfl;assumption;(apply bm;simp);rfl;rfl;(first|decide|(apply Nat.le_of_ble_eq_true;rfl)))))|(apply ac;rfl)|apply ak|(apply al;rfl)|apply aj|apply ah|apply bd|apply ai|(apply ae;rfl)|(apply af;rfl)|(apply bf _ (.inr rfl);(first|exact List.prefix_append _ _|assumption|(apply av;assumption)|(apply av;apply dc <;> assumption)|exact List.prefix_refl _);(focus repeat (first|apply a8|(apply a9;rfl)|(apply cp;rfl;rfl;apply tyT;rfl;rfl;rfl)|(apply ez;rfl;apply tyT;rfl;assumption;rfl)));rfl)|(apply bf _ (.inl rfl);(first|exact List.prefix_append _ _|assumption|(apply av;assumption)|(apply av;apply dc <;> assumption)|exact List.prefix_refl _);(focus repeat (first|apply a8|(apply a9;rfl)|(apply cp;rfl;rfl;apply tyT;rfl;rfl;rfl)|(apply ez;rfl;apply tyT;rfl;assumption;rfl)));rfl)|(apply fm _ (.inr rfl);(first|exact List.prefix_append _ _|assumption|(apply av;assumption)|(apply av;apply dc <;> assumption)|exact List.prefix_refl _);(focus repeat (first|apply a8|(apply a9;rfl)|(apply cp;rfl;rfl;apply tyT;rfl;rfl;rfl)|(apply ez;rfl;apply tyT;rfl;assumption;rfl)));rfl;(first|(apply aq;assumption)|(apply aa;assumption));rfl;rfl)|(apply fm _ (.inl rfl);(first|exact List.prefix_append _ _|assumption|(apply av;assumption)|(apply av;apply dc <;> assumption)|exact List.prefix_refl _);(focus repeat (first|apply a8|(apply a9;rfl)|(apply cp;rfl;rfl;apply tyT;rfl;rfl;rfl)|(apply ez;rfl;apply tyT;rfl;assumption;rfl)));rfl;(first|(apply aq;assumption)|(apply aa;assumption));rfl;rfl)|apply ap|apply ey|apply cq|apply dm|apply aw|(apply jp3;rfl)|apply bo|apply dg|(apply tV;rfl;rfl;(first|(apply bl;rfl)|(apply bg;rfl)|(apply cb;(apply plT;rfl);rfl;rfl;decide)|(apply fz;(apply plT;rfl);rfl;rfl;decide)|(apply bj;(apply tyT;rfl);rfl;(first|(apply at_;rfl;rfl)|(apply aa;assumption)|(apply aq;assumption));rfl)|(apply bz;(apply tyT;rfl);rfl;(first|(apply at_;rfl;rfl)|(apply aa;assumption)|(apply aq;assumption));rfl)|(apply dp;(apply tyT;rfl);rfl;(first|rfl|apply ay|apply ba))|(apply ef;(apply tyT;rfl);rfl;rfl)|(apply bq;(apply elT;rfl);rfl;rfl)|(apply fx;(apply udT;rfl);rfl)|(apply ck;rfl)|(apply jeb;rfl)|(apply jec;rfl)|(apply ca;rfl;rfl)|(apply bu;rfl;rfl)|(apply eu;rfl;rfl)|(apply cg;rfl)|(apply ed;(apply plT;rfl);rfl)|(apply jb6;rfl)|(apply kt;rfl;(apply udT;rfl);(apply udT;rfl))|(apply nq;(apply udT;rfl);rfl;rfl;omega)|(apply az;rfl;rfl;rfl;omega)|(apply ei;rfl;rfl;rfl;omega)|(apply qd;rfl;rfl)|(apply rc;rfl;rfl)|(apply jd9;rfl;rfl)|(apply jcm;rfl;rfl)|(apply jea;rfl;rfl)|(apply y8;rfl;rfl)|(apply jnv;rfl;rfl)|(apply jcn;rfl;rfl;(first|decide|apply qe|omega))|(apply ug;(apply udT;rfl);rfl;rfl;rfl;(first|exact .inr ⟨_,_,rfl,by omega,rfl⟩|exact .inl ⟨rfl,rfl⟩);(first|exact .inr ⟨_,_,rfl,by omega,rfl⟩|exact .inl ⟨rfl,rfl⟩);(first|omega|(simp only [ByteArray.size_append,ByteArray.size_extract,cw,List.size_toArray,List.length_cons,List.length_nil,List.length_append] at *;omega));(first|omega|(simp only [ByteArray.size_append,ByteArray.size_extract,cw,List.size_toArray,List.length_cons,List.length_nil,List.length_append] at *;omega)))|(apply kr;rfl;rfl;(first|omega|(simp only [ByteArray.size_append,ByteArray.size_extract,cw,List.size_toArray,List.length_cons,List.length_nil,List.length_append] at *;omega))));rfl)|(apply tVd;rfl;rfl;(first|(apply cu;rfl;rfl)|(apply mj;rfl;rfl)|(apply gj;rfl;rfl)|(apply ep;rfl;rfl)|(apply dq;rfl;rfl)|(apply fb;rfl;rfl)|(apply du;rfl;rfl)|(apply fy;rfl;rfl));rfl;all_goals intro h_)|(apply tVo;rfl;rfl)|(apply oV;rfl;rfl;(first|(apply bl;rfl)|(apply bg;rfl)|(apply cb;(apply plT;rfl);rfl;rfl;decide)|(apply fz;(apply plT;rfl);rfl;rfl;decide)|(apply bj;(apply tyT;rfl);rfl;(first|(apply at_;rfl;rfl)|(apply aa;assumption)|(apply aq;assumption));rfl)|(apply bz;(apply tyT;rfl);rfl;(first|(apply at_;rfl;rfl)|(apply aa;assumption)|(apply aq;assumption));rfl)|(apply dp;(apply tyT;rfl);rfl;(first|rfl|apply ay|apply ba))|(apply ef;(apply tyT;rfl);rfl;rfl)|(apply bq;(apply elT;rfl);rfl;rfl)|(apply fx;(apply udT;rfl);rfl)|(apply ck;rfl)|(apply jeb;rfl)|(apply jec;rfl)|(apply ca;rfl;rfl)|(apply bu;rfl;rfl)|(apply eu;rfl;rfl)|(apply cg;rfl)|(apply ed;(apply plT;rfl);rfl)|(apply jb6;rfl)|(apply kt;rfl;(apply udT;rfl);(apply udT;rfl))|(apply nq;(apply udT;rfl);rfl;rfl;omega)|(apply az;rfl;rfl;rfl;omega)|(apply ei;rfl;rfl;rfl;omega)|(apply qd;rfl;rfl)|(apply rc;rfl;rfl)|(apply jd9;rfl;rfl)|(apply jcm;rfl;rfl)|(apply jea;rfl;rfl)|(apply y8;rfl;rfl)|(apply jnv;rfl;rfl)|(apply jcn;rfl;rfl;(first|decide|apply qe|omega))|(apply ug;(apply udT;rfl);rfl;rfl;rfl;(first|exact .inr ⟨_,_,rfl,by omega,rfl⟩|exact .inl ⟨rfl,rfl⟩);(first|exact .inr ⟨_,_,rfl,by omega,rfl⟩|exact .inl ⟨rfl,rfl⟩);(first|omega|(simp only [ByteArray.size_append,ByteArray.size_extract,cw,List.size_toArray,List.length_cons,List.length_nil,List.length_append] at *;omega));(first|omega|(simp only [ByteArray.size_append,ByteArray.size_extract,cw,List.size_toArray,List.length_cons,List.length_nil,List.length_append] at *;omega)))|(apply kr;rfl;rfl;(first|omega|(simp only [ByteArray.size_append,ByteArray.size_extract,cw,List.size_toArray,List.length_cons,List.length_nil,List.length_append] at *;omega)))))|(apply oVd;rfl;rfl;(first|(apply cu;rfl;rfl)|(apply mj;rfl;rfl)|(apply gj;rfl;rfl)|(apply ep;rfl;rfl)|(apply dq;rfl;rfl)|(apply fb;rfl;rfl)|(apply du;rfl;rfl)|(apply fy;rfl;rfl));all_goals intro h_)|(apply oVo;rfl;rfl)|(apply oW;rfl;rfl;(first|(apply cd;rfl;(apply tyT;rfl))|(apply cj;rfl;rfl;rfl)|(apply d8;rfl;(apply elT;rfl);(apply tyT;rfl);rfl;decide;rfl;rfl)))|(apply oS;rfl;rfl;(first|(apply jm;(apply tyT;rfl);rfl;rfl;assumption;(apply mz <;> simp);rfl;rfl;(first|decide|(apply Nat.le_of_ble_eq_true;rfl)))|(apply bw;rfl;(apply tyT;rfl);rfl;rfl;rfl;(first|(apply jl;rfl)|(apply mb;omega;rfl));rfl;rfl;(first|decide|(apply Nat.le_of_ble_eq_true;rfl)))|(apply fg;(apply tyT;rfl);rfl;rfl;assumption;(apply mz <;> simp);rfl;rfl;(first|decide|(apply Nat.le_of_ble_eq_true;rfl))))))
    refine jix 5 39 3 rfl rfl ?_
    refine cx (fun q:Nat × List Vl=>cl.fields.length - q.1) (fun q=>[(1,.ptr (S.length + 0) 0),(3,.ptr (S.length + 1) 0),(4,vI i),(5,.fresh 39 3 (T1.length + 0) (q.2.flatMap g9) q.2.length),(6,vI q.1)]) (fun q S2 T2=>q.1 ≤ cl.fields.length ∧ q.2 = ja1 (cl.fields.take q.1) ∧ S.length + 2 ≤ S2.length ∧ T1 <+: T2 ∧ S2[S.length + 0]? = some ([.d (cy df p)],26) ∧ S2[S.length + 1]? = some ([.d (cy df p),.tight [] 0,.own 62 1 (T.length + 0) (ss.flatMap qm) ss.length],54) ∧ T2[T1.length + 0]? = some (q.2.flatMap g9).length) (0,[]) ⟨Nat.zero_le _,rfl,by simp only [List.length_append];omega,by simp,aa hb0,aa hb1,at_ rfl rfl⟩ ⟨rfl,rfl,rfl,rfl,rfl,trivial⟩ ?_
    rintro ⟨j,vs⟩ S2 T2 ⟨hj,hvs,hS2,hT2,hb02,hb12,hTg2⟩
    dsimp only at *
    have hvl:vs.length = j:=by rw [hvs,tj,List.length_take];omega
    by_cases hlt:j < cl.fields.length
    · obtain ⟨f,hf⟩:∃ f,cl.fields[j]? = some f:=⟨_,List.getElem?_eq_getElem hlt⟩
      have h21:=ju3 f.typ
      have hTgt:(T2 ++([] ++ [3]))[T1.length + 0]? = some (vs.flatMap g9).length:=aa hTg2
      repeat' (first|apply ab|(apply V;rfl;(first|(apply bl;rfl)|(apply bg;rfl)|(apply cb;(apply plT;rfl);rfl;rfl;decide)|(apply fz;(apply plT;rfl);rfl;rfl;decide)|(apply bz;(apply tyT;rfl);rfl;(apply aa;assumption);rfl)|(apply ef;(apply tyT;rfl);rfl;rfl)|(apply bq;(apply elT;rfl);rfl;rfl)|(apply ck;rfl)|(apply az;rfl;rfl;rfl;omega)|(apply bp (c:=cl);apply elT;rfl;rfl;rfl;rfl;exact da;omega;simpa using hc)|(apply bp (c:=f);apply elT;rfl;rfl;rfl;rfl;exact dx;omega;simpa using hf)))|(apply Vp;rfl;rfl;apply fnT;rfl;apply h21;rintro _ rfl)|(apply VR;rfl;apply jiu;rfl;apply elT;rfl;apply tyT;rfl;apply byT;rfl;rfl;rfl;rfl;decide;rfl;decide;rfl;omega;(simp only [maxLen];omega);exact hTgt)|(apply Vd;rfl;(apply cu;rfl;rfl);all_goals intro h_)|(apply Vw;rfl;(apply d8;rfl;(apply elT;rfl);(apply tyT;rfl);rfl;decide;rfl;rfl))|(apply ac;rfl)|apply ak|(apply al;rfl)|apply aj|apply ah|apply bd|(apply ae;rfl)|(apply af;rfl)|apply ap|apply ey|apply cq|apply bo|(exfalso;omega))
      have e1:(vs ++ [jv f.typ]).flatMap g9 = vs.flatMap g9 ++ g9 (jv f.typ):=by simp
      have e2:(vs ++ [jv f.typ]).length = vs.length + 1:=by simp
      refine ⟨(j + 1,vs ++ [jv f.typ]),S2 ++ [],(T2 ++([] ++ [3])).set (T1.length + 0) ((vs ++ [jv f.typ]).flatMap g9).length,by dsimp only;omega,⟨by dsimp only;omega,?_,by simp only [List.length_append];omega,dc (av hT2) (by omega),aa hb02,aa hb12,List.getElem?_set_self (List.getElem?_eq_some_iff.1 hTgt).1⟩,⟨rfl,rfl,rfl,?_,di (by dsimp only;omega),trivial⟩,?_⟩
      · dsimp only
        rw [List.take_add_one,hf,hvs]
        simp [ja1]
      · dsimp only
        rw [e1,e2]
        rfl
      · rw [e1]
        rfl
    · have hvz:vs = ja1 cl.fields:=by rw [hvs,List.take_of_length_le (by omega)]
      have hTl:T.length + 0 < T1.length:=(List.getElem?_eq_some_iff.1 hTg).1
      have hTgs:(T2 ++ [])[T1.length + 0]? = some (vs.flatMap g9).length:=aa hTg2
      have hTb:T2[T.length + 0]? = some (ss.flatMap qm).length:=by
        obtain ⟨X,rfl⟩:=hT2
        exact aa hTg
      have hsl:ss.length = i:=by
        rw [hst.len,List.length_take]
        omega
      repeat' (first|apply ab|(apply V;rfl;(first|(apply bl;rfl)|(apply bg;rfl)|(apply cb;(apply plT;rfl);rfl;rfl;decide)|(apply fz;(apply plT;rfl);rfl;rfl;decide)|(apply bz;(apply tyT;rfl);rfl;(apply aa;assumption);rfl)|(apply ef;(apply tyT;rfl);rfl;rfl)|(apply bq;(apply elT;rfl);rfl;rfl)|(apply ck;rfl)|(apply az;rfl;rfl;rfl;omega)|(apply bp (c:=cl);apply elT;rfl;rfl;rfl;rfl;exact da;omega;simpa using hc)))|(show Tri _ (.region 10 _ _) _ _ _;refine jho 5 rfl hTgs (by decide) ?_;rintro T' M' dv hset;obtain ⟨rfl,hT',hM'⟩:=vk hset;(have hpT:T <+: T':=(by rcases hT' with rfl|⟨k,rfl⟩;exact av (hT.trans hT2);exact dc (av (hT.trans hT2)) (by omega)));(have hTc:T'[T.length + 0]? = some (ss.flatMap qm).length:=(by rcases hT' with rfl|⟨k,rfl⟩;exact aa hTb;rw [List.getElem?_set_ne (by omega)];exact aa hTb));rw [← List.append_nil T'])|(apply Vw;rfl;(apply ju8;rfl;apply elT;rfl;apply tyT;rfl;rfl;rfl))|(apply Vs;rfl;(apply fg;(apply tyT;rfl);rfl;rfl;assumption;(apply bh;omega);rfl;rfl;(first|decide|(apply Nat.le_of_ble_eq_true;rfl))))|(apply Vd;rfl;(apply cu;rfl;rfl);all_goals intro h_)|(apply Vw;rfl;(apply mf;(apply elT;rfl);(apply tyT;rfl);(apply byT;rfl);rfl;rfl;rfl;decide;rfl;(apply ee (f:=qm) (c:=(M1.length,vs.length));omega;omega;assumption)))|(apply ac;rfl)|apply ak|(apply al;rfl)|apply aj|apply ah|apply bd|(apply ae;rfl)|(apply af;rfl)|apply ap|apply ey|apply cq|apply bo|(exfalso;omega))
      have hS2l:S.length + 1 < S2.length:=by omega
      have hvn:vs.length = cl.fields.length:=by rw [hvz,tj]
      have hMM:M <+: M':=by
        rcases hM' with ⟨_,rfl⟩|⟨_,rfl⟩
        · exact hM
        · exact hM.trans (List.prefix_append _ _)
      refine ⟨(i + 1,ss ++ [(M1.length,vs.length)]),_,_,_,by dsimp only;omega,⟨by dsimp only;omega,by simp only [List.length_append,List.length_set];omega,av (dc hpT (by omega)),hMM,?_,aa (List.getElem?_set_self hS2l),aa (List.getElem?_set_self (List.getElem?_eq_some_iff.1 hTc).1),?_⟩,⟨rfl,rfl,di (by dsimp only;omega),trivial⟩,rfl⟩
      · refine aa ?_
        rw [List.getElem?_set_ne (by omega)]
        exact hb02
      · dsimp only
        rw [List.take_add_one,hc,hvn]
        refine hst.add cl ?_
        rw [← hvn,← hvz]
        exact hM'
  · rw [List.take_of_length_le (by omega)] at hst
    obtain ⟨N,rfl⟩:=hM
    exact jmx (l':=[.ptr (S.length + 1) 0]) _ (.inr rfl) (av hT) (a9 rfl a8) (by simp [my,low]) (aa hb0) (aa hb1) rfl (by simp [my,low]) ⟨rfl,ss,N,rfl,hst⟩
end Go.Proofs.YtinffhimfoicdaaGreat
namespace Go.Proofs.YtinffhimfoicdaaGreat
open Go Go.RowKit Go.Proofs.YtinffhimfoicdaaGreat.Calc
set_option linter.unusedVariables false
set_option linter.unusedSimpArgs false
set_option maxRecDepth 100000
set_option maxHeartbeats 8000000
attribute [local irreducible] Tri ew er ci bn db d7 inQ jb jhl
def yk (p:List Cl) (fs:List Tg):List Vl:=fs.map fun k=>jv ((sy p k).getD fi0).typ
theorem tk (p:List Cl) (fs:List Tg):(yk p fs).length = fs.length:=List.length_map ..
section
variable (p:List Cl) (tg:Nat) (lo:List ObR) (ss:List (Nat × Nat))
theorem jlc (hp:p.length ≤ 1000000) (cls:ByteArray) (hl:lo.length ≤ 1000) (hb:200 ≤ lo.length ∨ isC p cls = false):RHC p tg lo ss 12 (fun id=>[.ptr id 0,vS cls]) (fun r=>r = .tup [vVl vl0,vB false]):=by
  have h31:=jmu p cls hp
  intro S T M id hid
  refine am [] [] Tryz.func12 rfl Tryz.ntmps12 Tryz.results12 ?_
  cases hc:isC p cls
  · rw [hc] at h31
    repeat' (first|apply ab|(apply V;rfl;(first|(apply bl;rfl)|(apply bg;rfl)|(apply cb;(apply plT;rfl);rfl;rfl;decide)|(apply bz;(apply tyT;rfl);rfl;(apply aa;assumption);rfl)|(apply bq;(apply elT;rfl);rfl;rfl)|(apply ck;rfl)|(apply ca;rfl;rfl)|(apply bu;rfl;rfl)|(apply cg;rfl)|(apply ed;(apply plT;rfl);rfl)))|(apply Vp;rfl;rfl;apply fnT;rfl;apply h31;rintro _ rfl)|(apply Vd;rfl;(apply ep;rfl;rfl);all_goals intro h_)|(apply Vo;rfl)|(apply Vw;rfl;(apply cd;rfl;(apply tyT;rfl)))|(apply Vs;rfl;(apply bw;rfl;(apply tyT;rfl);rfl;rfl;rfl;(first|apply bc|(apply bh;omega));rfl;rfl;(first|decide|(apply Nat.le_of_ble_eq_true;rfl))))|(apply ac;rfl)|apply ak|apply ai|(apply ae;rfl)|(apply bf _ (.inr rfl);(exact List.prefix_append _ _);(focus repeat (first|apply a8|(apply a9;rfl)|(apply cp;rfl;rfl;apply tyT;rfl;rfl;rfl)));rfl)|apply aw)
    all_goals first|rfl|contradiction|(exfalso;omega)
  · rw [hc] at h31 hb
    have h200:200 ≤ lo.length:=by simpa using hb
    repeat' (first|apply ab|(apply V;rfl;(first|(apply bl;rfl)|(apply bg;rfl)|(apply cb;(apply plT;rfl);rfl;rfl;decide)|(apply bz;(apply tyT;rfl);rfl;(apply aa;assumption);rfl)|(apply bq;(apply elT;rfl);rfl;rfl)|(apply ck;rfl)|(apply ca;rfl;rfl)|(apply bu;rfl;rfl)|(apply cg;rfl)|(apply ed;(apply plT;rfl);rfl)))|(apply Vp;rfl;rfl;apply fnT;rfl;apply h31;rintro _ rfl)|(apply Vd;rfl;(apply ep;rfl;rfl);all_goals intro h_)|(apply Vo;rfl)|(apply Vw;rfl;(apply cd;rfl;(apply tyT;rfl)))|(apply Vs;rfl;(apply bw;rfl;(apply tyT;rfl);rfl;rfl;rfl;(first|apply bc|(apply bh;omega));rfl;rfl;(first|decide|(apply Nat.le_of_ble_eq_true;rfl))))|(apply ac;rfl)|apply ak|apply ah|apply ai|(apply ae;rfl)|(apply af;rfl)|(apply bf _ (.inr rfl);(exact List.prefix_append _ _);(focus repeat (first|apply a8|(apply a9;rfl)|(apply cp;rfl;rfl;apply tyT;rfl;rfl;rfl)));rfl)|apply ap|apply aw|(exfalso;omega))
    all_goals first|rfl|contradiction|(exfalso;omega)
theorem ji0 (hp:Sz p) (cls:ByteArray) (hl:lo.length < 200) (hc:isC p cls = true) (S:List (List BV × Nat)) (T:List Nat) (M:List (List (Value × DV))) (id:Nat) (hid:S[id]? = some (rhB p tg lo ss)) (hT:T[tg]? = some (lo.flatMap rv).length) :
    ci Tryz.prog [id] [] 12 [.ptr id 0,vS cls] ⟨S,T,M⟩ (fun r s=>r = .tup [vVl ⟨4,lo.length + 1,⟨#[]⟩⟩,vB true] ∧ ∃ M',s = ⟨S.set id (rhB p tg (lo ++ [(cls,r7 p (chC p cls),M.length)]) ss),T.set tg ((lo ++ [(cls,r7 p (chC p cls),M.length)]).flatMap rv).length,M'⟩ ∧
      (((r7 p (chC p cls)).length = 0 ∧ M' = M) ∨((r7 p (chC p cls)).length ≠ 0 ∧ M' = M ++ [y6 (yk p (r7 p (chC p cls)))]))):=by
  have h31:=jmu p cls (ec hp)
  have h32:=jyj p cls (sx hp)
  have hcl:=sk p cls
  have hsm:=ec hp
  have hfl:(r7 p (chC p cls)).length ≤ 1000006000000:=by
    have:=wa (sx hp) (chC p cls).reverse
    rw [List.length_reverse] at this
    unfold r7
    omega
  rw [hc] at h31
  generalize r7 p (chC p cls) = fs at *
  refine am [id] [] Tryz.func12 rfl Tryz.ntmps12 Tryz.results12 ?_
  repeat' (first|apply ab|(apply V;rfl;(first|(apply bl;rfl)|(apply bg;rfl)|(apply cb;(apply plT;rfl);rfl;rfl;decide)|(apply bz;(apply tyT;rfl);rfl;(apply aa;assumption);rfl)|(apply bq;(apply elT;rfl);rfl;rfl)|(apply ck;rfl)|(apply ca;rfl;rfl)|(apply bu;rfl;rfl)|(apply cg;rfl)|(apply ed;(apply plT;rfl);rfl)))|(apply Vp;rfl;rfl;apply fnT;rfl;apply h31;rintro _ rfl)|(apply Vp;rfl;rfl;apply fnT;rfl;apply h32;rintro _ rfl)|(apply Vd;rfl;(apply ep;rfl;rfl);all_goals intro h_)|(apply Vo;rfl)|(apply Vw;rfl;(apply cd;rfl;(apply tyT;rfl)))|(apply Vs;rfl;(apply bw;rfl;(apply tyT;rfl);rfl;rfl;rfl;(first|apply bc|(apply bh;omega));rfl;rfl;(first|decide|(apply Nat.le_of_ble_eq_true;rfl))))|(apply ac;rfl)|apply ak|apply aj|apply ah|apply ai|(apply ae;rfl)|(apply af;rfl)|apply ap|apply aw|(exfalso;omega))
  refine jc7 (k:=1) (j:=2) 39 3 rfl rfl rfl ?_
  have hidl:=(List.getElem?_eq_some_iff.1 hid).1
  refine cx (fun q:Nat × List Vl=>fs.length - q.1) (fun q=>[(0,.ptr id 0),(4,.ptr (S.length + 0) 0),(6,.ptr (S.length + 1) 0),(7,vI q.1)]) (fun q S1 T1=>q.1 ≤ fs.length ∧ q.2 = yk p (fs.take q.1) ∧ S.length + 2 ≤ S1.length ∧ T <+: T1 ∧ S1[id]? = some (rhB p tg lo ss) ∧ S1[S.length + 0]? = some ([.d (.flat (.int .i64 0)),.d (.flat (.int .i32 0)),.d (.flat (.string ⟨#[]⟩))],39) ∧ S1[S.length + 1]? = some ([.d (.flat (.string cls)),.d (cy mn fs),.fresh 39 3 (T.length + 0) (q.2.flatMap g9) q.2.length],84) ∧ T1[T.length + 0]? = some (q.2.flatMap g9).length) (0,[]) ⟨Nat.zero_le _,rfl,by simp,by simp,aa hid,at_ rfl rfl,at_ rfl rfl,at_ rfl rfl⟩ ⟨rfl,rfl,rfl,rfl,trivial⟩ ?_
  rintro ⟨j,vs⟩ S1 T1 ⟨hj,hvs,hS1,hT1,hb,hb0,hb1,hTg⟩
  dsimp only at *
  have hvl:vs.length = j:=by rw [hvs,tk,List.length_take];omega
  by_cases hlt:j < fs.length
  · obtain ⟨k,hk⟩:∃ k,fs[j]? = some k:=⟨_,List.getElem?_eq_getElem hlt⟩
    have h33:=jq7 p k hp
    have hvk:yk p (fs.take (j + 1)) = vs ++ [jv ((sy p k).getD fi0).typ]:=by
      rw [List.take_add_one,hk,hvs]
      simp [yk]
    generalize (sy p k).isSome = bk at *
    generalize (sy p k).getD fi0 = fk at *
    have h21:=ju3 fk.typ
    repeat' (first|apply ab|(apply V;rfl;(first|(apply bl;rfl)|(apply bg;rfl)|(apply cb;(apply plT;rfl);rfl;rfl;decide)|(apply bz;(apply tyT;rfl);rfl;(apply aa;assumption);rfl)|(apply dp;(apply tyT;rfl);rfl;(first|rfl|apply ay|apply ba))|(apply bq;(apply elT;rfl);rfl;rfl)|(apply ck;rfl)|(apply eu;rfl;rfl)|(apply az;rfl;rfl;rfl;omega)|(apply bp (c:=k);apply elT;rfl;rfl;rfl;rfl;exact ny;omega;simpa using hk)))|apply nr|(apply bt (nt:=79) (.take 0 (.take 1 (.take 2 (.take 3 (.take 4 (.take 5 (.take 6 (.take 7 (.take 8 (.fork 9 (.take 10 (.take 11 (.take 12 (.one 13 (.one 14 (.take 15 .nil)))))) 13 (.one 9 (.take 10 (.take 11 (.take 12 (.one 14 (.take 15 .nil)))))))))))))))) [S1.length + 0] [];exact co;rfl;decide +kernel)|(apply de (nt:=79) (.take 0 (.take 1 (.take 2 (.take 3 (.one 4 (.one 5 (.one 6 (.take 7 (.one 8 .nil))))))))) [] [8];exact co;rfl;decide +kernel)|(apply tV;rfl;rfl;(first|(apply bj;(apply tyT;rfl);rfl;(first|(apply at_;rfl;rfl)|(apply aa;assumption));rfl)|(apply bz;(apply tyT;rfl);rfl;(first|(apply at_;rfl;rfl)|(apply aa;assumption));rfl));(apply ek;rfl;(focus (first|(simp;done)|(simp;omega)))))|(apply oS;rfl;rfl;(apply bw;rfl;(apply tyT;rfl);rfl;rfl;rfl;(apply e8;omega;(simp));rfl;rfl;(apply Nat.le_of_ble_eq_true;rfl)))|(apply oS;rfl;rfl;(apply fg;(apply tyT;rfl);rfl;rfl;assumption;(apply mb;omega;rfl);rfl;rfl;(first|decide|(apply Nat.le_of_ble_eq_true;rfl))))|(apply oR;rfl;rfl;apply jiu;rfl;apply elT;rfl;apply tyT;rfl;apply byT;rfl;rfl;rfl;rfl;decide;rfl;decide;rfl;omega;(simp only [maxLen];omega);(apply aa;exact hTg))|(apply oP;rfl;rfl;rfl;apply fnT;rfl;apply h33;rintro _ rfl)|(apply oP;rfl;rfl;rfl;apply fnT;rfl;apply h21;rintro _ rfl)|(apply Vd;rfl;(apply cu;rfl;rfl);all_goals intro h_)|(apply ac;rfl)|apply ak|(apply al;rfl)|apply aj|apply ah|apply bd|(apply ae;rfl)|(apply af;rfl)|apply ap|apply ey|apply cq|apply bo|apply dg|(apply tV;rfl;rfl;(first|(apply bl;rfl)|(apply bg;rfl)|(apply cb;(apply plT;rfl);rfl;rfl;decide)|(apply bz;(apply tyT;rfl);rfl;(apply aa;assumption);rfl)|(apply dp;(apply tyT;rfl);rfl;(first|rfl|apply ay|apply ba))|(apply bq;(apply elT;rfl);rfl;rfl)|(apply ck;rfl)|(apply eu;rfl;rfl)|(apply az;rfl;rfl;rfl;omega)|(apply bp (c:=k);apply elT;rfl;rfl;rfl;rfl;exact ny;omega;simpa using hk));rfl)|(apply oW;rfl;rfl;(first|(apply cd;rfl;(apply tyT;rfl))|(apply d8;rfl;(apply elT;rfl);(apply tyT;rfl);rfl;decide;rfl;rfl)))|(exfalso;omega))
    all_goals
      have hTgt:(T1 ++([] ++ [3]))[T.length + 0]? = some (vs.flatMap g9).length:=aa hTg
      have e1:(vs ++ [jv fk.typ]).flatMap g9 = vs.flatMap g9 ++ g9 (jv fk.typ):=by simp
      have e2:(vs ++ [jv fk.typ]).length = vs.length + 1:=by simp
      refine ⟨(j + 1,vs ++ [jv fk.typ]),_,(T1 ++([] ++ [3])).set (T.length + 0) ((vs ++ [jv fk.typ]).flatMap g9).length,by dsimp only;omega,⟨by dsimp only;omega,hvk.symm,by simp only [List.length_append,List.length_set];omega,dc (av hT1) (by omega),aa (by rw [List.getElem?_set_ne (by omega)];exact hb),aa (by rw [List.getElem?_set_ne (by omega)];exact hb0),aa (by rw [List.getElem?_set_self (by omega)];dsimp only;rw [e1,e2];rfl),List.getElem?_set_self (List.getElem?_eq_some_iff.1 hTgt).1⟩,⟨rfl,rfl,rfl,di (by dsimp only;omega),trivial⟩,congrArg (fun n=>(⟨_,(T1 ++([] ++ [3])).set (T.length + 0) n,M⟩:St)) (by rw [e1];rfl)⟩
  · have hvz:vs = yk p fs:=by rw [hvs,List.take_of_length_le (by omega)]
    have hvn:vs.length = fs.length:=by rw [hvz,tk]
    have htl:=(List.getElem?_eq_some_iff.1 hT).1
    have hTb:T1[tg]? = some (lo.flatMap rv).length:=by
      obtain ⟨X,rfl⟩:=hT1
      exact aa hT
    repeat' (first|apply ab|(apply V;rfl;(first|(apply bl;rfl)|(apply cb;(apply plT;rfl);rfl;rfl;decide)|(apply bz;(apply tyT;rfl);rfl;(apply aa;assumption);rfl)|(apply bq;(apply elT;rfl);rfl;rfl)))|(apply Vd;rfl;(apply cu;rfl;rfl);all_goals intro h_)|(apply ac;rfl)|apply ak|apply aj|apply ah|apply bd|(apply ae;rfl)|(apply af;rfl)|apply ap|apply ey|apply bo|(exfalso;omega))
    refine jaz (id:=S.length + 1) (j:=2) (aa hb1) rfl (aa hTg) (by decide) ?_
    rintro T' M' dv hset
    obtain ⟨rfl,hT',hM'⟩:=vk hset
    rw [hvn] at *
    have hpT:T <+: T':=by
      rcases hT' with rfl|⟨k,rfl⟩
      · exact av hT1
      · exact dc (av hT1) (by omega)
    have hTc:T'[tg]? = some (lo.flatMap rv).length:=by
      obtain ⟨X,rfl⟩:=hpT
      exact aa hT
    have hS1':S.length + 1 <(S1 ++ []).length:=by simp only [List.length_append];omega
    have hb1':((S1 ++ []).set (S.length + 1) ([.d (.flat (.string cls)),.d (cy mn fs),.d (jd0 M.length fs.length)],84))[S.length + 1]? = some ([.d (.flat (.string cls)),.d (cy mn fs),.d (jd0 M.length fs.length)],84):=List.getElem?_set_self hS1'
    have hb0':((S1 ++ []).set (S.length + 1) ([.d (.flat (.string cls)),.d (cy mn fs),.d (jd0 M.length fs.length)],84))[S.length + 0]? = some ([.d (.flat (.int .i64 0)),.d (.flat (.int .i32 0)),.d (.flat (.string ⟨#[]⟩))],39):=by
      rw [List.getElem?_set_ne (by omega)]
      exact aa hb0
    have hb':((S1 ++ []).set (S.length + 1) ([.d (.flat (.string cls)),.d (cy mn fs),.d (jd0 M.length fs.length)],84))[id]? = some (rhB p tg lo ss):=by
      rw [List.getElem?_set_ne (by omega)]
      exact aa hb
    show Tri _ _ _ ⟨(S1 ++ []).set (S.length + 1) ([.d (.flat (.string cls)),.d (cy mn fs),.d (jd0 M.length fs.length)],84),T',M'⟩ _
    generalize (S1 ++ []).set (S.length + 1) ([.d (.flat (.string cls)),.d (cy mn fs),.d (jd0 M.length fs.length)],84) = S2 at *
    have hS2:S.length + 2 ≤ S2.length:=(List.getElem?_eq_some_iff.1 hb1').1
    have hid2:id < S2.length:=(List.getElem?_eq_some_iff.1 hb').1
    have hset0:∀ X,(S2.set id X)[S.length + 0]? = some ([.d (.flat (.int .i64 0)),.d (.flat (.int .i32 0)),.d (.flat (.string ⟨#[]⟩))],39):=fun X=>by
      rw [List.getElem?_set_ne (by omega)]
      exact hb0'
    have hll:(lo ++ [(cls,fs,M.length)]).length = lo.length + 1:=by simp
    rw [← List.append_nil S2,← List.append_nil T']
    repeat' (first|apply ab|(apply V;rfl;(first|(apply jf7;rfl;apply udT;rfl;apply udT;rfl;omega)|(apply bl;rfl)|(apply bg;rfl)|(apply cb;(apply plT;rfl);rfl;rfl;decide)|(apply bj;(apply tyT;rfl);rfl;(first|(apply aa;assumption)|(apply aq;assumption));rfl)|(apply bz;(apply tyT;rfl);rfl;(first|(apply aa;assumption)|(apply aq;assumption));rfl)|(apply bq;(apply elT;rfl);rfl;rfl)|(apply ck;rfl)|(apply ed;(apply plT;rfl);rfl)))|(apply de (nt:=79) (.take 0 (.take 1 (.take 2 (.take 3 (.take 4 (.take 5 (.one 6 (.one 7 (.take 8 (.take 9 (.one 10 .nil))))))))))) [] [10];exact co;rfl;decide +kernel)|(apply oW;rfl;rfl;(apply ju9;rfl;apply elT;rfl;apply tyT;rfl;rfl;rfl))|(apply Vs;rfl;(apply fg;(apply tyT;rfl);rfl;rfl;apply hset0;(apply bh;omega);rfl;rfl;(first|decide|(apply Nat.le_of_ble_eq_true;rfl))))|(apply ac;rfl)|apply ai|apply ap|apply dg|(apply tV;rfl;rfl;(first|(apply jf7;rfl;apply udT;rfl;apply udT;rfl;omega)|(apply bl;rfl)|(apply bg;rfl)|(apply cb;(apply plT;rfl);rfl;rfl;decide)|(apply bj;(apply tyT;rfl);rfl;(first|(apply aa;assumption)|(apply aq;assumption));rfl)|(apply bz;(apply tyT;rfl);rfl;(first|(apply aa;assumption)|(apply aq;assumption));rfl)|(apply bq;(apply elT;rfl);rfl;rfl)|(apply ck;rfl)|(apply ed;(apply plT;rfl);rfl));rfl)|(apply oW;rfl;rfl;(apply mf;(apply elT;rfl);(apply tyT;rfl);(apply byT;rfl);rfl;rfl;rfl;decide;rfl;(apply ee (f:=rv) (c:=(cls,fs,M.length));omega;omega;assumption)))|(apply oS;rfl;rfl;(apply fg;(apply tyT;rfl);rfl;rfl;assumption;(apply mz <;> simp);rfl;rfl;(first|decide|(apply Nat.le_of_ble_eq_true;rfl)))))
    refine jq0 (T':=T.set tg ((lo ++ [(cls,fs,M.length)]).flatMap rv).length) (l':=[.agg [.d (.flat (.int .i64 4)),.d (.flat (.int .i32 ((lo ++ [(cls,fs,M.length)]).length:Nat))),.d (.flat (.string ⟨#[]⟩))],vB true]) _ (.inr rfl) (av (jf9 hpT htl)) (by simp) (ez rfl (tyT rfl) (List.getElem?_set_self (by rw [List.length_set];omega)) rfl (a9 rfl a8)) (by simp [wks,wk,my,low];rfl) (aa (by rw [List.getElem?_set_ne (by omega)];exact List.getElem?_set_self hid2)) (cs':=[.d (cy df p),.own 84 3 tg ((lo ++ [(cls,fs,M.length)]).flatMap rv) (lo ++ [(cls,fs,M.length)]).length,.d (cy qm ss)]) ?_ ⟨?_,M',rfl,?_⟩
    · show my S.length (T.set tg _).length [.d (cy df p),.own 84 3 tg ((lo ++ [(cls,fs,M.length)]).flatMap rv) (lo ++ [(cls,fs,M.length)]).length,.d (cy qm ss)] = _
      simp [my,low,htl]
    · rw [hll]
      rfl
    · rw [← hvz]
      exact hM'
end
end Go.Proofs.YtinffhimfoicdaaGreat
namespace Go.Proofs.YtinffhimfoicdaaGreat
open Go Go.RowKit Go.Proofs.YtinffhimfoicdaaGreat.Calc
set_option linter.unusedVariables false
set_option linter.unusedSimpArgs false
set_option maxRecDepth 100000
def atF (c:ByteArray) (fs:List Fi) (i:Nat) (k:Tg):Option Fi:=if k.own = c ∧(i:Int) ≤ k.nth then fs[(k.nth - i).toNat]? else none
theorem jgh (c:ByteArray) (f:Fi) (l:List Fi) (i:Nat) (k:Tg):atF c (f :: l) i k = if k = ⟨c,(i:Int)⟩ then some f else atF c l (i + 1) k:=by
  obtain ⟨o,n⟩:=k
  unfold atF
  dsimp only
  by_cases h1:o = c
  · subst h1
    by_cases h2:n = i
    · subst h2
      simp
    · have hk:¬((⟨o,n⟩:Tg) = ⟨o,(i:Int)⟩):=fun e=>h2 (by injection e)
      rw [if_neg hk]
      by_cases h3:(i:Int) ≤ n
      · rw [if_pos ⟨rfl,h3⟩,if_pos ⟨rfl,by omega⟩,show (n - i).toNat =(n - (i + 1:Nat)).toNat + 1 by omega,List.getElem?_cons_succ]
      · rw [if_neg (fun e=>h3 e.2),if_neg (fun e=>h3 (by omega))]
  · have hk:¬((⟨o,n⟩:Tg) = ⟨c,(i:Int)⟩):=fun e=>h1 (by injection e)
    rw [if_neg hk,if_neg (fun e=>h1 e.1),if_neg (fun e=>h1 e.1)]
theorem tl (b:Bool) (c:ByteArray):∀(fs:List Fi) (i:Nat) (t:Tbl) (k:Tg),mc (jb8 b c fs i t) k = match atF c fs i k with
    | some f=>if f.static = b then some (jv f.typ) else mc t k
    | none=>mc t k
  | [],i,t,k=>by
    rw [jb8]
    have:atF c [] i k = none:=by
      unfold atF
      split <;> simp
    rw [this]
  | f :: l,i,t,k=>by
    rw [jb8,tl b c l (i + 1),jgh]
    by_cases h:k = ⟨c,(i:Int)⟩
    · rw [if_pos h]
      have hn:atF c l (i + 1) k = none:=by
        unfold atF
        rw [if_neg]
        rw [h]
        rintro ⟨_,e⟩
        dsimp only at e
        omega
      rw [hn]
      dsimp only
      split
      · rw [qx,if_pos h.symm]
      · rfl
    · rw [if_neg h]
      have e:mc (if f.static = b then pk t ⟨c,(i:Int)⟩ (jv f.typ) else t) k = mc t k:=by
        split
        · rw [qx,if_neg (fun e=>h e.symm)]
        · rfl
      rw [e]
theorem wd (p:List Cl) (k:Tg):atF k.own (dy p k.own).fields 0 k = sy p k:=by
  unfold atF sy
  by_cases h:k.nth < 0
  · rw [if_neg (fun e=>by have:=e.2;omega),if_pos h]
  · rw [if_pos ⟨rfl,by omega⟩,if_neg h,show (k.nth - ((0:Nat):Int)).toNat = k.nth.toNat by omega]
theorem jm0 {c:ByteArray} {fs:List Fi} {i:Nat} {k:Tg} (h:k.own ≠ c):atF c fs i k = none:=by
  unfold atF
  rw [if_neg (fun e=>h e.1)]
theorem jc8 (p:List Cl) (k:Tg):∀(L:List ByteArray) (t:Tbl),mc (nv p L t) k = if inS L k.own = true then (match sy p k with
    | some f=>if f.static = false then some (jv f.typ) else mc t k
    | none=>mc t k) else mc t k
  | [],t=>by
    rw [nv,if_neg (by simp [inS])]
  | c :: L,t=>by
    rw [nv,jc8 p k L]
    have step:mc (if 0 ≤ fq p c then jb8 false c (jb7 p (fq p c)).fields 0 t else t) k = if k.own = c then (match sy p k with
        | some f=>if f.static = false then some (jv f.typ) else mc t k
        | none=>mc t k) else mc t k:=by
      by_cases hf:0 ≤ fq p c
      · rw [if_pos hf,tl]
        have hcl:jb7 p (fq p c) = dy p c:=by unfold dy;rw [if_pos hf]
        rw [hcl]
        by_cases ho:k.own = c
        · rw [if_pos ho]
          subst ho
          rw [wd]
        · rw [if_neg ho,jm0 ho]
      · rw [if_neg hf]
        by_cases ho:k.own = c
        · subst ho
          rw [if_pos rfl]
          have:sy p k = none:=by
            unfold sy dy
            rw [if_neg hf]
            split <;> simp
          rw [this]
        · rw [if_neg ho]
    rw [step]
    by_cases h1:inS L k.own = true
    · rw [if_pos h1,if_pos (gw.2 (List.mem_cons_of_mem _ (gw.1 h1)))]
      by_cases ho:k.own = c
      · rw [if_pos ho]
        rcases sy p k with _|f
        · rfl
        · dsimp only
          by_cases hs:f.static = false
          · simp only [if_pos hs]
          · simp only [if_neg hs]
      · rw [if_neg ho]
    · rw [if_neg h1]
      by_cases ho:k.own = c
      · rw [if_pos ho,if_pos (gw.2 (by rw [ho];exact List.mem_cons_self))]
      · rw [if_neg ho,if_neg (fun e=>by rcases List.mem_cons.1 (gw.1 e) with e|e;exact ho e;exact h1 (gw.2 e))]
theorem jc9 (k:Tg):∀(q:List Cl) (t:Tbl),(∀(i j:Nat) c c',q[i]? = some c → q[j]? = some c' → c.name = c'.name → i = j) → mc (qk q t) k = match q.find? (fun c=>decide (c.name = k.own)) with
    | some c=>(match atF k.own c.fields 0 k with
      | some f=>if f.static = true then some (jv f.typ) else mc t k
      | none=>mc t k)
    | none=>mc t k
  | [],t,_=>by rw [qk];rfl
  | c :: q,t,h=>by
    rw [qk,jc9 k q _ (fun i j a b ha hb e=>by have:=h (i + 1) (j + 1) a b (by simpa using ha) (by simpa using hb) e;omega),List.find?_cons]
    by_cases ho:c.name = k.own
    · rw [decide_eq_true ho]
      have hn:q.find? (fun c=>decide (c.name = k.own)) = none:=by
        rw [List.find?_eq_none]
        intro x hx hd
        obtain ⟨j,hj⟩:=List.getElem?_of_mem hx
        have:=h 0 (j + 1) c x (by simp) (by simpa using hj) (by rw [ho];exact (of_decide_eq_true hd).symm)
        omega
      rw [hn]
      dsimp only
      rw [tl,ho]
    · rw [decide_eq_false ho]
      have e:mc (jb8 true c.name c.fields 0 t) k = mc t k:=by
        rw [tl,jm0 (fun e=>ho e.symm)]
      rw [e]
theorem jhq {p:List Cl} (hC:(eg p).1 = 0):∀(i j:Nat) c c',p[i]? = some c → p[j]? = some c' → c.name = c'.name → i = j:=fun i j c c' hi hj e=>by
  have h1:jar p p 0 = none:=by
    unfold eg at hC
    rcases h1:jar p p 0 with _|i
    · rfl
    · rw [h1] at hC
      exact absurd hC (show ¬(6:Int) = 0 by decide)
  have a:=sq h1 i c hi
  have b:=sq h1 j c' hj
  rw [e] at a
  omega
theorem jhr {p:List Cl} (a:ByteArray):p.find? (fun c=>decide (c.name = a)) = if 0 ≤ fq p a then some (dy p a) else none:=by
  rcases fi p a with ⟨h1,h2⟩|⟨j,hj,h1,h2,h3⟩
  · rw [if_neg (by omega),List.find?_eq_none]
    intro x hx hd
    exact h2 x hx (of_decide_eq_true hd)
  · rw [if_pos (by omega),List.find?_eq_some_iff_getElem]
    have hc:dy p a = p[j]:=by
      unfold dy jb7
      rw [if_pos (by omega),h1,show ((j:Int)).toNat = j from rfl,List.getElem?_eq_getElem hj]
      rfl
    rw [hc]
    exact ⟨by simpa using h2,j,hj,rfl,fun i hi=>by simpa using h3 i hi⟩
theorem ja2 {p:List Cl} {k:Tg} {c:Nat} (h:stR p k = c):fq p k.own = c ∧ ∃ f,sy p k = some f ∧ f.static = true ∧ 0 ≤ k.nth ∧ ∃ cl,p[c]? = some cl ∧ cl.name = k.own ∧ cl.fields[k.nth.toNat]? = some f:=by
  unfold stR at h
  rcases hf:sy p k with _|f
  · rw [hf] at h
    dsimp only at h
    omega
  · rw [hf] at h
    dsimp only at h
    split at h
    · rename_i hs
      have hf':=hf
      unfold sy at hf'
      split at hf'
      · cases hf'
      rename_i h0
      refine ⟨h,f,rfl,hs,by omega,?_⟩
      rcases fi p k.own with ⟨h1,_⟩|⟨j,hj,h1,h2,_⟩
      · omega
      · have hjc:j = c:=by omega
        subst hjc
        have hc:dy p k.own = p[j]:=by
          unfold dy jb7
          rw [if_pos (by omega),h1,show ((j:Int)).toNat = j from rfl,List.getElem?_eq_getElem hj]
          rfl
        rw [hc] at hf'
        exact ⟨p[j],List.getElem?_eq_getElem hj,h2,hf'⟩
    · omega
theorem jm1 (p:List Cl) (k:Tg):stR p k = -1 ∨ ∃ c:Nat,stR p k = c:=by
  unfold stR
  rcases sy p k with _|f
  · exact .inl rfl
  · dsimp only
    split
    · rcases fi p k.own with ⟨h1,_⟩|⟨j,hj,h1,_,_⟩
      · exact .inl h1
      · exact .inr ⟨j,h1⟩
    · exact .inl rfl
def js7 (p:List Cl) (ts:Tbl) (sv:Nat → List Vl):Prop:=(∀ k,stR p k = -1 → mc ts k = none) ∧(∀(k:Tg) (c:Nat),stR p k = c → mc ts k =(sv c)[k.nth.toNat]?) ∧ ∀(c:Nat) cl,p[c]? = some cl →(sv c).length = cl.fields.length
def svI (p:List Cl) (c:Nat):List Vl:=match p[c]? with
  | some cl=>ja1 cl.fields
  | none=>[]
theorem ji1 {p:List Cl} (hC:(eg p).1 = 0):js7 p (qk p []) (svI p):=by
  have hu:=jhq hC
  have hg:∀ k,mc (qk p []) k = match sy p k with
      | some f=>if f.static = true then some (jv f.typ) else none
      | none=>none:=fun k=>by
    rw [jc9 k p [] hu,jhr]
    by_cases h:0 ≤ fq p k.own
    · rw [if_pos h]
      dsimp only
      rw [wd]
      rfl
    · rw [if_neg h]
      have:sy p k = none:=by
        unfold sy dy
        rw [if_neg h]
        split <;> simp
      rw [this]
      rfl
  refine ⟨fun k h=>?_,fun k c h=>?_,fun c cl hc=>?_⟩
  · rw [hg]
    unfold stR at h
    rcases hf:sy p k with _|f
    · rfl
    · rw [hf] at h
      dsimp only at h ⊢
      split
      · rename_i hs
        rw [if_pos hs] at h
        have:sy p k = none:=by
          unfold sy dy
          have hn:¬ 0 ≤ fq p k.own:=by omega
          rw [if_neg hn]
          split <;> simp
        rw [this] at hf
        cases hf
      · rfl
  · obtain ⟨h1,f,h2,h3,h4,cl,h5,h6,h7⟩:=ja2 h
    rw [hg,h2]
    dsimp only
    rw [if_pos h3]
    unfold svI
    rw [h5]
    dsimp only
    unfold ja1
    rw [List.getElem?_map,h7]
    rfl
  · unfold svI
    rw [hc]
    exact tj _
theorem jld {p:List Cl} {ts:Tbl} {sv:Nat → List Vl} (hC:(eg p).1 = 0) (h:js7 p ts sv) {k:Tg} {c:Nat} (hk:stR p k = c) (w:Vl):k.nth.toNat <(sv c).length ∧ js7 p (pk ts k w) (fun j=>if j = c then (sv c).set k.nth.toNat w else sv j):=by
  obtain ⟨h1,f,h2,h3,h4,cl,h5,h6,h7⟩:=ja2 hk
  have hlt:k.nth.toNat <(sv c).length:=by
    rw [h.2.2 c cl h5]
    exact (List.getElem?_eq_some_iff.1 h7).1
  refine ⟨hlt,fun k' e=>?_,fun k' c' e=>?_,fun c' cl' hc'=>?_⟩
  · rw [qx,if_neg (fun e2=>by subst e2;omega)]
    exact h.1 k' e
  · rw [qx]
    dsimp only
    by_cases e2:k = k'
    · subst e2
      obtain rfl:c' = c:=by omega
      rw [if_pos rfl,if_pos rfl,List.getElem?_set_self hlt]
    · rw [if_neg e2]
      by_cases e3:c' = c
      · subst e3
        rw [if_pos rfl]
        obtain ⟨g1,f',g2,g3,g4,cl',g5,g6,g7⟩:=ja2 e
        have:cl = cl':=Option.some.inj (h5.symm.trans g5)
        subst this
        rw [List.getElem?_set_ne (fun e4=>e2 ?_)]
        · exact h.2.1 k' c' e
        · obtain ⟨o,n⟩:=k
          obtain ⟨o',n'⟩:=k'
          dsimp only at *
          rw [← h6,← g6]
          congr 1
          omega
      · rw [if_neg e3]
        exact h.2.1 k' c' e
  · dsimp only
    split
    · rename_i e
      subst e
      rw [List.length_set]
      exact h.2.2 _ cl' hc'
    · exact h.2.2 _ cl' hc'
theorem tn {k:Tg}:∀ {L:List Tg} {i j:Nat},ixT k L i = some j → i ≤ j ∧ L[j - i]? = some k
  | [],i,j,h=>by cases h
  | t :: l,i,j,h=>by
    rw [ixT] at h
    split at h
    · rename_i e
      obtain rfl:=Option.some.inj h
      subst e
      exact ⟨Nat.le_refl _,by simp⟩
    · obtain ⟨h1,h2⟩:=tn h
      refine ⟨by omega,?_⟩
      rw [show j - i =(j - (i + 1)) + 1 by omega,List.getElem?_cons_succ]
      exact h2
theorem jgi {k:Tg}:∀ {L:List Tg} {i:Nat},ixT k L i = none → k ∉ L
  | [],i,h=>by simp
  | t :: l,i,h=>by
    rw [ixT] at h
    split at h
    · cases h
    · rename_i e
      rw [List.mem_cons]
      rintro (e2|e2)
      · exact e e2.symm
      · exact jgi h e2
def jq9 (fs:List Tg) (t:Tbl) (vs:List Vl):Prop:=vs.length = fs.length ∧ ∀ k,mc t k =(ixT k fs 0).bind fun j=>vs[j]?
theorem tp {c:ByteArray} {k:Tg}:∀ {l:List Fi} {i:Nat},k ∈ ru c l i ↔ ∃ f,atF c l i k = some f ∧ f.static = false
  | [],i=>by
    have:atF c [] i k = none:=by
      unfold atF
      split <;> simp
    simp [ru,this]
  | f :: l,i=>by
    rw [ru,jgh]
    by_cases hk:k = ⟨c,(i:Int)⟩
    · rw [if_pos hk]
      have hn:k ∉ ru c l (i + 1):=by
        rw [tp]
        rintro ⟨f',h1,_⟩
        unfold atF at h1
        rw [hk,if_neg] at h1
        · cases h1
        · rintro ⟨_,e⟩
          dsimp only at e
          omega
      by_cases hs:f.static = false
      · rw [if_pos hs]
        exact ⟨fun _=>⟨f,rfl,hs⟩,fun _=>by rw [hk];exact List.mem_cons_self⟩
      · rw [if_neg hs]
        exact ⟨fun h=>absurd h hn,fun ⟨f',e,h⟩=>absurd (Option.some.inj e ▸ h) hs⟩
    · rw [if_neg hk,← tp (c:=c) (l:=l) (i:=i + 1)]
      by_cases hs:f.static = false
      · rw [if_pos hs,List.mem_cons]
        exact ⟨fun h=>h.resolve_left hk,.inr⟩
      · rw [if_neg hs]
theorem ja3 {p:List Cl} {k:Tg} {L:List ByteArray}:k ∈ r7 p L ↔ k.own ∈ L ∧ ∃ f,sy p k = some f ∧ f.static = false:=by
  unfold r7
  rw [List.mem_flatMap]
  constructor
  · rintro ⟨c,hc,hk⟩
    rw [tp] at hk
    obtain ⟨f,h1,h2⟩:=hk
    have ho:k.own = c:=by
      unfold atF at h1
      split at h1
      · rename_i e
        exact e.1
      · cases h1
    subst ho
    rw [wd] at h1
    exact ⟨List.mem_reverse.1 hc,f,h1,h2⟩
  · rintro ⟨hc,f,h1,h2⟩
    refine ⟨k.own,List.mem_reverse.2 hc,?_⟩
    rw [tp,wd]
    exact ⟨f,h1,h2⟩
theorem ji2 (p:List Cl) (L:List ByteArray):jq9 (r7 p L) (nv p L []) (yk p (r7 p L)):=by
  refine ⟨tk _ _,fun k=>?_⟩
  rw [jc8]
  rcases hx:ixT k (r7 p L) 0 with _|j
  · have hn:=jgi hx
    rw [ja3] at hn
    rw [Option.bind_none]
    split
    · rename_i ho
      rcases hf:sy p k with _|f
      · rfl
      · dsimp only
        split
        · rename_i hs
          exact absurd ⟨gw.1 ho,f,hf,hs⟩ hn
        · rfl
    · rfl
  · obtain ⟨_,hj⟩:=tn hx
    rw [Nat.sub_zero] at hj
    have hm:=ja3.1 (List.mem_of_getElem? hj)
    obtain ⟨ho,f,hf,hs⟩:=hm
    rw [if_pos (gw.2 ho),hf,Option.bind_some]
    dsimp only
    rw [if_pos hs]
    unfold yk
    rw [List.getElem?_map,hj,Option.map_some,hf]
    rfl
theorem jeq {fs:List Tg} {t:Tbl} {vs:List Vl} (h:jq9 fs t vs) {k:Tg} {j:Nat} (hj:ixT k fs 0 = some j):j < vs.length ∧ mc t k = vs[j]?:=by
  obtain ⟨_,h2⟩:=tn hj
  rw [Nat.sub_zero] at h2
  have:=(List.getElem?_eq_some_iff.1 h2).1
  refine ⟨by rw [h.1];exact this,?_⟩
  rw [h.2 k,hj]
  rfl
theorem jle {fs:List Tg} {t:Tbl} {vs:List Vl} (h:jq9 fs t vs) {k:Tg} {j:Nat} (hj:ixT k fs 0 = some j) (w:Vl):jq9 fs (pk t k w) (vs.set j w):=by
  obtain ⟨hlt,_⟩:=jeq h hj
  refine ⟨by rw [List.length_set];exact h.1,fun k'=>?_⟩
  rw [qx]
  by_cases e:k = k'
  · subst e
    rw [if_pos rfl,hj,Option.bind_some,List.getElem?_set_self hlt]
  · rw [if_neg e,h.2 k']
    rcases hx:ixT k' fs 0 with _|j'
    · rfl
    · rw [Option.bind_some,Option.bind_some]
      by_cases ej:j = j'
      · subst ej
        have a:=(tn hj).2
        have b:=(tn hx).2
        exact absurd (Option.some.inj (a.symm.trans b)) e
      · rw [List.getElem?_set_ne ej]
end Go.Proofs.YtinffhimfoicdaaGreat
namespace Go.Proofs.YtinffhimfoicdaaGreat
open Go Go.RowKit Go.Proofs.YtinffhimfoicdaaGreat.Calc
set_option linter.unusedVariables false
set_option linter.unusedSimpArgs false
set_option maxRecDepth 100000
set_option maxHeartbeats 8000000
theorem jda {okm ok:Nat → Bool} {o:Oper} {ρ:Rg} {st:St} {Q:Rg → St → Prop} {x i:Operand} {b:Bool} {k:Tg} (ho:o.op = .lookup 70 x i b) (hx:evB ρ x = some (.d (.flat (.map none)))) (hi:(evB ρ i).bind jh6 = some (pq k)) (hk:okT k)
    (hq:Q (ke ρ o.dst (lkB b (vVl vl0) false)) st):OpR Tryz.prog ok okm o ρ st Q :=
  jin ho jn9 K44 (z:=[.d (.flat (.int .i64 0)),.d (.flat (.int .i32 0)),.d (.flat (.string ⟨#[]⟩))]) (sz:=3) (tyT rfl) hx hi (zu hk) hq
attribute [local irreducible] Tri ew er ci bn db d7 inQ jb
theorem jva (p:List Cl) (tg sid:Nat) (l:List (ByteArray × Nat)) (v:Vl) (hv:okV v) (hl:l.length ≤ 1000) (k:Tg) (hk:okT k) (hm:zw sid l v = none):HC p (.own 79 2 tg (l.flatMap gx) l.length) sid 15 (fun id=>[.ptr id 0,vVl v,vTg k]) (fun r=>r = vVl vl0):=by
  have h34:=js2 p tg sid l v hv hl
  rw [hm] at h34
  unfold vTg
  intro S T M id hid
  refine am [] [] Tryz.func15 rfl Tryz.ntmps15 Tryz.results15 ?_
  repeat' (first|apply ab|(apply bt (nt:=12) (.take 0 (.take 1 (.take 3 (.one 2 (.one 4 (.one 5 .nil)))))) [] [5];exact co;rfl;decide +kernel)|(apply oP;rfl;rfl;rfl;apply fnT;rfl;apply h34;(first|(apply aa;assumption)|assumption);rintro _ rfl)|(apply oR;rfl;rfl;apply jda (k:=k);rfl;rfl;rfl;exact hk)|(apply Vw;rfl;(first|(apply cd;rfl;(apply tyT;rfl))|(apply cj;rfl;rfl;rfl)))|(apply ac;rfl)|apply ai|(apply bf _ (.inr rfl);(exact List.prefix_append _ _);(focus repeat (first|apply a8|(apply cp;rfl;rfl;apply tyT;rfl;rfl;rfl)));rfl)|apply dg|(apply tV;rfl;rfl;(first|(apply bl;rfl)|(apply bj;(apply tyT;rfl);rfl;(apply at_;rfl;rfl);rfl));rfl)|(apply oS;rfl;rfl;(apply bw;rfl;(apply tyT;rfl);rfl;rfl;rfl;(first|(apply jl;rfl)|(apply mb;omega;rfl));rfl;rfl;(first|decide|(apply Nat.le_of_ble_eq_true;rfl)))))
  all_goals first|rfl|contradiction
theorem jvb (p:List Cl) (tg sid:Nat) (l:List (ByteArray × Nat)) (v:Vl) (hv:okV v) (hl:l.length ≤ 1000) (k:Tg) (hk:okT k) (w:Vl) (hm:zw sid l v = none):HC p (.own 79 2 tg (l.flatMap gx) l.length) sid 13 (fun id=>[.ptr id 0,vVl v,vTg k,vVl w]) (fun r=>r = vB false):=by
  have h34:=js2 p tg sid l v hv hl
  rw [hm] at h34
  unfold vTg
  intro S T M id hid
  refine am [] [] Tryz.func13 rfl Tryz.ntmps13 Tryz.results13 ?_
  repeat' (first|apply ab|(apply V;rfl;(first|(apply bl;rfl)|(apply bg;rfl)|(apply bj;(apply tyT;rfl);rfl;(apply at_;rfl;rfl);rfl)|(apply eu;rfl;rfl)|(apply cg;rfl)))|(apply Vp;rfl;rfl;apply fnT;rfl;apply h34;(first|(apply aa;assumption)|assumption);rintro _ rfl)|(apply VR;rfl;apply jda (k:=k);rfl;rfl;rfl;exact hk)|(apply Vw;rfl;(first|(apply cd;rfl;(apply tyT;rfl))|(apply cj;rfl;rfl;rfl)))|(apply Vs;rfl;(apply bw;rfl;(apply tyT;rfl);rfl;rfl;rfl;(first|apply bc|(apply bh;omega));rfl;rfl;(first|decide|(apply Nat.le_of_ble_eq_true;rfl))))|(apply ac;rfl)|apply ak|apply ai|(apply ae;rfl)|(apply bf _ (.inr rfl);(exact List.prefix_append _ _);(focus repeat (first|apply a8|(apply a9;rfl)));rfl)|apply aw)
  all_goals first|rfl|contradiction
end Go.Proofs.YtinffhimfoicdaaGreat
namespace Go.Proofs.YtinffhimfoicdaaGreat
open Go Go.RowKit Go.Proofs.YtinffhimfoicdaaGreat.Calc
set_option linter.unusedVariables false
set_option linter.unusedSimpArgs false
set_option maxRecDepth 100000
set_option maxHeartbeats 4000000
def OkV (v:Vl):Prop:=(Lit.int .i64 v.kind).wf = true ∧(Lit.int .i32 v.n).wf = true ∧ v.s.size ≤ maxLen
structure HA (p:List Cl) (id sid tg:Nat) (l:List (ByteArray × Nat)) (ts:Tbl) (tb:Nat → Tbl) (S:List (List BV × Nat)) (T:List Nat) (M:List (List (Value × DV))):Prop where
  box:S[id]? = some ([.d (cy df p),.own 79 2 tg (l.flatMap gx) l.length,.d (.map sid)],73)
  tag:T[tg]? = some (l.flatMap gx).length
  st:M[sid]? = some (jd ts)
  ok:OKM ts
  ob:∀(i:Nat) (o:ByteArray × Nat),l[i]? = some o → sid ≠ o.2 ∧ M[o.2]? = some (jd (tb i)) ∧ OKM (tb i)
  dist:∀(i j:Nat) (o o':ByteArray × Nat),l[i]? = some o → l[j]? = some o' → o.2 = o'.2 → i = j
structure HB (p:List Cl) (id tg:Nat) (lo:List ObR) (ss:List (Nat × Nat)) (sv ov:Nat → List Vl) (S:List (List BV × Nat)) (T:List Nat) (M:List (List (Value × DV))):Prop where
  box:S[id]? = some (rhB p tg lo ss)
  tag:T[tg]? = some (lo.flatMap rv).length
  slen:ss.length = p.length
  sr:∀(c m n:Nat),ss[c]? = some (m,n) → n =(sv c).length ∧(n ≠ 0 → M[m]? = some (y6 (sv c)))
  sdist:∀(c c' m n n':Nat),ss[c]? = some (m,n) → ss[c']? = some (m,n') → n ≠ 0 → n' ≠ 0 → c = c'
  ob:∀(i:Nat) (o:ObR),lo[i]? = some o → o.2.1.length =(ov i).length ∧(o.2.1.length ≠ 0 → M[o.2.2]? = some (y6 (ov i)))
  odist:∀(i j:Nat) (o o':ObR),lo[i]? = some o → lo[j]? = some o' → o.2.1.length ≠ 0 → o'.2.1.length ≠ 0 → o.2.2 = o'.2.2 → i = j
  cross:∀(c m n i:Nat) (o:ObR),ss[c]? = some (m,n) → lo[i]? = some o → n ≠ 0 → o.2.1.length ≠ 0 → m ≠ o.2.2
  okl:OkL lo
structure RL (p:List Cl) (l:List (ByteArray × Nat)) (ts:Tbl) (tb:Nat → Tbl) (lo:List ObR) (sv ov:Nat → List Vl):Prop where
  len:lo.length = l.length
  le:l.length ≤ 200
  ob:∀(i:Nat) (a:ByteArray × Nat) (b:ObR),l[i]? = some a → lo[i]? = some b → a.1 = b.1 ∧ jq9 b.2.1 (tb i) (ov i)
  st:js7 p ts sv
  vs:∀(c:Nat) v,v ∈ sv c → OkV v
  vo:∀(c:Nat) v,v ∈ ov c → OkV v
structure HH (p:List Cl) (id id2 sid tg:Nat) (l:List (ByteArray × Nat)) (ts:Tbl) (tb:Nat → Tbl) (tg2:Nat) (lo:List ObR) (ss:List (Nat × Nat)) (sv ov:Nat → List Vl) (S:List (List BV × Nat)) (T:List Nat) (M:List (List (Value × DV))):Prop where
  a:HA p id sid tg l ts tb S T M
  b:HB p id2 tg2 lo ss sv ov S T M
  r:RL p l ts tb lo sv ov
  ne:id ≠ id2
  tne:tg ≠ tg2
def HE (p:List Cl) (id id2:Nat) (S:List (List BV × Nat)) (T:List Nat) (M:List (List (Value × DV))):Prop:=∃ sid tg l ts tb tg2 lo ss sv ov,HH p id id2 sid tg l ts tb tg2 lo ss sv ov S T M
structure PG (p:List Cl):Prop where
  sz:Sz p
  nm:jlb p
  chk:(eg p).1 = 0
section
variable {p:List Cl} {id id2 sid tg tg2:Nat} {l:List (ByteArray × Nat)} {ts:Tbl} {tb:Nat → Tbl} {lo:List ObR} {ss:List (Nat × Nat)} {sv ov:Nat → List Vl} {S S':List (List BV × Nat)} {T T':List Nat} {M M':List (List (Value × DV))}
theorem HA.to (h:HA p id sid tg l ts tb S T M) (hS:S'[id]? = S[id]?) (hT:T'[tg]? = T[tg]?) (hM:∀(m:Nat) t,M[m]? = some (jd t) → M'[m]? = some (jd t)):HA p id sid tg l ts tb S' T' M' :=
  ⟨hS.trans h.box,hT.trans h.tag,hM _ _ h.st,h.ok,fun i o ho=>⟨(h.ob i o ho).1,hM _ _ (h.ob i o ho).2.1,(h.ob i o ho).2.2⟩,h.dist⟩
theorem HB.to (h:HB p id tg lo ss sv ov S T M) (hS:S'[id]? = S[id]?) (hT:T'[tg]? = T[tg]?) (hM:∀(m:Nat) vs,vs ≠ [] → M[m]? = some (y6 vs) → M'[m]? = some (y6 vs)):HB p id tg lo ss sv ov S' T' M' :=
  { h with
    box:=hS.trans h.box
    tag:=hT.trans h.tag
    sr:=fun c m n hc=>⟨(h.sr c m n hc).1,fun hn=>hM _ _ (by rintro e;exact hn (by rw [(h.sr c m n hc).1,e];rfl)) ((h.sr c m n hc).2 hn)⟩
    ob:=fun i o ho=>⟨(h.ob i o ho).1,fun hn=>hM _ _ (by rintro e;exact hn (by rw [(h.ob i o ho).1,e];rfl)) ((h.ob i o ho).2 hn)⟩ }
theorem un {a b:Nat} {t:Tbl} {vs:List Vl} (h1:M[a]? = some (jd t)) (h2:M[b]? = some (y6 vs)) (hv:vs ≠ []):a ≠ b:=by
  rintro rfl
  have e:=Option.some.inj (h1.symm.trans h2)
  cases vs with
  | nil=>exact hv rfl
  | cons v l =>
    cases t with
    | nil=>simp [jd,y6,jem,g9] at e
    | cons q r=>simp [jd,y6,jem,g9,pq] at e
theorem HA.more (h:HA p id sid tg l ts tb S T M) (L:List (List BV × Nat)) (X:List Nat):HA p id sid tg l ts tb (S ++ L) (T ++ X) M:=h.to (by rw [aa h.box,h.box]) (by rw [aa h.tag,h.tag]) (fun _ _ h=>h)
theorem HB.more (h:HB p id tg lo ss sv ov S T M) (L:List (List BV × Nat)) (X:List Nat):HB p id tg lo ss sv ov (S ++ L) (T ++ X) M:=h.to (by rw [aa h.box,h.box]) (by rw [aa h.tag,h.tag]) (fun _ _ _ h=>h)
theorem HH.more (h:HH p id id2 sid tg l ts tb tg2 lo ss sv ov S T M) (L:List (List BV × Nat)) (X:List Nat):HH p id id2 sid tg l ts tb tg2 lo ss sv ov (S ++ L) (T ++ X) M:={ h with a:=h.a.more L X,b:=h.b.more L X }
theorem HE.more (h:HE p id id2 S T M) (L:List (List BV × Nat)) (X:List Nat):HE p id id2 (S ++ L) (T ++ X) M:=by
  obtain ⟨sid,tg,l,ts,tb,tg2,lo,ss,sv,ov,h⟩:=h
  exact ⟨sid,tg,l,ts,tb,tg2,lo,ss,sv,ov,h.more L X⟩
theorem HE.moreM (h:HE p id id2 S T M) (N:List (List (Value × DV))):HE p id id2 S T (M ++ N):=by
  obtain ⟨sid,tg,l,ts,tb,tg2,lo,ss,sv,ov,h⟩:=h
  exact ⟨sid,tg,l,ts,tb,tg2,lo,ss,sv,ov,{ h with a:=h.a.to rfl rfl (fun _ _ h=>aa h),b:=h.b.to rfl rfl (fun _ _ _ h=>aa h) }⟩
theorem ja4 {P:Program} {f:Nat} {args:List BV} {st:St} {Q:BV → St → Prop} {Wr:List Nat} (Wm:List Nat) (h:ci P Wr [] f args st Q):ci P Wr Wm f args st Q:=fun x vs h1 h2 h3 =>
  (h x vs h1 h2 h3).mono fun e w' ⟨r,v,z,e1,e2,e3,e4,e5,e6⟩=>⟨r,v,z,e1,e2,e3,e4,(Step.refl Wr Wm x).trans' e5 (fun i hi _=>.inl hi) (fun i hi _=>by cases hi),e6⟩
theorem jer (h:HH p id id2 sid tg l ts tb tg2 lo ss sv ov S T M) (v:Vl):(obR l v = none ∧ obR lo v = none) ∨ ∃(i:Nat) (a:ByteArray × Nat) (b:ObR),l[i]? = some a ∧ lo[i]? = some b ∧ obR l v = some a ∧ obR lo v = some b:=by
  rcases ha:obR l v with _|a
  · left
    refine ⟨rfl,?_⟩
    rcases hb:obR lo v with _|b
    · rfl
    · obtain ⟨h1,h2,h3,h4⟩:=qz hb
      have hl:=h.r.len
      unfold obR at ha
      rw [if_pos h1,if_neg (by omega),List.getElem?_eq_getElem (by omega)] at ha
      cases ha
  · right
    obtain ⟨h1,h2,h3,h4⟩:=qz ha
    have hl:=h.r.len
    obtain ⟨b,hb⟩:∃ b,lo[(v.n - 1).toNat]? = some b:=⟨_,List.getElem?_eq_getElem (by omega)⟩
    refine ⟨_,a,b,h4,hb,rfl,?_⟩
    unfold obR
    rw [if_pos h1,if_neg (by omega)]
    exact hb
theorem z3 (h:HH p id id2 sid tg l ts tb tg2 lo ss sv ov S T M) (v:Vl) (hv:okV v):∃ c,(∀ L X,ci Tryz.prog [] [] 17 [.ptr id 0,vVl v] ⟨S ++ L,T ++ X,M⟩ (fun r s=>s = ⟨S ++ L,T ++ X,M⟩ ∧ r = vS c)) ∧(∀ L X,ci Tryz.prog [] [] 18 [.ptr id2 0,vVl v] ⟨S ++ L,T ++ X,M⟩ (fun r s=>s = ⟨S ++ L,T ++ X,M⟩ ∧ r = vS c)):=by
  have hl:=h.r.le
  have hl2:=h.r.len
  have e1:jp7 l v = clR lo v:=by
    unfold jp7 clR
    show (match obR l v with|some o=>o.1|none=>⟨#[]⟩) = _
    rcases jer h v with ⟨a,b⟩|⟨i,a,b,h1,h2,h3,h4⟩
    · rw [a,b]
    · rw [h3,h4]
      exact (h.r.ob i a b h1 h2).1
  refine ⟨clR lo v,fun L X=>?_,fun L X=>jyk p tg2 lo ss v hv (by omega) _ _ M id2 (h.b.more L X).box⟩
  rw [← e1]
  exact jw6 p tg sid l v hv (by omega) _ _ M id (h.a.more L X).box
theorem jvc (h:HH p id id2 sid tg l ts tb tg2 lo ss sv ov S T M) (L:List (List BV × Nat)) (X:List Nat):ci Tryz.prog [] [] 19 [.ptr id 0] ⟨S ++ L,T ++ X,M⟩ (fun r s=>s = ⟨S ++ L,T ++ X,M⟩ ∧ r = vI lo.length):=by
  rw [h.r.len]
  exact jw4 p tg sid l _ _ M id (h.a.more L X).box
theorem js8:OkV vl0:=by
  refine ⟨by decide,by decide,by decide⟩
theorem z4 (h:HH p id id2 sid tg l ts tb tg2 lo ss sv ov S T M) {k:Tg} {c:Nat} (hk:stR p k = c):∃ m,ss[c]? = some (m,(sv c).length) ∧ 0 ≤ k.nth ∧ k.nth.toNat <(sv c).length ∧ M[m]? = some (y6 (sv c)):=by
  obtain ⟨h1,f,h2,h3,h4,cl,h5,h6,h7⟩:=ja2 hk
  have hlt:=(List.getElem?_eq_some_iff.1 h5).1
  have hlen:=h.r.st.2.2 c cl h5
  have hn:=(List.getElem?_eq_some_iff.1 h7).1
  obtain ⟨⟨m,n⟩,hs⟩:∃ x,ss[c]? = some x:=⟨_,List.getElem?_eq_getElem (by rw [h.b.slen];exact hlt)⟩
  obtain ⟨e1,e2⟩:=h.b.sr c m n hs
  subst e1
  exact ⟨m,hs,h4,by omega,e2 (by omega)⟩
theorem jgj (g:PG p) (h:HH p id id2 sid tg l ts tb tg2 lo ss sv ov S T M) (v:Vl) (hv:okV v) (k:Tg) (hk:okT k):∃ x,OkV x ∧(∀ L X,ci Tryz.prog [] [] 15 [.ptr id 0,vVl v,vTg k] ⟨S ++ L,T ++ X,M⟩ (fun r s=>s = ⟨S ++ L,T ++ X,M⟩ ∧ r = vVl x)) ∧(∀ L X,ci Tryz.prog [] [] 16 [.ptr id2 0,vVl v,vTg k] ⟨S ++ L,T ++ X,M⟩ (fun r s=>s = ⟨S ++ L,T ++ X,M⟩ ∧ r = vVl x)):=by
  have hl:=h.r.le
  have hl2:=h.r.len
  by_cases h0:v.kind = 0
  · have hmp:zw sid l v = some sid:=by unfold zw;rw [if_pos h0]
    have hA:=fun (L:List (List BV × Nat)) (X:List Nat)=>js3 p tg sid l v hv (by omega) k hk sid hmp ts h.a.ok (S ++ L) (T ++ X) M id (h.a.more L X).box h.a.st
    rcases jm1 p k with hst|⟨c,hst⟩
    · rw [h.r.st.1 k hst] at hA
      exact ⟨vl0,js8,hA,fun L X=>joh p tg2 lo ss v hv k hk g.sz h.b.okl (.inl ⟨h0,hst⟩) (h.b.more L X).box⟩
    · obtain ⟨m,q1,q2,q3,q4⟩:=z4 h hst
      rw [h.r.st.2.1 k c hst,List.getElem?_eq_getElem q3] at hA
      exact ⟨(sv c)[k.nth.toNat],h.r.vs c _ (List.getElem_mem q3),hA,fun L X=>ju4 p tg2 lo ss v h0 k g.sz hst q1 q2 (List.getElem?_eq_getElem q3) (h.b.more L X).box q4⟩
  · rcases jer h v with ⟨a,b⟩|⟨i,a,b,h1,h2,h3,h4⟩
    · have hmp:zw sid l v = none:=by
        unfold zw
        rw [if_neg h0,show jhn l v = none from a]
        rfl
      exact ⟨vl0,js8,fun L X=>jva p tg sid l v hv (by omega) k hk hmp _ _ M id (h.a.more L X).box,fun L X=>joh p tg2 lo ss v hv k hk g.sz h.b.okl (.inr ⟨h0,by unfold plR;rw [b];rfl⟩) (h.b.more L X).box⟩
    · have hmp:zw sid l v = some a.2:=by
        unfold zw
        rw [if_neg h0,show jhn l v = some a from h3]
        rfl
      obtain ⟨a1,a2,a3⟩:=h.a.ob i a h1
      have hA:=fun (L:List (List BV × Nat)) (X:List Nat)=>js3 p tg sid l v hv (by omega) k hk a.2 hmp (tb i) a3 (S ++ L) (T ++ X) M id (h.a.more L X).box a2
      obtain ⟨r1,r2⟩:=h.r.ob i a b h1 h2
      rcases hx:ixT k b.2.1 0 with _|j
      · rw [r2.2 k,hx] at hA
        exact ⟨vl0,js8,hA,fun L X=>joh p tg2 lo ss v hv k hk g.sz h.b.okl (.inr ⟨h0,by unfold plR;rw [h4,Option.bind_some,hx]⟩) (h.b.more L X).box⟩
      · obtain ⟨hlt,e⟩:=jeq r2 hx
        rw [e,List.getElem?_eq_getElem hlt] at hA
        obtain ⟨b1,b2⟩:=h.b.ob i b h2
        exact ⟨(ov i)[j],h.r.vo i _ (List.getElem_mem hlt),hA,fun L X=>ju5 p tg2 lo ss v hv h0 k hk h.b.okl h4 hx b1 (List.getElem?_eq_getElem hlt) (h.b.more L X).box (b2 (by omega))⟩
theorem ji3 {vs:List Vl} {i:Nat} {w x:Vl} (h:x ∈ vs.set i w):x ∈ vs ∨ x = w:=List.mem_or_eq_of_mem_set h
theorem jlf (g:PG p) (h:HH p id id2 sid tg l ts tb tg2 lo ss sv ov S T M) (v:Vl) (hv:okV v) (k:Tg) (hk:okT k) (w:Vl) (hw:OkV w):∃ b m m2 M1 M2,(∀ L X,ci Tryz.prog [] [m] 13 [.ptr id 0,vVl v,vTg k,vVl w] ⟨S ++ L,T ++ X,M⟩ (fun r s=>r = vB b ∧ s = ⟨S ++ L,T ++ X,M1⟩)) ∧
    (∀ L X,ci Tryz.prog [] [m2] 14 [.ptr id2 0,vVl v,vTg k,vVl w] ⟨S ++ L,T ++ X,M1⟩ (fun r s=>r = vB b ∧ s = ⟨S ++ L,T ++ X,M2⟩)) ∧ HE p id id2 S T M2:=by
  have hl:=h.r.le
  have hl2:=h.r.len
  by_cases h0:v.kind = 0
  · have hmp:zw sid l v = some sid:=by unfold zw;rw [if_pos h0]
    have hA:=fun (L:List (List BV × Nat)) (X:List Nat)=>jqz p tg sid l v hv (by omega) k hk w sid hmp ts h.a.ok (S ++ L) (T ++ X) M id (h.a.more L X).box h.a.st
    rcases jm1 p k with hst|⟨c,hst⟩
    · rw [h.r.st.1 k hst] at hA
      exact ⟨false,sid,sid,M,M,hA,fun L X=>dz (ja4 [sid] (joi p tg2 lo ss v hv k hk w g.sz h.b.okl (.inl ⟨h0,hst⟩) (h.b.more L X).box)) fun r s q=>⟨q.2,q.1⟩,_,_,_,_,_,_,_,_,_,_,h⟩
    · obtain ⟨m,q1,q2,q3,q4⟩:=z4 h hst
      obtain ⟨_,hrel⟩:=jld g.chk h.r.st hst w
      rw [h.r.st.2.1 k c hst,List.getElem?_eq_getElem q3] at hA
      have hne:sv c ≠ []:=by intro e;rw [e] at q3;simp at q3
      have hsm:sid ≠ m:=un h.a.st q4 hne
      have hM1:(M.set sid (jd (pk ts k w)))[m]? = some (y6 (sv c)):=by
        rw [List.getElem?_set_ne hsm]
        exact q4
      have hsl:=(List.getElem?_eq_some_iff.1 h.a.st).1
      have hml:=(List.getElem?_eq_some_iff.1 q4).1
      refine ⟨true,sid,m,_,_,hA,fun L X=>ju6 p tg2 lo ss v h0 k w g.sz hst q1 q2 q3 (h.b.more L X).box hM1,sid,tg,l,pk ts k w,tb,tg2,lo,ss,fun j=>if j = c then (sv c).set k.nth.toNat w else sv j,ov,?_,?_,?_,h.ne,h.tne⟩
      · have e1:HA p id sid tg l (pk ts k w) tb S T (M.set sid (jd (pk ts k w))):=⟨h.a.box,h.a.tag,List.getElem?_set_self hsl,h.a.ok.put hk w,fun i o ho=>⟨(h.a.ob i o ho).1,by rw [List.getElem?_set_ne (h.a.ob i o ho).1];exact (h.a.ob i o ho).2.1,(h.a.ob i o ho).2.2⟩,h.a.dist⟩
        refine e1.to rfl rfl fun m' t hm'=>?_
        rw [List.getElem?_set_ne (un hm' hM1 hne).symm]
        exact hm'
      · have hB:HB p id2 tg2 lo ss sv ov S T (M.set sid (jd (pk ts k w))):=h.b.to rfl rfl fun m' vs hvs hm'=>by
          rw [List.getElem?_set_ne (un h.a.st hm' hvs)]
          exact hm'
        have hml':m <(M.set sid (jd (pk ts k w))).length:=by rw [List.length_set];exact hml
        refine { hB with sr:=fun c' m' n' hc'=>?_,ob:=fun i o ho=>⟨(hB.ob i o ho).1,fun hn=>?_⟩ }
        · obtain ⟨e1,e2⟩:=hB.sr c' m' n' hc'
          by_cases e:c' = c
          · subst e
            have e3:(m',n') =(m,(sv c').length):=Option.some.inj (hc'.symm.trans q1)
            simp only [Prod.mk.injEq] at e3
            obtain ⟨rfl,rfl⟩:=e3
            rw [if_pos rfl,List.length_set]
            exact ⟨rfl,fun _=>List.getElem?_set_self hml'⟩
          · rw [if_neg e]
            refine ⟨e1,fun hn=>?_⟩
            rw [List.getElem?_set_ne (fun e4=>e (hB.sdist c' c m' n' _ hc' (e4 ▸ q1) hn (by omega)))]
            exact e2 hn
        · rw [List.getElem?_set_ne (hB.cross c m _ i o q1 ho (by omega) hn)]
          exact (hB.ob i o ho).2 hn
      · have hvs:∀(c':Nat) x,x ∈ (if c' = c then (sv c).set k.nth.toNat w else sv c') → OkV x:=fun c' x hx=>by
          split at hx
          · rcases ji3 hx with hx|rfl
            · exact h.r.vs c x hx
            · exact hw
          · exact h.r.vs c' x hx
        exact { h.r with st:=hrel,vs:=hvs }
  · rcases jer h v with ⟨a,b⟩|⟨i,a,b,h1,h2,h3,h4⟩
    · have hmp:zw sid l v = none:=by
        unfold zw
        rw [if_neg h0,show jhn l v = none from a]
        rfl
      exact ⟨false,sid,sid,M,M,fun L X=>dz (ja4 [sid] (jvb p tg sid l v hv (by omega) k hk w hmp _ _ M id (h.a.more L X).box)) fun r s q=>⟨q.2,q.1⟩,fun L X=>dz (ja4 [sid] (joi p tg2 lo ss v hv k hk w g.sz h.b.okl (.inr ⟨h0,by unfold plR;rw [b];rfl⟩) (h.b.more L X).box)) fun r s q=>⟨q.2,q.1⟩,_,_,_,_,_,_,_,_,_,_,h⟩
    · have hmp:zw sid l v = some a.2:=by
        unfold zw
        rw [if_neg h0,show jhn l v = some a from h3]
        rfl
      obtain ⟨a1,a2,a3⟩:=h.a.ob i a h1
      have hA:=fun (L:List (List BV × Nat)) (X:List Nat)=>jqz p tg sid l v hv (by omega) k hk w a.2 hmp (tb i) a3 (S ++ L) (T ++ X) M id (h.a.more L X).box a2
      obtain ⟨r1,r2⟩:=h.r.ob i a b h1 h2
      rcases hx:ixT k b.2.1 0 with _|j
      · rw [r2.2 k,hx] at hA
        exact ⟨false,a.2,a.2,M,M,hA,fun L X=>dz (ja4 [a.2] (joi p tg2 lo ss v hv k hk w g.sz h.b.okl (.inr ⟨h0,by unfold plR;rw [h4,Option.bind_some,hx]⟩) (h.b.more L X).box)) fun r s q=>⟨q.2,q.1⟩,_,_,_,_,_,_,_,_,_,_,h⟩
      · obtain ⟨hlt,e⟩:=jeq r2 hx
        rw [e,List.getElem?_eq_getElem hlt] at hA
        obtain ⟨b1,b2⟩:=h.b.ob i b h2
        have hne:ov i ≠ []:=by intro e;rw [e] at hlt;simp at hlt
        have hbM:=b2 (by omega)
        have ham:a.2 ≠ b.2.2:=un a2 hbM hne
        have hM1:(M.set a.2 (jd (pk (tb i) k w)))[b.2.2]? = some (y6 (ov i)):=by
          rw [List.getElem?_set_ne ham]
          exact hbM
        have hal:=(List.getElem?_eq_some_iff.1 a2).1
        have hml:=(List.getElem?_eq_some_iff.1 hbM).1
        refine ⟨true,a.2,b.2.2,_,_,hA,fun L X=>ju7 p tg2 lo ss v hv h0 k hk w h.b.okl h4 hx b1 hlt (h.b.more L X).box hM1,sid,tg,l,ts,fun j=>if j = i then pk (tb i) k w else tb j,tg2,lo,ss,sv,fun q=>if q = i then (ov i).set j w else ov q,?_,?_,?_,h.ne,h.tne⟩
        · have e1:HA p id sid tg l ts (fun j=>if j = i then pk (tb i) k w else tb j) S T (M.set a.2 (jd (pk (tb i) k w))):=by
            refine { h.a with st:=by rw [List.getElem?_set_ne a1.symm];exact h.a.st,ob:=fun j' o ho=>?_ }
            obtain ⟨o1,o2,o3⟩:=h.a.ob j' o ho
            by_cases e2:j' = i
            · subst e2
              obtain rfl:=Option.some.inj (h1.symm.trans ho)
              rw [if_pos rfl]
              exact ⟨o1,List.getElem?_set_self hal,o3.put hk w⟩
            · rw [if_neg e2]
              refine ⟨o1,?_,o3⟩
              rw [List.getElem?_set_ne (fun e3=>e2 (h.a.dist j' i o a ho h1 e3.symm))]
              exact o2
          refine e1.to rfl rfl fun m' t hm'=>?_
          rw [List.getElem?_set_ne (un hm' hM1 hne).symm]
          exact hm'
        · have hB:HB p id2 tg2 lo ss sv ov S T (M.set a.2 (jd (pk (tb i) k w))):=h.b.to rfl rfl fun m' vs hvs hm'=>by
            rw [List.getElem?_set_ne (un a2 hm' hvs)]
            exact hm'
          have hml':b.2.2 <(M.set a.2 (jd (pk (tb i) k w))).length:=by rw [List.length_set];exact hml
          refine { hB with sr:=fun c' m' n' hc'=>⟨(hB.sr c' m' n' hc').1,fun hn=>?_⟩,ob:=fun j' o ho=>?_ }
          · rw [List.getElem?_set_ne (hB.cross c' m' n' i b hc' h2 hn (by omega)).symm]
            exact (hB.sr c' m' n' hc').2 hn
          · obtain ⟨e1,e2⟩:=hB.ob j' o ho
            by_cases e3:j' = i
            · subst e3
              obtain rfl:=Option.some.inj (h2.symm.trans ho)
              rw [if_pos rfl,List.length_set]
              exact ⟨e1,fun _=>List.getElem?_set_self hml'⟩
            · rw [if_neg e3]
              refine ⟨e1,fun hn=>?_⟩
              rw [List.getElem?_set_ne (fun e4=>e3 (hB.odist j' i o b ho h2 hn (by omega) e4.symm))]
              exact e2 hn
        · refine { h.r with ob:=fun j' a' b' ha' hb'=>?_,vo:=fun q x hq=>?_ }
          · obtain ⟨e1,e2⟩:=h.r.ob j' a' b' ha' hb'
            refine ⟨e1,?_⟩
            by_cases e3:j' = i
            · subst e3
              rw [if_pos rfl,if_pos rfl]
              obtain rfl:=Option.some.inj (h2.symm.trans hb')
              exact jle e2 hx w
            · rw [if_neg e3,if_neg e3]
              exact e2
          · split at hq
            · rcases ji3 hq with hq|rfl
              · exact h.r.vo i x hq
              · exact hw
            · exact h.r.vo q x hq
end
end Go.Proofs.YtinffhimfoicdaaGreat
namespace Go.Proofs.YtinffhimfoicdaaGreat
open Go Go.RowKit Go.Proofs.YtinffhimfoicdaaGreat.Calc
set_option linter.unusedVariables false
set_option linter.unusedSimpArgs false
set_option maxRecDepth 100000
set_option maxHeartbeats 4000000
theorem ja5 {b:Bool} {c:ByteArray} (hc:c.size ≤ 1000000):∀(fs:List Fi) (i:Nat) (t:Tbl),i + fs.length ≤ 1000000 → OKM t → OKM (jb8 b c fs i t)
  | [],_,_,_,h=>h
  | f :: l,i,t,hi,h=>by
    simp only [List.length_cons] at hi
    rw [jb8]
    refine ja5 hc l (i + 1) _ (by omega) ?_
    split
    · exact h.put (m6 hc (by omega)) _
    · exact h
theorem jgk {p:List Cl} (hp:rf p):∀(L:List ByteArray) (t:Tbl),(∀ c ∈ L,c.size ≤ 1000000) → OKM t → OKM (nv p L t)
  | [],_,_,h=>h
  | c :: L,t,hL,h=>by
    rw [nv]
    refine jgk hp L _ (fun x hx=>hL x (List.mem_cons_of_mem _ hx)) ?_
    split
    · rename_i hf
      have hcl:jb7 p (fq p c) = dy p c:=by unfold dy;rw [if_pos hf]
      rw [hcl]
      exact ja5 (hL c List.mem_cons_self) _ 0 _ (by rw [Nat.zero_add];exact v9 hp c) h
    · exact h
theorem jgl:∀(q:List Cl) (t:Tbl),(∀ c ∈ q,c.name.size ≤ 1000000 ∧ c.fields.length ≤ 1000000) → OKM t → OKM (qk q t)
  | [],_,_,h=>h
  | c :: q,t,hq,h=>by
    rw [qk]
    exact jgl q _ (fun x hx=>hq x (List.mem_cons_of_mem _ hx)) (ja5 (hq c List.mem_cons_self).1 _ 0 _ (by rw [Nat.zero_add];exact (hq c List.mem_cons_self).2) h)
theorem ja6 (t:ByteArray):OkV (jv t):=by
  unfold jv OkV
  split
  · exact ⟨by decide,by decide,by decide⟩
  split
  · exact ⟨by decide,by decide,by decide⟩
  split
  · exact ⟨by decide,by decide,by decide⟩
  · exact ⟨by decide,by decide,by decide⟩
theorem PG.small {p:List Cl} (g:PG p):rf p:=sx g.sz
theorem joj:∀ x ∈ BS,x.size ≤ 1000000:=by decide
theorem uo {p:List Cl} (g:PG p) {a c:ByteArray} (h:c ∈ chC p a):c.size ≤ 1000000:=by
  obtain ⟨z,hw,_⟩:=jaq p a
  have:=jih (hw.all c h)
  rcases List.mem_append.1 this with h|h
  · exact joj c h
  · obtain ⟨x,hx,rfl⟩:=List.mem_map.1 h
    exact g.nm x hx
theorem jok {p:List Cl} (g:PG p) {a:ByteArray} {k:Tg} (h:k ∈ r7 p (chC p a)):okT k:=by
  obtain ⟨ho,f,hf,_⟩:=ja3.1 h
  have hs:=uo g ho
  have hfl:=v9 g.small k.own
  unfold sy at hf
  split at hf
  · cases hf
  · have hlt:=(List.getElem?_eq_some_iff.1 hf).1
    obtain ⟨o,n⟩:=k
    dsimp only at *
    have:=m6 (c:=o) (k:=n.toNat) hs (by omega)
    rw [show ((n.toNat:Nat):Int) = n by omega] at this
    exact this
theorem jol {p:List Cl} (g:PG p) (a:ByteArray):(r7 p (chC p a)).length ≤ 1000006000000:=by
  have h1:=wa g.small (chC p a).reverse
  have h2:=sk p a
  have h3:=ec g.sz
  rw [List.length_reverse] at h1
  unfold r7
  omega
theorem ji4 {P:Program} {f:Nat} {args:List BV} {st:St} {Q:BV → St → Prop} {Wm:List Nat} (Wr:List Nat) (h:ci P [] Wm f args st Q):ci P Wr Wm f args st Q:=fun x vs h1 h2 h3 =>
  (h x vs h1 h2 h3).mono fun e w' ⟨r,v,z,e1,e2,e3,e4,e5,e6⟩=>⟨r,v,z,e1,e2,e3,e4,(Step.refl Wr Wm x).trans' e5 (fun i hi _=>by cases hi) (fun i hi _=>.inl hi),e6⟩
section
variable {p:List Cl} {id id2:Nat} {S:List (List BV × Nat)} {T:List Nat} {M:List (List (Value × DV))}
theorem getElem?_snoc {α:Type} {l:List α} {a x:α} {i:Nat} (h:(l ++ [a])[i]? = some x):(i < l.length ∧ l[i]? = some x) ∨(i = l.length ∧ x = a):=by
  by_cases hi:i < l.length
  · rw [List.getElem?_append_left hi] at h
    exact .inl ⟨hi,h⟩
  · have:=(List.getElem?_eq_some_iff.1 h).1
    simp only [List.length_append,List.length_singleton] at this
    obtain rfl:i = l.length:=by omega
    exact .inr ⟨rfl,by simpa using h.symm⟩
theorem ji5 (g:PG p) (h:HE p id id2 S T M) (c:ByteArray):∃ v b S1 T1 M1,OkV v ∧ ci Tryz.prog [id] [] 11 [.ptr id 0,vS c] ⟨S,T,M⟩ (fun r s=>r = .tup [vVl v,vB b] ∧ s = ⟨S1 ++ [],T1 ++ [],M1⟩) ∧ S1.length = S.length ∧(∀ j,j ≠ id → S1[j]? = S[j]?) ∧
    ∀ L X,ci Tryz.prog [id2] [] 12 [.ptr id2 0,vS c] ⟨S1 ++ L,T1 ++ X,M1⟩ (fun r s=>r = .tup [vVl v,vB b] ∧ ∃ S2 T2 M2,s = ⟨S2 ++ [],T2 ++ [],M2⟩ ∧ S2.length =(S1 ++ L).length ∧(∀ j,j ≠ id2 → S2[j]? =(S1 ++ L)[j]?) ∧ HE p id id2 S2 T2 M2):=by
  obtain ⟨sid,tg,l,ts,tb,tg2,lo,ss,sv,ov,h⟩:=h
  have hsm:=g.small
  have hl:=h.r.le
  have hl2:=h.r.len
  by_cases hbad:l.length = 200 ∨ isC p c = false
  · refine ⟨vl0,false,S,T,M,js8,ji4 [id] (dz (jga p hsm.1 tg sid l c (by omega) hbad S T M id h.a.box) fun r s q=>⟨q.2,by rw [List.append_nil,List.append_nil];exact q.1⟩),rfl,fun _ _=>rfl,fun L X=>?_⟩
    refine ji4 [id2] (dz (jlc p tg2 lo ss hsm.1 c (by omega) (by rcases hbad with e|e;exact .inl (by omega);exact .inr e) _ _ M id2 (h.b.more L X).box) fun r s q=>⟨q.2,S ++ L,T ++ X,M,by rw [List.append_nil,List.append_nil];exact q.1,rfl,fun _ _=>rfl,_,_,_,_,_,_,_,_,_,_,h.more L X⟩)
  · have hlt:l.length < 200:=by
      rcases Nat.lt_or_ge l.length 200 with h|h
      · exact h
      · exact absurd (.inl (by omega)) hbad
    have hc:isC p c = true:=by
      cases e:isC p c
      · exact absurd (.inr e) hbad
      · rfl
    have hA:=jcv p hsm tg sid l c hlt hc (fun x hx=>uo g hx) S T M id h.a.box h.a.tag
    have hidl:=(List.getElem?_eq_some_iff.1 h.a.box).1
    have htl:=(List.getElem?_eq_some_iff.1 h.a.tag).1
    have hsl:=(List.getElem?_eq_some_iff.1 h.a.st).1
    have a1:HA p id sid tg (l ++ [(c,M.length)]) ts (fun j=>if j = l.length then nv p (chC p c) [] else tb j) (S.set id ([.d (cy df p),.own 79 2 tg ((l ++ [(c,M.length)]).flatMap gx) (l ++ [(c,M.length)]).length,.d (.map sid)],73)) (T.set tg ((l ++ [(c,M.length)]).flatMap gx).length) (M ++ [jd (nv p (chC p c) [])]):=by
      refine ⟨List.getElem?_set_self hidl,List.getElem?_set_self htl,aa h.a.st,h.a.ok,fun i o ho=>?_,fun i j o o' ho ho' e=>?_⟩
      · rcases getElem?_snoc ho with ⟨hi,ho⟩|⟨rfl,rfl⟩
        · obtain ⟨o1,o2,o3⟩:=h.a.ob i o ho
          have e:(if i = l.length then nv p (chC p c) [] else tb i) = tb i:=if_neg (by omega)
          rw [e]
          exact ⟨o1,aa o2,o3⟩
        · rw [if_pos rfl]
          exact ⟨by dsimp only;omega,by simp,jgk hsm _ _ (fun x hx=>uo g hx) OKM.nil⟩
      · rcases getElem?_snoc ho with ⟨hi,ho⟩|⟨rfl,rfl⟩ <;> rcases getElem?_snoc ho' with ⟨hj,ho'⟩|⟨rfl,rfl⟩
        · exact h.a.dist i j o o' ho ho' e
        · have:=(List.getElem?_eq_some_iff.1 (h.a.ob i o ho).2.1).1
          dsimp only at e
          omega
        · have:=(List.getElem?_eq_some_iff.1 (h.a.ob j o' ho').2.1).1
          dsimp only at e
          omega
        · rfl
    have b1:HB p id2 tg2 lo ss sv ov (S.set id ([.d (cy df p),.own 79 2 tg ((l ++ [(c,M.length)]).flatMap gx) (l ++ [(c,M.length)]).length,.d (.map sid)],73)) (T.set tg ((l ++ [(c,M.length)]).flatMap gx).length) (M ++ [jd (nv p (chC p c) [])]) :=
      h.b.to (List.getElem?_set_ne h.ne) (List.getElem?_set_ne h.tne) (fun _ _ _ h=>aa h)
    refine ⟨⟨4,(l.length:Int) + 1,⟨#[]⟩⟩,true,_,_,_,?_,dz hA fun r s q=>⟨q.1,by rw [List.append_nil,List.append_nil];exact q.2⟩,by rw [List.length_set],fun j hj=>List.getElem?_set_ne (fun e=>hj e.symm),fun L X=>?_⟩
    · refine ⟨by dsimp only;decide,?_,by dsimp only;decide⟩
      unfold Lit.wf
      rw [Bool.and_eq_true,decide_eq_true_eq,decide_eq_true_eq]
      show (-2147483648:Int) ≤(l.length:Int) + 1 ∧(l.length:Int) + 1 ≤ 2147483647
      omega
    generalize S.set id ([.d (cy df p),.own 79 2 tg ((l ++ [(c,M.length)]).flatMap gx) (l ++ [(c,M.length)]).length,.d (.map sid)],73) = S1 at *
    generalize T.set tg ((l ++ [(c,M.length)]).flatMap gx).length = T1 at *
    generalize hM1:M ++ [jd (nv p (chC p c) [])] = M1 at *
    have a2:=a1.more L X
    have b2:=b1.more L X
    generalize S1 ++ L = S2 at *
    generalize T1 ++ X = T2 at *
    have hid2l:=(List.getElem?_eq_some_iff.1 b2.box).1
    have ht2l:=(List.getElem?_eq_some_iff.1 b2.tag).1
    have hB:=ji0 p tg2 lo ss g.sz c (by omega) hc S2 T2 M1 id2 b2.box b2.tag
    refine dz hB fun r s ⟨q1,M',q2,q3⟩=>⟨by rw [q1,hl2],_,_,M',by simp only [List.append_nil];exact q2,by rw [List.length_set],fun j hj=>List.getElem?_set_ne (fun e=>hj e.symm),sid,tg,l ++ [(c,M.length)],ts,fun j=>if j = l.length then nv p (chC p c) [] else tb j,tg2,lo ++ [(c,r7 p (chC p c),M1.length)],ss,sv,fun j=>if j = lo.length then yk p (r7 p (chC p c)) else ov j,?_⟩
    have hpre:∀ {m:Nat} {x:List (Value × DV)},M1[m]? = some x → M'[m]? = some x:=fun {m x} hx=>by
      rcases q3 with ⟨_,rfl⟩|⟨_,rfl⟩
      · exact hx
      · exact aa hx
    have hfl:=jol g c
    refine ⟨a2.to (List.getElem?_set_ne h.ne.symm) (List.getElem?_set_ne h.tne.symm) (fun _ _ h=>hpre h),?_,?_,h.ne,h.tne⟩
    · have b3:HB p id2 tg2 lo ss sv ov S2 T2 M':=b2.to rfl rfl (fun _ _ _ h=>hpre h)
      refine ⟨List.getElem?_set_self hid2l,List.getElem?_set_self ht2l,b3.slen,b3.sr,b3.sdist,fun i o ho=>?_,fun i j o o' ho ho' n1 n2 e=>?_,fun cc m n i o hs ho n1 n2=>?_,?_,?_⟩
      · rcases getElem?_snoc ho with ⟨hi,ho⟩|⟨rfl,rfl⟩
        · have e:(if i = lo.length then yk p (r7 p (chC p c)) else ov i) = ov i:=if_neg (by omega)
          rw [e]
          exact b3.ob i o ho
        · rw [if_pos rfl,tk]
          refine ⟨rfl,fun hn=>?_⟩
          rcases q3 with ⟨e,_⟩|⟨_,rfl⟩
          · exact absurd e hn
          · simp
      · rcases getElem?_snoc ho with ⟨hi,ho⟩|⟨rfl,rfl⟩ <;> rcases getElem?_snoc ho' with ⟨hj,ho'⟩|⟨rfl,rfl⟩
        · exact b3.odist i j o o' ho ho' n1 n2 e
        · have:=(List.getElem?_eq_some_iff.1 ((b2.ob i o ho).2 n1)).1
          dsimp only at e
          omega
        · have:=(List.getElem?_eq_some_iff.1 ((b2.ob j o' ho').2 n2)).1
          dsimp only at e
          omega
        · rfl
      · rcases getElem?_snoc ho with ⟨hi,ho⟩|⟨rfl,rfl⟩
        · exact b3.cross cc m n i o hs ho n1 n2
        · have:=(List.getElem?_eq_some_iff.1 ((b2.sr cc m n hs).2 n1)).1
          dsimp only
          omega
      · simp only [List.length_append,List.length_singleton]
        omega
      · intro o ho
        rcases List.mem_append.1 ho with ho|ho
        · exact b3.okl.2 o ho
        · obtain rfl:=List.mem_singleton.1 ho
          exact ⟨fun t ht=>jok g ht,by dsimp only;omega⟩
    · refine ⟨by simp only [List.length_append,List.length_singleton];omega,by simp only [List.length_append,List.length_singleton];omega,fun i a b ha hb=>?_,h.r.st,h.r.vs,fun j x hx=>?_⟩
      · rcases getElem?_snoc ha with ⟨hi,ha⟩|⟨hi,rfl⟩ <;> rcases getElem?_snoc hb with ⟨hj,hb⟩|⟨hj,rfl⟩
        · have e1:(if i = l.length then nv p (chC p c) [] else tb i) = tb i:=if_neg (by omega)
          have e2:(if i = lo.length then yk p (r7 p (chC p c)) else ov i) = ov i:=if_neg (by omega)
          rw [e1,e2]
          exact h.r.ob i a b ha hb
        · omega
        · omega
        · rw [if_pos hi,if_pos hj]
          exact ⟨rfl,ji2 p _⟩
      · split at hx
        · obtain ⟨k,_,rfl⟩:=List.mem_map.1 hx
          exact ja6 _
        · exact h.r.vo j x hx
end
theorem jvd {p:List Cl} (g:PG p) (hF:(ji p).1 = 0) (S:List (List BV × Nat)) (T:List Nat) (M:List (List (Value × DV))):ci Tryz.prog [] [] 8 [vP p] ⟨S,T,M⟩ (fun r s=>r = .ptr (S.length + 1) 0 ∧ ∃ S1 T1 M1,s = ⟨S1 ++ [],T1 ++ [],M1⟩ ∧ S1.length = S.length + 2 ∧(∀ j,j < S.length → S1[j]? = S[j]?) ∧ HA p (S.length + 1) M.length T.length [] (qk p []) (fun _=>[]) S1 T1 M1 ∧ T1.length = T.length + 1):=by
  refine rt 79 2 (dz (jf8 p g.small g.nm hF S T M) fun r s ⟨hr,hs⟩=>?_)
  subst hr hs
  have e1:(S ++ [([BV.d (cy df p)],26),([.d (cy df p),.tight [] 0,.d (.map M.length)],73)])[S.length + 1]? = some ([.d (cy df p),.tight [] 0,.d (.map M.length)],73):=at_ rfl rfl
  have hlt:=(List.getElem?_eq_some_iff.1 e1).1
  refine ⟨S.length + 1,_,_,1,e1,rfl,rfl,_,_,_,by simp only [List.append_nil];rfl,by simp,fun j hj=>?_,?_,by simp⟩
  · rw [List.getElem?_set_ne (by omega),List.getElem?_append_left hj]
  · exact ⟨by rw [List.getElem?_set_self hlt];rfl,by simp,by simp,jgl p [] (fun c hc=>⟨g.nm c hc,g.small.2 c hc⟩) OKM.nil,nofun,nofun⟩
theorem jve {p:List Cl} (g:PG p) {id sid tg:Nat} {S:List (List BV × Nat)} {T:List Nat} {M:List (List (Value × DV))} (h:HA p id sid tg [] (qk p []) (fun _=>[]) S T M):ci Tryz.prog [] [] 9 [vP p] ⟨S,T,M⟩ (fun r s=>r = .ptr (S.length + 1) 0 ∧ ∃ S1 T1 M1,s = ⟨S1 ++ [],T1 ++ [],M1⟩ ∧ S1.length = S.length + 2 ∧(∀ j,j < S.length → S1[j]? = S[j]?) ∧ HE p id (S.length + 1) S1 T1 M1):=by
  refine rt 84 3 (dz (sp9 p g.small S T M) fun r s ⟨hr,ss,N,hs,hst⟩=>?_)
  subst hr hs
  have e1:(S ++ [([BV.d (cy df p)],26),([.d (cy df p),.tight [] 0,.d (cy qm ss)],54)])[S.length + 1]? = some ([.d (cy df p),.tight [] 0,.d (cy qm ss)],54):=at_ rfl rfl
  have hlt:=(List.getElem?_eq_some_iff.1 e1).1
  have hidl:=(List.getElem?_eq_some_iff.1 h.box).1
  have htl:=(List.getElem?_eq_some_iff.1 h.tag).1
  refine ⟨S.length + 1,_,_,1,e1,rfl,rfl,_,_,_,by simp only [List.append_nil];rfl,by simp,fun j hj=>?_,?_⟩
  · rw [List.getElem?_set_ne (by omega),List.getElem?_append_left hj]
  · refine ⟨sid,tg,[],qk p [],fun _=>[],T.length,[],ss,svI p,fun _=>[],?_,?_,?_,by omega,by omega⟩
    · exact h.to (by rw [List.getElem?_set_ne (by omega)];rw [aa h.box,h.box]) (by rw [aa h.tag,h.tag]) (fun _ _ h=>aa h)
    · refine ⟨by rw [List.getElem?_set_self hlt];rfl,by simp,hst.len,fun c m n hc=>?_,hst.dist,nofun,nofun,nofun,⟨by simp,nofun⟩⟩
      have hcl:=(List.getElem?_eq_some_iff.1 hc).1
      obtain ⟨cl,hcl'⟩:∃ cl,p[c]? = some cl:=⟨_,List.getElem?_eq_getElem (by rw [← hst.len];exact hcl)⟩
      obtain ⟨r1,r2⟩:=hst.row c cl m n hcl' hc
      have e:svI p c = ja1 cl.fields:=by unfold svI;rw [hcl']
      rw [e,tj]
      exact ⟨r1,fun hn=>(r2 hn).2⟩
    · refine ⟨rfl,by simp,nofun,ji1 g.chk,fun c v hv=>?_,nofun⟩
      unfold svI at hv
      split at hv
      · obtain ⟨f,_,rfl⟩:=List.mem_map.1 hv
        exact ja6 _
      · cases hv
end Go.Proofs.YtinffhimfoicdaaGreat
