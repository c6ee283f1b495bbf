/- Texts of the claim, merged: TI, SG, J, PA, PB, PX, PY, PZ, PW, PV. No conditions. -/
import Derived.Test.YtinffhimfoicdaaGreatPq6
import Derived.Test.YtinffhimfoicdaaGreatPq2
import Derived.Test.YtinffhimfoicdaaGreatPq3
import Derived.Test.YtinffhimfoicdaaGreatPq4
namespace Go.Proofs.YtinffhimfoicdaaGreat
open Go Go.RowKit Go.Proofs.YtinffhimfoicdaaGreat.Calc
set_option linter.unusedVariables false
set_option linter.unusedSimpArgs false
set_option maxRecDepth 100000
set_option maxHeartbeats 8000000
theorem ji7 {p:List Cl}:∀ {l:List Cl} {i j:Nat},jar p l i = some j → j < i + l.length
  | [],i,j,h=>by simp [jar] at h
  | c :: l,i,j,h=>by
    rw [jar] at h
    split at h
    · simp only [Option.some.injEq] at h
      rw [List.length_cons];omega
    · have:=ji7 h
      rw [List.length_cons];omega
theorem jes {p:List Cl}:∀ {l:List Cl} {i:Nat} {r:Int × Nat},jf0 p l i = some r → r.2 < i + l.length
  | [],i,r,h=>by simp [jf0] at h
  | c :: l,i,r,h=>by
    rw [jf0] at h
    rw [List.length_cons]
    split at h
    · have:=jes h;omega
    split at h
    · simp only [Option.some.injEq] at h;subst h;dsimp only;omega
    split at h
    · simp only [Option.some.injEq] at h;subst h;dsimp only;omega
    · have:=jes h;omega
theorem ji8 {p:List Cl}:∀ {l:List Cl} {i:Nat} {r:Int × Nat},jf1 p l i = some r → r.2 < i + l.length
  | [],i,r,h=>by simp [jf1] at h
  | c :: l,i,r,h=>by
    rw [jf1] at h
    rw [List.length_cons]
    split at h
    · simp only [Option.some.injEq] at h;subst h;dsimp only;omega
    split at h
    · simp only [Option.some.injEq] at h;subst h;dsimp only;omega
    · have:=ji8 h;omega
theorem ji9 {p:List Cl} (h:¬(eg p).1 = 0):(eg p).2 < p.length:=by
  cases hi:jar p p 0 with
  | some i =>
    have:=ji7 hi
    simp only [eg,hi];omega
  | none =>
    cases hr:jf0 p p 0 with
    | some r =>
      have:=jes hr
      simp only [eg,hi,hr];omega
    | none=>exact absurd (by simp only [eg,hi,hr]) h
theorem jja {p:List Cl} (hc:(eg p).1 = 0) (h:¬(ji p).1 = 0):(ji p).2 < p.length:=by
  have e:¬(eg p).1 ≠ 0:=fun h=>h hc
  cases hr:jf1 p p 0 with
  | some r =>
    have:=ji8 hr
    simp only [ji,if_neg e,hr];omega
  | none=>exact absurd (by simp only [ji,if_neg e,hr]) h
attribute [local irreducible] Tri ew er ci bn db d7 inQ jb
theorem jyr (p:List Cl) (hp:Sz p) (hB:BP p):PC 56 [vP p] (fun r=>∃(cs:List DV) (n:Nat) (e:Int) (s:ByteArray),r = .tup [.agg [.d (.sl cs n)],vI e,vS s] ∧(e = 0 →(eg p).1 = 0 ∧(ji p).1 = 0)):=by
  have hsm:=ec hp
  have hcz:∀(k:Nat) (c:Cl),p[k]? = some c → vd c ≤ 1000000:=fun k c h=>Nat.le_trans (qh (f:=vd) h) hp
  have h69:=jwy p hsm
  have h23:=jx3 p (sx hp)
  have h88:=jyi p hp
  have hcl:=@ji9 p
  have hfl:=@jja p
  generalize (eg p).1 = e1 at *
  generalize (eg p).2 = i1 at *
  generalize (ji p).1 = e2 at *
  generalize (ji p).2 = i2 at *
  intro S T M
  refine am [] [] Tryz.func56 rfl Tryz.ntmps56 Tryz.results56 ?_
  by_cases he1:e1 = 0
  · have k88:=h88 he1
    have kfl:=hfl he1
    clear h88 hfl
    subst he1
    by_cases he2:e2 = 0
    · subst he2
      repeat' (first|apply ab|(apply V;rfl;(first|(apply bl;rfl)|(apply bg;rfl)|(apply cb;(apply plT;rfl);rfl;rfl;decide)|(apply fz;(apply plT;rfl);rfl;rfl;decide)|(apply bj;(apply tyT;rfl);rfl;(apply at_;rfl;rfl);rfl)|(apply ef;(apply tyT;rfl);rfl;rfl)|(apply eu;rfl;rfl)|(apply cg;rfl)|(apply ed;(apply plT;rfl);rfl)|(apply bp;apply elT;rfl;rfl;rfl;rfl;exact da;(have:=hi_ (by assumption);omega);(apply List.getElem?_eq_getElem;(have:=hi_ (by assumption);omega)))))|(apply Vp;rfl;rfl;apply fnT;rfl;apply (js4 p hp hB);rintro _ ⟨(_|_),rfl,hq_⟩)|(apply Vp;rfl;rfl;apply fnT;rfl;apply h69;rintro _ rfl)|(apply Vp;rfl;rfl;apply fnT;rfl;apply h23;rintro _ rfl)|(apply Vp;rfl;rfl;apply fnT;rfl;apply k88;rintro _ ⟨e_,i_,rfl,hi_⟩)|(show Tri _ (.seq (.region 5 _ _) _) _ _ _;exfalso;omega)|(show Tri _ (.seq (.region 8 _ _) _) _ _ _;exfalso;omega)|(apply bt (nt:=95) (.take 0 (.take 1 (.take 2 (.take 3 (.take 4 (.take 5 (.take 6 (.take 7 (.one 8 (.take 9 (.take 10 .nil))))))))))) [S.length + 1] [];exact co;rfl;decide +kernel)|(apply tV;rfl;rfl;(first|(apply bj;(apply tyT;rfl);rfl;(first|(apply at_;rfl;rfl)|(apply aa;assumption));rfl)|(apply bz;(apply tyT;rfl);rfl;(first|(apply at_;rfl;rfl)|(apply aa;assumption));rfl));(apply ek;rfl;(focus (first|(simp;done)|(simp;omega)))))|(apply oS;rfl;rfl;(apply bw;rfl;(apply tyT;rfl);rfl;rfl;rfl;(apply e8;omega;(simp));rfl;rfl;(apply Nat.le_of_ble_eq_true;rfl)))|(apply Vd;rfl;(apply fb;rfl;rfl);all_goals intro h_)|(apply Vw;rfl;(first|(apply cd;rfl;(apply tyT;rfl))|(apply cj;rfl;rfl;rfl)))|(apply Vs;rfl;(apply bw;rfl;(apply tyT;rfl);rfl;rfl;rfl;(first|apply bc|(apply bh;omega));rfl;rfl;(first|decide|(apply Nat.le_of_ble_eq_true;rfl))))|(apply ac;rfl)|apply ak|apply aj|apply ah|apply ai|(apply ae;rfl)|(apply af;rfl)|(apply bf _ (.inr rfl);(exact List.prefix_append _ _);(focus repeat (first|apply a8|(apply a9;rfl)|(apply cp;rfl;rfl;apply tyT;rfl;rfl;rfl)));rfl)|apply ap|apply aw|apply dg|(apply tV;rfl;rfl;(first|(apply bl;rfl)|(apply bg;rfl)|(apply cb;(apply plT;rfl);rfl;rfl;decide)|(apply fz;(apply plT;rfl);rfl;rfl;decide)|(apply bj;(apply tyT;rfl);rfl;(apply at_;rfl;rfl);rfl)|(apply ef;(apply tyT;rfl);rfl;rfl)|(apply eu;rfl;rfl)|(apply cg;rfl)|(apply ed;(apply plT;rfl);rfl)|(apply bp;apply elT;rfl;rfl;rfl;rfl;exact da;(have:=hi_ (by assumption);omega);(apply List.getElem?_eq_getElem;(have:=hi_ (by assumption);omega))));rfl))
      all_goals first
        | exact ⟨_,_,_,_,rfl,fun h=>absurd h (by assumption)⟩
        | exact ⟨_,_,_,_,rfl,fun h=>absurd h (by decide)⟩
        | skip
      obtain ⟨hok,hp20⟩:=hq_ rfl
      refine j4 (id:=S.length + 2) (j:=0) 37 4 (at_ rfl rfl) rfl ?_
      refine cx (fun k:Nat × List DV=>p.length - k.1) (fun k=>[(1,.ptr (S.length + 0) 0),(2,.ptr (S.length + 1) 0),(11,.ptr (S.length + 2) 0),(12,vI k.1)]) (fun k S1 T1=>k.1 ≤ p.length ∧ S.length + 3 ≤ S1.length ∧ T <+: T1 ∧ S1[S.length + 0]? = some ([.d (cy df p)],26) ∧ S1[S.length + 1]? = some ([.tight [] 0],26) ∧ S1[S.length + 2]? = some ([.own 37 4 (T.length + 0) k.2 k.1],26) ∧ T1[T.length + 0]? = some k.2.length) (0,[]) ⟨Nat.zero_le _,by simp,by simp,fe (by omega) (at_ rfl rfl),fe (by omega) (at_ rfl rfl),by rw [List.getElem?_set_self (by simp)];simp,by simp⟩ ⟨rfl,rfl,rfl,rfl,trivial⟩ ?_
      rintro ⟨k,cs⟩ S1 T1 ⟨hk,hS,hT,g0,g1,g2,hT0⟩
      dsimp only at hk g2 hT0 ⊢
      have h00:T.length ≤ T.length + 0:=Nat.le_refl _
      have hlt1:S.length + 1 < S1.length:=by omega
      have hlt2:S.length + 2 < S1.length:=by omega
      repeat' (first|apply ab|(apply V;rfl;(first|(apply bl;rfl)|(apply bg;rfl)|(apply cb;(apply plT;rfl);rfl;rfl;decide)|(apply bj;(apply tyT;rfl);rfl;(apply aa;assumption);rfl)|(apply bz;(apply tyT;rfl);rfl;(apply aa;assumption);rfl)|(apply bq;(apply elT;rfl);rfl;rfl)))|(apply Vs;rfl;(apply fg;(apply tyT;rfl);rfl;rfl;assumption;(apply bh;omega);rfl;rfl;(apply Nat.le_of_ble_eq_true;rfl)))|(apply bf _ (.inr rfl);(first|exact List.prefix_append _ _|assumption|(apply av;assumption)|(apply av;apply dc <;> assumption));(focus repeat (first|apply a8|(apply a9;rfl)|(apply ez;rfl;(apply tyT;rfl);(apply List.getElem?_set_self;assumption);rfl)));rfl)|(apply Vd;rfl;(apply cu;rfl;rfl);all_goals intro h_)|(apply ac;rfl)|apply ak|apply aj|apply ah|apply bd|apply ai|(apply ae;rfl)|(apply af;rfl)|apply ap|apply ey|apply bo)
      · obtain ⟨c,hc⟩:∃ c,p[k]? = some c:=⟨_,List.getElem?_eq_getElem (by omega)⟩
        have hcz':=hcz k c hc
        have h89:=jyq p hp c hcz' (hok c (List.mem_of_getElem? hc)) (hB c (List.mem_of_getElem? hc))
        repeat' (first|apply ab|(apply V;rfl;(first|(apply bl;rfl)|(apply bg;rfl)|(apply cb;(apply plT;rfl);rfl;rfl;decide)|(apply bj;(apply tyT;rfl);rfl;(first|(apply at_;rfl;rfl)|(apply aa;assumption));rfl)|(apply bz;(apply tyT;rfl);rfl;(first|(apply at_;rfl;rfl)|(apply aa;assumption));rfl)|(apply dp;(apply tyT;rfl);rfl;(first|rfl|apply ay|apply ba))|(apply eu;rfl;rfl)|(apply ed;(apply plT;rfl);rfl)|(apply az;rfl;rfl;rfl;omega)|(apply bp (c:=c);apply elT;rfl;rfl;rfl;rfl;exact da;omega;(first|exact hc|simpa using hc))))|(apply Vs;rfl;(apply fg;(apply tyT;rfl);rfl;rfl;assumption;(apply bh;omega);rfl;rfl;(apply Nat.le_of_ble_eq_true;rfl)))|apply nr|(apply de (nt:=95) (.take 0 (.take 1 (.take 2 (.take 3 (.take 4 (.take 5 (.fork 6 (.take 7 (.take 8 (.take 9 (.take 10 (.one 11 (.one 12 (.take 13 (.take 14 .nil)))))))) 11 (.one 6 (.take 7 (.take 8 (.take 9 (.take 10 (.one 12 (.take 13 (.take 14 .nil))))))))))))))) [S1.length + 0] [];exact co;rfl;decide +kernel)|(apply tV;rfl;rfl;(first|(apply bj;(apply tyT;rfl);rfl;(first|(apply at_;rfl;rfl)|(apply aa;assumption));rfl)|(apply bz;(apply tyT;rfl);rfl;(first|(apply at_;rfl;rfl)|(apply aa;assumption));rfl));(apply ek;rfl;(focus (first|(simp;done)|(simp;omega)))))|(apply oS;rfl;rfl;(apply bw;rfl;(apply tyT;rfl);rfl;rfl;rfl;(apply e8;omega;(simp));rfl;rfl;(apply Nat.le_of_ble_eq_true;rfl)))|(apply bf _ (.inr rfl);(first|exact List.prefix_append _ _|assumption|(apply av;assumption)|(apply av;apply dc <;> assumption));(focus repeat (first|apply a8|(apply a9;rfl)|(apply ez;rfl;(apply tyT;rfl);(apply List.getElem?_set_self;assumption);rfl)));rfl)|(apply oP;rfl;rfl;rfl;apply fnT;rfl;apply h89;rintro _ ⟨nm_,su_,c1_,n1_,c2_,n2_,e9_,s_,rfl⟩)|(apply Vd;rfl;(apply fb;rfl;rfl);all_goals intro h_)|(apply Vw;rfl;(first|(apply cd;rfl;(apply tyT;rfl))|(apply d8;rfl;(apply elT;rfl);(apply tyT;rfl);rfl;decide;rfl;rfl)|(apply mf;(apply elT;rfl);(apply tyT;rfl);(apply byT;rfl);rfl;rfl;rfl;decide;rfl;(apply qf;decide;omega;omega;assumption))))|(apply ac;rfl)|apply ak|(apply al;rfl)|apply ah|apply ai|(apply ae;rfl)|(apply af;rfl)|apply ap|apply cq|apply dm|apply aw|apply dg|(apply tV;rfl;rfl;(first|(apply bl;rfl)|(apply bg;rfl)|(apply cb;(apply plT;rfl);rfl;rfl;decide)|(apply bj;(apply tyT;rfl);rfl;(first|(apply at_;rfl;rfl)|(apply aa;assumption));rfl)|(apply bz;(apply tyT;rfl);rfl;(first|(apply at_;rfl;rfl)|(apply aa;assumption));rfl)|(apply dp;(apply tyT;rfl);rfl;(first|rfl|apply ay|apply ba))|(apply eu;rfl;rfl)|(apply ed;(apply plT;rfl);rfl)|(apply az;rfl;rfl;rfl;omega)|(apply bp (c:=c);apply elT;rfl;rfl;rfl;rfl;exact da;omega;(first|exact hc|simpa using hc)));rfl)|(apply oW;rfl;rfl;(first|(apply cd;rfl;(apply tyT;rfl))|(apply d8;rfl;(apply elT;rfl);(apply tyT;rfl);rfl;decide;rfl;rfl)|(apply mf;(apply elT;rfl);(apply tyT;rfl);(apply byT;rfl);rfl;rfl;rfl;decide;rfl;(apply qf;decide;omega;omega;assumption)))))
        all_goals first
          | exact ⟨_,_,_,_,rfl,fun h=>absurd h (by assumption)⟩
          | exact ⟨(k + 1,_),_,_,by dsimp only;omega,⟨by dsimp only;omega,by simp only [List.length_append,List.length_set];omega,av (dc hT h00),aa (fe (by omega) g0),aa (fe (by omega) g1),aa (List.getElem?_set_self hlt2),aa (List.getElem?_set_self (List.getElem?_eq_some_iff.1 hT0).1)⟩,⟨rfl,rfl,rfl,di (by omega),trivial⟩,rfl⟩
      exact ⟨_,_,_,_,rfl,fun _=>⟨rfl,rfl⟩⟩
    · have kfl2:=kfl he2
      repeat' (first|apply ab|(apply V;rfl;(first|(apply bl;rfl)|(apply bg;rfl)|(apply cb;(apply plT;rfl);rfl;rfl;decide)|(apply fz;(apply plT;rfl);rfl;rfl;decide)|(apply bj;(apply tyT;rfl);rfl;(apply at_;rfl;rfl);rfl)|(apply ef;(apply tyT;rfl);rfl;rfl)|(apply eu;rfl;rfl)|(apply cg;rfl)|(apply ed;(apply plT;rfl);rfl)|(apply bp (c:=p[i2]'kfl2);apply elT;rfl;rfl;rfl;rfl;exact da;omega;(simp))))|(apply Vp;rfl;rfl;apply fnT;rfl;apply (js4 p hp hB);rintro _ ⟨(_|_),rfl,hq_⟩)|(apply Vp;rfl;rfl;apply fnT;rfl;apply h69;rintro _ rfl)|(apply Vp;rfl;rfl;apply fnT;rfl;apply h23;rintro _ rfl)|(show Tri _ (.seq (.region 5 _ _) _) _ _ _;exfalso;omega)|(apply bt (nt:=95) (.take 0 (.take 1 (.take 2 (.take 3 (.take 4 (.take 5 (.take 6 (.take 7 (.one 8 (.take 9 (.take 10 .nil))))))))))) [S.length + 1] [];exact co;rfl;decide +kernel)|(apply tV;rfl;rfl;(first|(apply bj;(apply tyT;rfl);rfl;(first|(apply at_;rfl;rfl)|(apply aa;assumption));rfl)|(apply bz;(apply tyT;rfl);rfl;(first|(apply at_;rfl;rfl)|(apply aa;assumption));rfl));(apply ek;rfl;(focus (first|(simp;done)|(simp;omega)))))|(apply oS;rfl;rfl;(apply bw;rfl;(apply tyT;rfl);rfl;rfl;rfl;(apply e8;omega;(simp));rfl;rfl;(apply Nat.le_of_ble_eq_true;rfl)))|(apply Vd;rfl;(apply fb;rfl;rfl);all_goals intro h_)|(apply Vw;rfl;(first|(apply cd;rfl;(apply tyT;rfl))|(apply cj;rfl;rfl;rfl)))|(apply Vs;rfl;(apply bw;rfl;(apply tyT;rfl);rfl;rfl;rfl;(first|apply bc|(apply bh;omega));rfl;rfl;(first|decide|(apply Nat.le_of_ble_eq_true;rfl))))|(apply ac;rfl)|apply ak|apply ah|apply ai|(apply ae;rfl)|(apply af;rfl)|(apply bf _ (.inr rfl);(exact List.prefix_append _ _);(focus repeat (first|apply a8|(apply a9;rfl)|(apply cp;rfl;rfl;apply tyT;rfl;rfl;rfl)));rfl)|apply ap|apply aw|apply dg|(apply tV;rfl;rfl;(first|(apply bl;rfl)|(apply bg;rfl)|(apply cb;(apply plT;rfl);rfl;rfl;decide)|(apply fz;(apply plT;rfl);rfl;rfl;decide)|(apply bj;(apply tyT;rfl);rfl;(apply at_;rfl;rfl);rfl)|(apply ef;(apply tyT;rfl);rfl;rfl)|(apply eu;rfl;rfl)|(apply cg;rfl)|(apply ed;(apply plT;rfl);rfl)|(apply bp (c:=p[i2]'kfl2);apply elT;rfl;rfl;rfl;rfl;exact da;omega;(simp)));rfl)|(show ew _ _ _ _ _ _;exfalso;omega))
      all_goals first
        | exact ⟨_,_,_,_,rfl,fun h=>absurd h he2⟩
        | exact ⟨_,_,_,_,rfl,fun h=>absurd h (by decide)⟩
  · have kcl:=hcl he1
    repeat' (first|apply ab|(apply V;rfl;(first|(apply bl;rfl)|(apply bg;rfl)|(apply cb;(apply plT;rfl);rfl;rfl;decide)|(apply fz;(apply plT;rfl);rfl;rfl;decide)|(apply bj;(apply tyT;rfl);rfl;(apply at_;rfl;rfl);rfl)|(apply ef;(apply tyT;rfl);rfl;rfl)|(apply eu;rfl;rfl)|(apply cg;rfl)|(apply ed;(apply plT;rfl);rfl)|(apply bp (c:=p[i1]'kcl);apply elT;rfl;rfl;rfl;rfl;exact da;omega;(simp))))|(apply Vp;rfl;rfl;apply fnT;rfl;apply (js4 p hp hB);rintro _ ⟨(_|_),rfl,hq_⟩)|(apply Vp;rfl;rfl;apply fnT;rfl;apply h69;rintro _ rfl)|(apply bt (nt:=95) (.take 0 (.take 1 (.take 2 (.take 3 (.take 4 (.take 5 (.take 6 (.take 7 (.one 8 (.take 9 (.take 10 .nil))))))))))) [S.length + 1] [];exact co;rfl;decide +kernel)|(apply tV;rfl;rfl;(first|(apply bj;(apply tyT;rfl);rfl;(first|(apply at_;rfl;rfl)|(apply aa;assumption));rfl)|(apply bz;(apply tyT;rfl);rfl;(first|(apply at_;rfl;rfl)|(apply aa;assumption));rfl));(apply ek;rfl;(focus (first|(simp;done)|(simp;omega)))))|(apply oS;rfl;rfl;(apply bw;rfl;(apply tyT;rfl);rfl;rfl;rfl;(apply e8;omega;(simp));rfl;rfl;(apply Nat.le_of_ble_eq_true;rfl)))|(apply Vd;rfl;(apply fb;rfl;rfl);all_goals intro h_)|(apply Vw;rfl;(first|(apply cd;rfl;(apply tyT;rfl))|(apply cj;rfl;rfl;rfl)))|(apply Vs;rfl;(apply bw;rfl;(apply tyT;rfl);rfl;rfl;rfl;(first|apply bc|(apply bh;omega));rfl;rfl;(first|decide|(apply Nat.le_of_ble_eq_true;rfl))))|(apply ac;rfl)|apply ak|apply ah|apply ai|(apply ae;rfl)|(apply af;rfl)|(apply bf _ (.inr rfl);(exact List.prefix_append _ _);(focus repeat (first|apply a8|(apply a9;rfl)|(apply cp;rfl;rfl;apply tyT;rfl;rfl;rfl)));rfl)|apply ap|apply aw|apply dg|(apply tV;rfl;rfl;(first|(apply bl;rfl)|(apply bg;rfl)|(apply cb;(apply plT;rfl);rfl;rfl;decide)|(apply fz;(apply plT;rfl);rfl;rfl;decide)|(apply bj;(apply tyT;rfl);rfl;(apply at_;rfl;rfl);rfl)|(apply ef;(apply tyT;rfl);rfl;rfl)|(apply eu;rfl;rfl)|(apply cg;rfl)|(apply ed;(apply plT;rfl);rfl)|(apply bp (c:=p[i1]'kcl);apply elT;rfl;rfl;rfl;rfl;exact da;omega;(simp)));rfl)|(show ew _ _ _ _ _ _;exfalso;omega))
    all_goals first
      | exact ⟨_,_,_,_,rfl,fun h=>absurd h he1⟩
      | exact ⟨_,_,_,_,rfl,fun h=>absurd h (by decide)⟩
theorem jys (p:List Cl) (hp:Sz p) (hB:BP p):PC 26 [vP p] (fun r=>∃(e:Int) (s:ByteArray),r = .tup [vI e,vS s] ∧(e = 0 →(eg p).1 = 0 ∧(ji p).1 = 0)):=by
  have h56:=jyr p hp hB
  intro S T M
  refine am [] [] Tryz.func26 rfl Tryz.ntmps26 Tryz.results26 ?_
  repeat' (first|apply ab|(apply V;rfl;(first|(apply bl;rfl)|(apply bg;rfl)|(apply bj;(apply tyT;rfl);rfl;(apply at_;rfl;rfl);rfl)|(apply eu;rfl;rfl)))|(apply Vp;rfl;rfl;apply fnT;rfl;apply h56;rintro _ ⟨cs_,n_,e_,s_,rfl,he_⟩)|(apply Vw;rfl;(first|(apply cd;rfl;(apply tyT;rfl))|(apply cj;rfl;rfl;rfl)))|(apply Vs;rfl;(apply bw;rfl;(apply tyT;rfl);rfl;rfl;rfl;(first|apply bc|(apply bh;omega));rfl;rfl;(first|decide|(apply Nat.le_of_ble_eq_true;rfl))))|(apply ac;rfl)|apply ai|(apply bf _ (.inr rfl);(exact List.prefix_append _ _);(focus repeat (first|apply a8|(apply a9;rfl)));rfl))
  exact ⟨_,_,rfl,he_⟩
end Go.Proofs.YtinffhimfoicdaaGreat
namespace Go.Proofs.YtinffhimfoicdaaGreat
open Go Go.RowKit Go.Proofs.YtinffhimfoicdaaGreat.Calc
set_option linter.unusedVariables false
set_option linter.unusedSimpArgs false
set_option maxRecDepth 100000
set_option maxHeartbeats 8000000
def jjb (x:Int):List DV:=[dI x]
def yl (q:List Int):List DV:=[cy jjb q]
theorem ja7 (x:Int):(jjb x).length = 1:=rfl
theorem tr (x:List Int):(yl x).length = 1:=rfl
section
variable {P:Program} {ρ:Rg} {st:St} {x y:Operand} {t ty:Nat}
theorem jre {a b c:Int} (hx:fl ρ x = some (.int .u64 a)) (hy:fl ρ y = some (.int .u64 b)) (hb:b ≠ 0) (hc:a.tmod b = c):bn P st ρ (.binOp .rem t x y ty) = some (.d (.flat (.int .u64 c))):=by
  subst hc
  simp [bn,hx,hy,eqGuard,binOp,Op.intDiv,hb,dl,c8,d6,jt,js]
end
theorem jjc (n:Nat) (h:n ≤ 1000):IntKind.u64.wrap (n:Int) = n:=by
  show (n:Int) % 18446744073709551616 = n
  omega
theorem jjd (n:Nat) (h:n ≤ 1000):IntKind.i64.wrap (n:Int) = n:=by
  have h1:(n:Int) % 18446744073709551616 = n:=by omega
  show (if (true && decide ((n:Int) % 18446744073709551616 ≥ 9223372036854775808)) = true then (n:Int) % 18446744073709551616 - 18446744073709551616 else (n:Int) % 18446744073709551616) = n
  rw [h1,if_neg]
  simp
  omega
theorem jli (w:Int) (m:Nat) (hm:0 < m):∃ d:Nat,(IntKind.u64.wrap w).tmod m =(d:Int) ∧ d < m:=by
  have hu:=qe w
  have h1:=Int.tmod_nonneg (m:Int) hu
  have h2:=Int.tmod_lt_of_pos (IntKind.u64.wrap w) (b:=(m:Int)) (by omega)
  exact ⟨((IntKind.u64.wrap w).tmod m).toNat,by rw [Int.toNat_of_nonneg h1],by omega⟩
def joq:DV → Bool
  | .flat (.string t)=>decide (t.size ≤ 100)
  | _=>false
theorem jrf:∀ {d:DV},joq d = true → ∃ t:ByteArray,d = dS t ∧ t.size ≤ 100
  | .flat (.string t),h=>⟨t,rfl,of_decide_eq_true h⟩
theorem jrg {cs:List DV} (h:cs.all joq = true) {k:Nat} (hk:k < cs.length):∃ t:ByteArray,(cs.drop (k * 1)).take 1 = [dS t] ∧ t.size ≤ 100:=by
  have e:cs[k]? = some cs[k]:=List.getElem?_eq_getElem hk
  obtain ⟨t,ht,hs⟩:=jrf (List.all_eq_true.1 h _ (List.mem_of_getElem? e))
  refine ⟨t,?_,hs⟩
  rw [Nat.mul_one,List.drop_eq_getElem_cons hk,List.take_succ_cons,ht]
  rfl
def isX (n:Nat) (r:BV):Prop:=∃ t:ByteArray,r = vS t ∧ t.size ≤ n
attribute [local irreducible] Tri ew er ci bn db d7 inQ jb
theorem jje {C:Cx} {c:Code} {ρ:Rg} {st:St} {Q:nl} (N:Rg → St → Prop) (h:N ρ st) (k:∀ ρ st,N ρ st → Tri C c ρ st Q):Tri C c ρ st Q:=k _ _ h
theorem js9 (l:List (List Int)) (i:Nat):PC 52 [.d (cy yl l),vI i] (fun r=>∃ q:List Int,r = .d (cy jjb q)):=by
  intro S T M
  refine am [] [] Tryz.func52 rfl Tryz.ntmps52 Tryz.results52 ?_
  by_cases hi:i < l.length
  · obtain ⟨q,hq⟩:∃ q,l[i]? = some q:=⟨_,List.getElem?_eq_getElem hi⟩
    repeat' (first|apply ab|(apply V;rfl;(first|(apply bl;rfl)|(apply bg;rfl)|(apply ef;(apply tyT;rfl);rfl;rfl)|(apply bq;(apply elT;rfl);rfl;rfl)|(apply bp (c:=q);apply elT;rfl;rfl;rfl;rfl;exact tr;omega;simpa using hq)))|(apply Vd;rfl;(apply cu;rfl;rfl);all_goals intro h_)|(apply ac;rfl)|apply ak|apply ah|apply ai|(apply ae;rfl)|(apply af;rfl)|(apply bf _ (.inr rfl);(exact List.prefix_append _ _);(focus repeat (first|apply a8|(apply a9;rfl)));rfl)|apply ap|apply aw)
    all_goals first|exact ⟨q,rfl⟩|omega
  · repeat' (first|apply ab|(apply V;rfl;(first|(apply bl;rfl)|(apply bg;rfl)|(apply bq;(apply elT;rfl);rfl;rfl)))|(apply Vd;rfl;(apply cu;rfl;rfl);all_goals intro h_)|(apply ac;rfl)|apply ak|apply ah|apply ai|(apply ae;rfl)|(apply af;rfl)|(apply bf _ (.inr rfl);(exact List.prefix_append _ _);(focus repeat (first|apply a8|(apply a9;rfl)));rfl)|apply ap|(exfalso;omega))
    all_goals first|exact ⟨[],rfl⟩|omega
theorem jta (cs:List DV) (n:Nat) (k:Int) (h:cs.all joq = true) (hn:cs.length = n) (h0:0 < n) (h1:n ≤ 1000):PC 53 [.d (.sl cs n),vI k] (isX 100):=by
  intro S T M
  obtain ⟨d,hd,hlt⟩:=jli k n h0
  obtain ⟨t,ht,hs⟩:=jrg h (k:=d) (by omega)
  have hu:=jjc n h1
  have hi:=jjd d (by omega)
  refine am [] [] Tryz.func53 rfl Tryz.ntmps53 Tryz.results53 ?_
  repeat' (first|apply ab|(apply V;rfl;(first|(apply bl;rfl)|(apply bg;rfl)|(apply bq;(apply elT;rfl);rfl;rfl)|(apply kt;rfl;(apply udT;rfl);(apply udT;rfl))|(apply jre;rfl;rfl;(show IntKind.u64.wrap (n:Int) ≠ 0;rw [hu];omega);exact (congrArg (Int.tmod (IntKind.u64.wrap k)) hu).trans hd)|(apply jtx;apply elT;rfl;rfl;rfl;rfl;(show 0 ≤ IntKind.i64.wrap (d:Int) ∧ IntKind.i64.wrap (d:Int) < n;rw [hi];omega))|(apply ef (b:=vS t);apply tyT;rfl;rfl;(show Calc.part _ _ 0 (List.map BV.d ((cs.drop ((IntKind.i64.wrap (d:Int)).toNat * 1)).take 1)) = some (vS t);rw [hi,Int.toNat_natCast,ht];try rfl))))|(apply ac;rfl)|apply ai|(apply bf _ (.inr rfl);(exact List.prefix_append _ _);(focus repeat (first|apply a8|(apply a9;rfl)));rfl))
  all_goals exact ⟨t,rfl,hs⟩
theorem jyt (s a b:ByteArray) (m:Nat) (hs:s.size ≤ m) (hm:m ≤ 100000) (ha:a.size ≤ 1000) (hb:b.size ≤ 1000):PC 54 [vS s,vS a,vS b] (isX (m + 1000)):=by
  intro S T M
  refine am [] [] Tryz.func54 rfl Tryz.ntmps54 Tryz.results54 ?_
  repeat' (first|apply ab|(apply V;rfl;(apply bg;rfl))|(apply ac;rfl)|apply ak|apply aj)
  refine cx (fun k:Nat=>s.size + 1 - k) (fun k=>[(0,vS s),(1,vS a),(2,vS b),(7,vI k)]) (fun k S1 T1=>k ≤ s.size + 1 ∧ S.length ≤ S1.length ∧ T <+: T1) 0 ⟨Nat.zero_le _,by simp,by simp⟩ ⟨rfl,rfl,rfl,rfl,trivial⟩ ?_
  rintro k S1 T1 ⟨hk,hS,hT⟩
  have hk0:(0:Int) ≤ k:=by omega
  repeat' (first|apply ab|(apply V;rfl;(first|(apply bl;rfl)|(apply bg;rfl)|(apply fx;(apply udT;rfl);rfl)|(apply az;rfl;rfl;rfl;omega)|(apply ug;(apply udT;rfl);rfl;rfl;rfl;(first|exact .inr ⟨_,_,rfl,by omega,rfl⟩|exact .inl ⟨rfl,rfl⟩);(first|exact .inr ⟨_,_,rfl,by omega,rfl⟩|exact .inl ⟨rfl,rfl⟩);(first|omega|(simp only [ByteArray.size_append,ByteArray.size_extract,cw,List.size_toArray,List.length_cons,List.length_nil,List.length_append] at *;omega));(first|omega|(simp only [ByteArray.size_append,ByteArray.size_extract,cw,List.size_toArray,List.length_cons,List.length_nil,List.length_append] at *;omega)))|(apply kr;rfl;rfl;(first|omega|(simp only [ByteArray.size_append,ByteArray.size_extract,cw,List.size_toArray,List.length_cons,List.length_nil,List.length_append] at *;omega)))))|(apply bt (nt:=39) (.take 0 (.take 1 (.take 2 (.take 3 (.take 4 (.take 5 (.take 6 (.take 7 (.take 8 (.take 9 (.take 10 (.take 11 (.take 12 .nil))))))))))))) [] [];exact co;rfl;decide +kernel)|(apply Vd;rfl;(first|(apply mj;rfl;rfl)|(apply du;rfl;rfl));all_goals intro h_)|(apply ac;rfl)|apply ak|(apply al;rfl)|apply aj|apply ah|apply bd|apply ai|(apply ae;rfl)|(apply af;rfl)|(apply bf _ (.inr rfl);(apply av;assumption);(focus repeat (first|apply a8|(apply a9;rfl)));rfl)|apply ap|apply ey|apply cq|apply dm|apply aw|apply bo|apply dg|(apply tV;rfl;rfl;(first|(apply bl;rfl)|(apply bg;rfl)|(apply fx;(apply udT;rfl);rfl)|(apply az;rfl;rfl;rfl;omega)|(apply ug;(apply udT;rfl);rfl;rfl;rfl;(first|exact .inr ⟨_,_,rfl,by omega,rfl⟩|exact .inl ⟨rfl,rfl⟩);(first|exact .inr ⟨_,_,rfl,by omega,rfl⟩|exact .inl ⟨rfl,rfl⟩);(first|omega|(simp only [ByteArray.size_append,ByteArray.size_extract,cw,List.size_toArray,List.length_cons,List.length_nil,List.length_append] at *;omega));(first|omega|(simp only [ByteArray.size_append,ByteArray.size_extract,cw,List.size_toArray,List.length_cons,List.length_nil,List.length_append] at *;omega)))|(apply kr;rfl;rfl;(first|omega|(simp only [ByteArray.size_append,ByteArray.size_extract,cw,List.size_toArray,List.length_cons,List.length_nil,List.length_append] at *;omega))));rfl))
  · exact ⟨_,rfl,by simp only [ByteArray.size_append,ByteArray.size_extract];omega⟩
  · exact ⟨k + 1,_,_,by omega,⟨by omega,by simpa using hS,av hT⟩,⟨rfl,rfl,rfl,rfl,trivial⟩,rfl⟩
  · exact ⟨_,rfl,by omega⟩
theorem jvu (q:List Int) (m:Nat) (hm:m ≤ 4) (b:Bool):PC 51 [.d (cy jjb q),vI m,vB b] (isX 404):=by
  intro S T M
  refine am [] [] Tryz.func51 rfl Tryz.ntmps51 Tryz.results51 ?_
  cases b
  all_goals
    repeat' (first|apply ab|(apply V;rfl;(first|(apply bl;rfl)|(apply bg;rfl)))|(show Tri _ (.seq (.seq (.region 2 _ _) _) _) _ _ _;apply ju (fun ρ st=>∃ tg cs n T1,st = ⟨S ++ [],T1,M⟩ ∧ T <+: T1 ∧ cs.all joq = true ∧ cs.length = n ∧ 0 < n ∧ n ≤ 1000 ∧ ng ρ [(0,.d (cy jjb q)),(1,vI m),(7,.own 9 1 tg cs n)]))|(apply Vw;rfl;(first|(apply d8;rfl;(apply elT;rfl);(apply tyT;rfl);rfl;decide;rfl;rfl)|(apply mf;(apply elT;rfl);(apply tyT;rfl);(apply byT;rfl);rfl;rfl;rfl;decide;rfl;(apply jmq;rfl;decide;decide;decide;rfl))))|(apply ac;rfl)|(apply al;rfl)|apply ah|(apply ae;rfl)|(apply af;rfl)|apply ap)
    exact ⟨_,_,_,_,rfl,List.prefix_append _ _,by decide +kernel,rfl,by decide,by decide,rfl,rfl,rfl,trivial⟩
    rintro ρ st ⟨tg,cs,n,T1,rfl,hT1,hcs,hn,h0,h1,hR⟩
    refine c9 (dt hR) ?_
    clear hR
    repeat' (first|apply ab|(apply V;rfl;(apply bg;rfl))|(apply ac;rfl)|apply ak|apply aj)
    refine cx (fun k:Nat × ByteArray=>5 - k.1) (fun k=>[(0,.d (cy jjb q)),(1,vI m),(7,.own 9 1 tg cs n),(8,vS k.2),(9,vI k.1)]) (fun k S2 T2=>k.1 ≤ 4 ∧ k.2.size ≤ 101 * k.1 ∧ S.length ≤ S2.length ∧ T <+: T2) (0,⟨#[]⟩) ⟨Nat.zero_le _,by decide,by simp,hT1⟩ ⟨rfl,rfl,rfl,rfl,rfl,trivial⟩ ?_
    rintro ⟨k,t⟩ S2 T2 ⟨hk,ht,hS,hT⟩
    dsimp only at hk ht ⊢
    have hk0:(0:Int) ≤ k:=by omega
    by_cases hq:k < q.length
    · obtain ⟨x,hx⟩:∃ x,q[k]? = some x:=⟨_,List.getElem?_eq_getElem hq⟩
      repeat' (first|apply ab|(apply V;rfl;(first|(apply bl;rfl)|(apply bg;rfl)|(apply ef;(apply tyT;rfl);rfl;rfl)|(apply bq;(apply elT;rfl);rfl;rfl)|(apply ca;rfl;rfl)|(apply bu;rfl;rfl)|(apply az;rfl;rfl;rfl;omega)|(apply kr;rfl;rfl;(first|omega|(simp only [ByteArray.size_append,ByteArray.size_extract,cw,List.size_toArray,List.length_cons,List.length_nil,List.length_append] at *;omega)))|(apply bp (c:=x);apply elT;rfl;rfl;rfl;rfl;exact ja7;omega;simpa using hx)))|(apply Vp;rfl;rfl;apply fnT;rfl;apply ea;rfl;apply (jta cs n x hcs hn h0 h1);rintro _ ⟨t2,rfl,ht2⟩)|(apply Vd;rfl;(apply cu;rfl;rfl);all_goals intro h_)|(apply Vo;rfl)|(apply ac;rfl)|apply ak|(apply al;rfl)|apply aj|apply ah|apply bd|apply ai|(apply ae;rfl)|(apply af;rfl)|(apply bf _ (.inr rfl);(apply av;assumption);(focus repeat (first|apply a8|(apply a9;rfl)));rfl)|apply ap|apply ey|apply cq|apply bo|(exfalso;omega))
      all_goals first|exact ⟨t,rfl,by omega⟩|contradiction|skip
      exact ⟨(k + 1,_),_,_,by dsimp only;omega,⟨by dsimp only;omega,by simp only [ByteArray.size_append,cw,List.size_toArray,List.length_cons,List.length_nil];omega,by simpa using hS,av hT⟩,⟨rfl,rfl,rfl,rfl,rfl,trivial⟩,rfl⟩
    · repeat' (first|apply ab|(apply V;rfl;(first|(apply bl;rfl)|(apply bg;rfl)|(apply bq;(apply elT;rfl);rfl;rfl)|(apply ca;rfl;rfl)|(apply bu;rfl;rfl)|(apply kr;rfl;rfl;(first|omega|(simp only [ByteArray.size_append,ByteArray.size_extract,cw,List.size_toArray,List.length_cons,List.length_nil,List.length_append] at *;omega)))))|(apply Vd;rfl;(apply cu;rfl;rfl);all_goals intro h_)|(apply Vo;rfl)|(apply ac;rfl)|apply ak|(apply al;rfl)|apply aj|apply ah|apply bd|apply ai|(apply ae;rfl)|(apply af;rfl)|(apply bf _ (.inr rfl);(apply av;assumption);(focus repeat (first|apply a8|(apply a9;rfl)));rfl)|apply ap|apply ey|apply bo|(exfalso;omega))
      all_goals first|exact ⟨t,rfl,by omega⟩|omega
theorem jyu (q:List Int):PC 55 [.d (cy jjb q)] (isX 404):=by
  intro S T M
  refine am [] [] Tryz.func55 rfl Tryz.ntmps55 Tryz.results55 ?_
  · skip
    repeat' (first|apply ab|(apply V;rfl;(apply bg;rfl))|(show Tri _ (.seq (.region 2 _ _) _) _ _ _;apply jje (fun ρ st=>∃ tg cs n T1,st = ⟨S ++ [],T1,M⟩ ∧ T <+: T1 ∧ cs.all joq = true ∧ cs.length = n ∧ 0 < n ∧ n ≤ 1000 ∧ ng ρ [(0,.d (cy jjb q)),(3,.own 9 1 tg cs n)]))|(apply Vw;rfl;(apply d8;rfl;(apply elT;rfl);(apply tyT;rfl);rfl;decide;rfl;rfl))|(apply ac;rfl))
    exact ⟨_,_,_,_,rfl,List.prefix_append _ _,by decide +kernel,rfl,by decide,by decide,rfl,rfl,trivial⟩
    rintro ρ st ⟨tg,cs,n,T1,rfl,hT1,hcs,hn,h0,h1,hR⟩
    refine c9 (dt hR) ?_
    clear hR
    repeat' (first|apply ab|(apply V;rfl;(apply bg;rfl))|(apply ac;rfl)|apply ak|apply aj)
    refine cx (fun k:Nat × ByteArray=>5 - k.1) (fun k=>[(0,.d (cy jjb q)),(3,.own 9 1 tg cs n),(4,vS k.2),(5,vI k.1)]) (fun k S2 T2=>k.1 ≤ 4 ∧ k.2.size ≤ 101 * k.1 ∧ S.length ≤ S2.length ∧ T <+: T2) (0,⟨#[]⟩) ⟨Nat.zero_le _,by decide,by simp,hT1⟩ ⟨rfl,rfl,rfl,rfl,trivial⟩ ?_
    rintro ⟨k,t⟩ S2 T2 ⟨hk,ht,hS,hT⟩
    dsimp only at hk ht ⊢
    have hk0:(0:Int) ≤ k:=by omega
    by_cases hq:k < q.length
    · obtain ⟨x,hx⟩:∃ x,q[k]? = some x:=⟨_,List.getElem?_eq_getElem hq⟩
      repeat' (first|apply ab|(apply V;rfl;(first|(apply bl;rfl)|(apply bg;rfl)|(apply ef;(apply tyT;rfl);rfl;rfl)|(apply bq;(apply elT;rfl);rfl;rfl)|(apply ca;rfl;rfl)|(apply bu;rfl;rfl)|(apply az;rfl;rfl;rfl;omega)|(apply kr;rfl;rfl;(first|omega|(simp only [ByteArray.size_append,ByteArray.size_extract,cw,List.size_toArray,List.length_cons,List.length_nil,List.length_append] at *;omega)))|(apply bp (c:=x);apply elT;rfl;rfl;rfl;rfl;exact ja7;omega;simpa using hx)))|(apply Vp;rfl;rfl;apply fnT;rfl;apply ea;rfl;apply (jta cs n x hcs hn h0 h1);rintro _ ⟨t2,rfl,ht2⟩)|(apply Vd;rfl;(apply cu;rfl;rfl);all_goals intro h_)|(apply Vo;rfl)|(apply ac;rfl)|apply ak|(apply al;rfl)|apply aj|apply ah|apply bd|apply ai|(apply ae;rfl)|(apply af;rfl)|(apply bf _ (.inr rfl);(apply av;assumption);(focus repeat (first|apply a8|(apply a9;rfl)));rfl)|apply ap|apply ey|apply cq|apply bo|(exfalso;omega))
      all_goals first|exact ⟨t,rfl,by omega⟩|contradiction|skip
      exact ⟨(k + 1,_),_,_,by dsimp only;omega,⟨by dsimp only;omega,by simp only [ByteArray.size_append,cw,List.size_toArray,List.length_cons,List.length_nil];omega,by simpa using hS,av hT⟩,⟨rfl,rfl,rfl,rfl,trivial⟩,rfl⟩
    · repeat' (first|apply ab|(apply V;rfl;(first|(apply bl;rfl)|(apply bg;rfl)|(apply bq;(apply elT;rfl);rfl;rfl)|(apply ca;rfl;rfl)|(apply bu;rfl;rfl)|(apply kr;rfl;rfl;(first|omega|(simp only [ByteArray.size_append,ByteArray.size_extract,cw,List.size_toArray,List.length_cons,List.length_nil,List.length_append] at *;omega)))))|(apply Vd;rfl;(apply cu;rfl;rfl);all_goals intro h_)|(apply Vo;rfl)|(apply ac;rfl)|apply ak|(apply al;rfl)|apply aj|apply ah|apply bd|apply ai|(apply ae;rfl)|(apply af;rfl)|(apply bf _ (.inr rfl);(apply av;assumption);(focus repeat (first|apply a8|(apply a9;rfl)));rfl)|apply ap|apply ey|apply bo|(exfalso;omega))
      all_goals first|exact ⟨t,rfl,by omega⟩|omega
theorem pa {a b:ByteArray} {m n:Nat} (ha:a.size ≤ m) (hb:b.size ≤ n):(a ++ b).size ≤ m + n:=by
  rw [ByteArray.size_append]
  omega
theorem jlj {a b:ByteArray} {m n:Nat} (ha:a.size ≤ m) (hb:b.size ≤ n) (h:m + n ≤ 9223372036854775807):a.size + b.size ≤ 9223372036854775807:=by omega
theorem jlk {a m n:Nat} (h:a ≤ m) (h2:m ≤ n):a ≤ n:=Nat.le_trans h h2
theorem jyv (l:List (List Int)):PC 25 [.d (cy yl l)] (isX 100000):=by
  intro S T M
  refine am [] [] Tryz.func25 rfl Tryz.ntmps25 Tryz.results25 ?_
  repeat' (first|apply ab|(apply V;rfl;(first|(apply kr;rfl;rfl;(apply jlj;(focus repeat' (first|assumption|apply pa|(show _ ≤ 1000;apply Nat.le_of_ble_eq_true;rfl)));(focus repeat' (first|assumption|apply pa|(show _ ≤ 1000;apply Nat.le_of_ble_eq_true;rfl)));(first|decide|omega)))|(apply bl;rfl)|(apply bg;rfl)))|(apply Vp;rfl;rfl;apply fnT;rfl;apply (js9 l 0);rintro _ ⟨q0,rfl⟩)|(apply Vp;rfl;rfl;apply fnT;rfl;apply (jvu q0 4 (by decide) false);rintro _ ⟨t0,rfl,ht0⟩)|(show Tri _ (.seq (.seq (.region 3 _ _) _) _) _ _ _;apply jje (fun ρ st=>∃(t3 t4:ByteArray) (T1:List Nat),t3.size ≤ 10000 ∧ t4.size ≤ 100 ∧ T <+: T1 ∧ st = ⟨S ++ [],T1,M⟩ ∧ ng ρ [(0,.d (cy yl l)),(3,vS t3),(4,vS t4)]))|(apply ac;rfl))
  · exact ⟨_,_,_,by first|(apply jlk;(focus repeat' (first|assumption|apply pa|(show _ ≤ 1000;apply Nat.le_of_ble_eq_true;rfl)));(first|decide|omega)),by first|assumption|exact Nat.le_of_ble_eq_true rfl,by first|exact List.prefix_append _ _|(apply av;assumption),rfl,rfl,rfl,rfl,trivial⟩
  rintro ρ st ⟨t3,t4,T1,ht3,ht4,hT1,rfl,hR⟩
  refine c9 (dt hR) ?_
  clear hR
  rw [← List.append_nil T1]
  apply ju (fun ρ st=>∃(t3 t4:ByteArray) (T1:List Nat),t3.size ≤ 20000 ∧ t4.size ≤ 100 ∧ T <+: T1 ∧ st = ⟨S ++ [],T1,M⟩ ∧ ng ρ [(0,.d (cy yl l)),(3,vS t3),(4,vS t4)])
  · obtain ⟨q1,hq1⟩:∃ q,1 < l.length → l[1]? = some q:=by
      by_cases h:1 < l.length
      · exact ⟨_,fun _=>List.getElem?_eq_getElem h⟩
      · exact ⟨[],fun h2=>absurd h2 h⟩
    repeat' (first|apply ab|(apply V;rfl;(first|(apply kr;rfl;rfl;(apply jlj;(focus repeat' (first|assumption|apply pa|(show _ ≤ 1000;apply Nat.le_of_ble_eq_true;rfl)));(focus repeat' (first|assumption|apply pa|(show _ ≤ 1000;apply Nat.le_of_ble_eq_true;rfl)));(first|decide|omega)))|(apply bl;rfl)|(apply bg;rfl)|(apply ef;(apply tyT;rfl);rfl;rfl)|(apply bq;(apply elT;rfl);rfl;rfl)|(apply bp (c:=q1);apply elT;rfl;rfl;rfl;rfl;exact tr;omega;exact hq1 (by omega))))|(apply Vp;rfl;rfl;apply fnT;rfl;apply (js9 l 1);rintro _ ⟨q8,rfl⟩)|(apply Vp;rfl;rfl;apply fnT;rfl;apply (jvu q8 4 (by decide) true);rintro _ ⟨t7,rfl,ht7⟩)|(apply Vp;rfl;rfl;apply fnT;rfl;apply ea;rfl;apply jta;(first|decide +kernel|(simp only [List.all_cons,List.all_nil,joq,Bool.and_true,Bool.and_eq_true,decide_eq_true_eq];exact ⟨Nat.le_of_ble_eq_true rfl,by assumption⟩));rfl;decide;decide;rintro _ ⟨t8,rfl,ht8⟩)|(apply Vd;rfl;(apply gj;rfl;rfl);all_goals intro h_)|(apply Vw;rfl;(apply d8;rfl;(apply elT;rfl);(apply tyT;rfl);rfl;decide;rfl;rfl))|(apply ac;rfl)|(apply al;rfl)|apply ah|(apply ae;rfl)|(apply af;rfl)|apply ap)
    all_goals exact ⟨_,_,_,by first|(apply jlk;(focus repeat' (first|assumption|apply pa|(show _ ≤ 1000;apply Nat.le_of_ble_eq_true;rfl)));(first|decide|omega)),by first|assumption|exact Nat.le_of_ble_eq_true rfl,by first|assumption|exact List.prefix_append _ _|(apply av;assumption),rfl,rfl,rfl,rfl,trivial⟩
  rintro ρ st ⟨t3,t4,T1,ht3,ht4,hT1,rfl,hR⟩
  refine c9 (dt hR) ?_
  clear hR
  rw [← List.append_nil T1]
  apply ju (fun ρ st=>∃(t3 t4:ByteArray) (T1:List Nat),t3.size ≤ 40000 ∧ t4.size ≤ 100 ∧ T <+: T1 ∧ st = ⟨S ++ [],T1,M⟩ ∧ ng ρ [(0,.d (cy yl l)),(3,vS t3),(4,vS t4)])
  · obtain ⟨q2,hq2⟩:∃ q,2 < l.length → l[2]? = some q:=by
      by_cases h:2 < l.length
      · exact ⟨_,fun _=>List.getElem?_eq_getElem h⟩
      · exact ⟨[],fun h2=>absurd h2 h⟩
    repeat' (first|apply ab|(apply V;rfl;(first|(apply kr;rfl;rfl;(apply jlj;(focus repeat' (first|assumption|apply pa|(show _ ≤ 1000;apply Nat.le_of_ble_eq_true;rfl)));(focus repeat' (first|assumption|apply pa|(show _ ≤ 1000;apply Nat.le_of_ble_eq_true;rfl)));(first|decide|omega)))|(apply bl;rfl)|(apply bg;rfl)|(apply ef;(apply tyT;rfl);rfl;rfl)|(apply bq;(apply elT;rfl);rfl;rfl)|(apply bp (c:=q2);apply elT;rfl;rfl;rfl;rfl;exact tr;omega;exact hq2 (by omega))))|(apply Vp;rfl;rfl;apply fnT;rfl;apply (js9 l 2);rintro _ ⟨q8,rfl⟩)|(apply Vp;rfl;rfl;apply fnT;rfl;apply (jvu q8 2 (by decide) false);rintro _ ⟨t7,rfl,ht7⟩)|(apply Vp;rfl;rfl;apply fnT;rfl;apply jyt;(focus repeat' (first|assumption|apply pa|(show _ ≤ 1000;apply Nat.le_of_ble_eq_true;rfl)));(first|decide|omega);exact Nat.le_of_ble_eq_true rfl;exact Nat.le_of_ble_eq_true rfl;rintro _ ⟨t6,rfl,ht6⟩)|(apply Vp;rfl;rfl;apply fnT;rfl;apply ea;rfl;apply jta;(first|decide +kernel|(simp only [List.all_cons,List.all_nil,joq,Bool.and_true,Bool.and_eq_true,decide_eq_true_eq];exact ⟨Nat.le_of_ble_eq_true rfl,by assumption⟩));rfl;decide;decide;rintro _ ⟨t8,rfl,ht8⟩)|(apply Vd;rfl;(apply gj;rfl;rfl);all_goals intro h_)|(apply Vw;rfl;(apply d8;rfl;(apply elT;rfl);(apply tyT;rfl);rfl;decide;rfl;rfl))|(apply ac;rfl)|(apply al;rfl)|apply ah|(apply ae;rfl)|(apply af;rfl)|apply ap)
    all_goals exact ⟨_,_,_,by first|(apply jlk;(focus repeat' (first|assumption|apply pa|(show _ ≤ 1000;apply Nat.le_of_ble_eq_true;rfl)));(first|decide|omega)),by first|assumption|exact Nat.le_of_ble_eq_true rfl,by first|assumption|exact List.prefix_append _ _|(apply av;assumption),rfl,rfl,rfl,rfl,trivial⟩
  rintro ρ st ⟨t3,t4,T1,ht3,ht4,hT1,rfl,hR⟩
  refine c9 (dt hR) ?_
  clear hR
  rw [← List.append_nil T1]
  repeat' (first|apply ab|(apply V;rfl;(first|(apply kr;rfl;rfl;(apply jlj;(focus repeat' (first|assumption|apply pa|(show _ ≤ 1000;apply Nat.le_of_ble_eq_true;rfl)));(focus repeat' (first|assumption|apply pa|(show _ ≤ 1000;apply Nat.le_of_ble_eq_true;rfl)));(first|decide|omega)))|(apply bl;rfl)|(apply bg;rfl)))|(apply Vp;rfl;rfl;apply fnT;rfl;apply (js9 l 3);rintro _ ⟨q8,rfl⟩)|(apply Vp;rfl;rfl;apply fnT;rfl;apply (jyu q8);rintro _ ⟨t7,rfl,ht7⟩)|(apply ac;rfl)|apply ai|(apply bf _ (.inr rfl);(apply av;assumption);(focus repeat (first|apply a8|(apply a9;rfl)));rfl))
  all_goals exact ⟨_,rfl,by apply jlk;(focus repeat' (first|assumption|apply pa|(show _ ≤ 1000;apply Nat.le_of_ble_eq_true;rfl)));(first|decide|omega)⟩
end Go.Proofs.YtinffhimfoicdaaGreat
namespace Go.Proofs.YtinffhimfoicdaaGreat
open Go Go.RowKit Go.Proofs.YtinffhimfoicdaaGreat.Calc
set_option linter.unusedVariables false
set_option linter.unusedSimpArgs false
set_option maxRecDepth 100000
set_option maxHeartbeats 8000000
attribute [local irreducible] Tri ew er ci bn db d7 inQ jb
structure Ws where
  loc:Nat
  bad:Int
  whr:Int
  deep:Int
  late:Bool
  lateAt:Int
def jet (L:List Wd) (N:Int) (s:Ws):List BV:=[.d (cy ro L),vI N,vI s.loc,vI s.bad,vI s.whr,vI s.deep,vB s.late,vI s.lateAt]
abbrev RC (L:List Wd) (N:Int) (s:Ws) (f:Nat) (args:List BV) (R:BV → Prop):Prop:=∀ S T M id,S[id]? = some (jet L N s,105) → ci Tryz.prog [] [] f (.ptr id 0 :: args) ⟨S,T,M⟩ (fun r s=>s = ⟨S,T,M⟩ ∧ R r)
theorem eb (w:Wd):(ro w).length = 3:=rfl
def jjf (L:List Wd) (s:Ws) (more:Nat) (kind:Int) (text:ByteArray):Prop:=s.bad = 0 ∧ ∃ w,L[s.loc + more]? = some w ∧ w.kind = kind ∧(text = ⟨#[]⟩ ∨ w.text = text)
theorem jd1 (L:List Wd) (N:Int) (s:Ws) (more:Nat) (kind:Int) (text:ByteArray) (hL:L.length ≤ 8000) (hl:s.loc ≤ L.length) (hm:more ≤ 10):RC L N s 76 [vI more,vI kind,vS text] (fun r=>∃ b,r = vB b ∧(b = true ↔ jjf L s more kind text)):=by
  intro S T M id hid
  refine am [] [] Tryz.func76 rfl Tryz.ntmps76 Tryz.results76 ?_
  by_cases hlt:s.loc + more < L.length
  · obtain ⟨w,hw⟩:∃ c,L[s.loc + more]? = some c:=⟨_,List.getElem?_eq_getElem hlt⟩
    have hw':L[((s.loc:Int) + more).toNat]? = some w:=by rw [show ((s.loc:Int) + more).toNat = s.loc + more by omega];exact hw
    repeat' (first|apply ab|(apply V;rfl;(first|(apply bl;rfl)|(apply bg;rfl)|(apply cb;(apply plT;rfl);rfl;rfl;decide)|(apply fz;(apply plT;rfl);rfl;rfl;decide)|(apply bz;(apply tyT;rfl);rfl;(apply aa;assumption);rfl)|(apply ef;(apply tyT;rfl);rfl;rfl)|(apply bq;(apply elT;rfl);rfl;rfl)|(apply ck;rfl)|(apply ca;rfl;rfl)|(apply bu;rfl;rfl)|(apply az;rfl;rfl;rfl;omega)|(apply bp (c:=w);apply elT;rfl;rfl;rfl;rfl;exact eb;omega;exact hw')))|(apply Vd;rfl;(first|(apply cu;rfl;rfl)|(apply dq;rfl;rfl)|(apply du;rfl;rfl));all_goals intro h_)|(apply Vo;rfl)|(apply ac;rfl)|apply ai|(apply bf _ (.inr rfl);(exact List.prefix_append _ _);(focus repeat (first|apply a8|(apply a9;rfl)));rfl))
    all_goals first
      | exact ⟨true,rfl,fun _=>⟨by assumption,w,hw,by assumption,by first|exact .inl (by assumption)|exact .inr (by assumption)⟩,fun _=>rfl⟩
      |(refine ⟨false,rfl,nofun,fun ⟨g1,w',g2,g3,g4⟩=>?_⟩;exfalso;first|omega|(obtain rfl:=Option.some.inj (hw.symm.trans g2);first|(exact absurd g3 (by assumption))|(rcases g4 with g4|g4 <;> contradiction)))
  · repeat' (first|apply ab|(apply V;rfl;(first|(apply bl;rfl)|(apply bg;rfl)|(apply cb;(apply plT;rfl);rfl;rfl;decide)|(apply bz;(apply tyT;rfl);rfl;(apply aa;assumption);rfl)|(apply bq;(apply elT;rfl);rfl;rfl)|(apply ck;rfl)|(apply ca;rfl;rfl)|(apply bu;rfl;rfl)|(apply az;rfl;rfl;rfl;omega)))|(apply Vd;rfl;(first|(apply cu;rfl;rfl)|(apply dq;rfl;rfl));all_goals intro h_)|(apply Vo;rfl)|(apply ac;rfl)|apply ai|(apply bf _ (.inr rfl);(exact List.prefix_append _ _);(focus repeat (first|apply a8|(apply a9;rfl)));rfl)|(show ew _ _ _ _ _ _;exfalso;omega))
    all_goals exact ⟨false,rfl,nofun,fun ⟨g1,w',g2,g3,g4⟩=>by
      have:=(List.getElem?_eq_some_iff.1 g2).1
      omega⟩
theorem jdc {s:ByteArray} (h:¬ s = ⟨#[]⟩):(0:Int) < s.size:=by
  rcases Nat.eq_zero_or_pos s.size with h0|h0
  · exfalso
    apply h
    cases s with
    | mk a =>
      congr
      exact Array.eq_empty_of_size_eq_zero h0
  · omega
theorem jdd (L:List Wd) (N:Int) (s:Ws) (text:ByteArray) (hL:L.length ≤ 8000) (hl:s.loc ≤ L.length):RC L N s 48 [vS text] (fun r=>∃ b,r = vB b ∧(b = true ↔ jjf L s 0 4 text)):=by
  intro S T M id hid
  refine am [] [] Tryz.func48 rfl Tryz.ntmps48 Tryz.results48 ?_
  repeat' (first|apply ab|(apply V;rfl;(first|(apply bl;rfl)|(apply bg;rfl)))|(apply Vp;rfl;rfl;apply fnT;rfl;apply (jd1 (L:=L) (s:=s) (more:=0));assumption;assumption;omega;(first|(apply aa;assumption)|(apply aq;assumption));rintro _ ⟨(_|_),rfl,hi_⟩)|(apply ac;rfl)|apply ai|(apply bf _ (.inr rfl);(exact List.prefix_append _ _);(focus repeat (first|apply a8|(apply a9;rfl)));rfl))
  all_goals exact ⟨_,rfl,hi_⟩
theorem jxb (L:List Wd) (N:Int) (s:Ws) (text:ByteArray) (hL:L.length ≤ 8000) (hl:s.loc ≤ L.length):RC L N s 75 [vS text] (fun r=>∃ b,r = vB b ∧(b = true ↔ jjf L s 0 1 text)):=by
  intro S T M id hid
  refine am [] [] Tryz.func75 rfl Tryz.ntmps75 Tryz.results75 ?_
  repeat' (first|apply ab|(apply V;rfl;(first|(apply bl;rfl)|(apply bg;rfl)))|(apply Vp;rfl;rfl;apply fnT;rfl;apply (jd1 (L:=L) (s:=s) (more:=0));assumption;assumption;omega;(first|(apply aa;assumption)|(apply aq;assumption));rintro _ ⟨(_|_),rfl,hi_⟩)|(apply ac;rfl)|apply ai|(apply bf _ (.inr rfl);(exact List.prefix_append _ _);(focus repeat (first|apply a8|(apply a9;rfl)));rfl))
  all_goals exact ⟨_,rfl,hi_⟩
theorem jvv (s:ByteArray) (hs:s.size ≤ 1000000):PC 135 [vS s] isB:=by
  intro S T M
  refine am [] [] Tryz.func135 rfl Tryz.ntmps135 Tryz.results135 ?_
  repeat' (first|apply ab|(apply V;rfl;(first|(apply bl;rfl)|(apply bg;rfl)|(apply ca;rfl;rfl)|(apply bu;rfl;rfl)|(apply cg;rfl)|(apply kt;rfl;(apply udT;rfl);(apply udT;rfl))|(apply nq;apply udT;rfl;rfl;rfl;(refine ⟨by omega,?_⟩;apply jdc;assumption))))|(apply Vp;rfl;rfl;apply fnT;rfl;apply jk1;rintro _ ⟨(_|_),rfl⟩)|(apply Vp;rfl;rfl;apply fnT;rfl;apply jqm;rintro _ ⟨(_|_),rfl⟩)|(apply Vd;rfl;(apply fy;rfl;rfl);all_goals intro h_)|(apply Vo;rfl)|(apply ac;rfl)|apply ai|(apply bf _ (.inr rfl);(exact List.prefix_append _ _);(focus repeat (first|apply a8|(apply a9;rfl)));rfl))
  all_goals exact ⟨_,rfl⟩
theorem jvw (s:ByteArray) (hs:s.size ≤ 1000000):PC 103 [vS s] isB:=by
  intro S T M
  refine am [] [] Tryz.func103 rfl Tryz.ntmps103 Tryz.results103 ?_
  repeat' (first|apply ab|(apply V;rfl;(first|(apply bl;rfl)|(apply bg;rfl)|(apply ca;rfl;rfl)|(apply bu;rfl;rfl)|(apply kt;rfl;(apply udT;rfl);(apply udT;rfl))|(apply nq;apply udT;rfl;rfl;rfl;(refine ⟨by omega,?_⟩;apply jdc;assumption))))|(apply Vp;rfl;rfl;apply fnT;rfl;apply jk2;rintro _ ⟨(_|_),rfl⟩)|(apply Vd;rfl;(apply fy;rfl;rfl);all_goals intro h_)|(apply Vo;rfl)|(apply ac;rfl)|apply ai|(apply bf _ (.inr rfl);(exact List.prefix_append _ _);(focus repeat (first|apply a8|(apply a9;rfl)));rfl))
  all_goals exact ⟨_,rfl⟩
theorem jrh (L:List Wd) (N:Int) (s:Ws) (more:Nat) (hL:L.length ≤ 8000) (hW:∀ w ∈ L,w.text.size ≤ 1000000) (hl:s.loc ≤ L.length) (hm:more ≤ 10):RC L N s 106 [vI more] (fun r=>∃ b,r = vB b ∧(b = true → jjf L s more 1 ⟨#[]⟩)):=by
  intro S T M id hid
  refine am [] [] Tryz.func106 rfl Tryz.ntmps106 Tryz.results106 ?_
  by_cases hat:jjf L s more 1 ⟨#[]⟩
  · obtain ⟨hb0,w,hw,hk,_⟩:=(show _ from hat)
    have hw':L[((s.loc:Int) + more).toNat]? = some w:=by rw [show ((s.loc:Int) + more).toNat = s.loc + more by omega];exact hw
    have hws:=hW w (List.mem_of_getElem? hw)
    repeat' (first|apply ab|(apply V;rfl;(first|(apply bl;rfl)|(apply bg;rfl)|(apply cb;(apply plT;rfl);rfl;rfl;decide)|(apply fz;(apply plT;rfl);rfl;rfl;decide)|(apply bz;(apply tyT;rfl);rfl;(apply aa;assumption);rfl)|(apply ef;(apply tyT;rfl);rfl;rfl)|(apply ck;rfl)|(apply ca;rfl;rfl)|(apply bu;rfl;rfl)|(apply az;rfl;rfl;rfl;omega)|(apply bp (c:=w);apply elT;rfl;rfl;rfl;rfl;exact eb;omega;exact hw')))|(apply bt (nt:=24) (.take 0 (.take 1 (.one 2 (.take 3 (.take 4 (.take 5 (.take 6 (.take 7 (.take 8 (.take 9 (.take 10 (.take 11 (.take 12 (.take 13 (.take 14 (.take 15 (.take 16 (.one 17 (.take 18 (.take 19 .nil)))))))))))))))))))) [] [];exact co;rfl;decide +kernel)|(apply oP;rfl;rfl;rfl;apply fnT;rfl;apply (jd1 (L:=L) (s:=s) (more:=more));assumption;assumption;omega;(first|(apply aa;assumption)|(apply aq;assumption));rintro _ ⟨(_|_),rfl,hi_⟩)|(apply oP;rfl;rfl;rfl;apply fnT;rfl;apply jvv;assumption;rintro _ ⟨(_|_),rfl⟩)|(apply ac;rfl)|apply ai|(apply bf _ (.inr rfl);(exact List.prefix_append _ _);(focus repeat (first|apply a8|(apply a9;rfl)));rfl)|apply dg|(apply tV;rfl;rfl;(first|(apply bl;rfl)|(apply bg;rfl)|(apply cb;(apply plT;rfl);rfl;rfl;decide)|(apply fz;(apply plT;rfl);rfl;rfl;decide)|(apply bz;(apply tyT;rfl);rfl;(apply aa;assumption);rfl)|(apply ef;(apply tyT;rfl);rfl;rfl)|(apply ck;rfl)|(apply ca;rfl;rfl)|(apply bu;rfl;rfl)|(apply az;rfl;rfl;rfl;omega)|(apply bp (c:=w);apply elT;rfl;rfl;rfl;rfl;exact eb;omega;exact hw'));rfl)|(apply tVo;rfl;rfl)|(apply oVo;rfl;rfl))
    all_goals exact ⟨_,rfl,fun _=>hat⟩
  · repeat' (first|apply ab|(apply V;rfl;(first|(apply bl;rfl)|(apply bg;rfl)|(apply cb;(apply plT;rfl);rfl;rfl;decide)|(apply bz;(apply tyT;rfl);rfl;(apply aa;assumption);rfl)|(apply ck;rfl)|(apply bu;rfl;rfl)|(apply az;rfl;rfl;rfl;omega)))|(apply bt (nt:=24) (.take 0 (.take 1 (.one 2 (.take 3 (.take 4 (.take 5 (.take 6 (.take 7 (.take 8 (.take 9 (.take 10 (.take 11 (.take 12 (.take 13 (.take 14 (.take 15 (.take 16 (.one 17 (.take 18 (.take 19 .nil)))))))))))))))))))) [] [];exact co;rfl;decide +kernel)|(apply oP;rfl;rfl;rfl;apply fnT;rfl;apply (jd1 (L:=L) (s:=s) (more:=more));assumption;assumption;omega;(first|(apply aa;assumption)|(apply aq;assumption));rintro _ ⟨(_|_),rfl,hi_⟩)|(apply ac;rfl)|apply ai|(apply bf _ (.inr rfl);(exact List.prefix_append _ _);(focus repeat (first|apply a8|(apply a9;rfl)));rfl)|apply dg|(apply tV;rfl;rfl;(first|(apply bl;rfl)|(apply bg;rfl)|(apply cb;(apply plT;rfl);rfl;rfl;decide)|(apply bz;(apply tyT;rfl);rfl;(apply aa;assumption);rfl)|(apply ck;rfl)|(apply bu;rfl;rfl)|(apply az;rfl;rfl;rfl;omega));rfl)|(apply tVo;rfl;rfl)|(apply oVo;rfl;rfl)|(show er _ _ _ _ _ _ _ _;exact absurd (hi_.1 rfl) hat))
    all_goals exact ⟨_,rfl,nofun⟩
theorem jri (L:List Wd) (N:Int) (s:Ws) (more:Nat) (hL:L.length ≤ 8000) (hW:∀ w ∈ L,w.text.size ≤ 1000000) (hl:s.loc ≤ L.length) (hm:more ≤ 10):RC L N s 73 [vI more] (fun r=>∃ b,r = vB b ∧(b = true → jjf L s more 1 ⟨#[]⟩)):=by
  intro S T M id hid
  refine am [] [] Tryz.func73 rfl Tryz.ntmps73 Tryz.results73 ?_
  by_cases hat:jjf L s more 1 ⟨#[]⟩
  · obtain ⟨hb0,w,hw,hk,_⟩:=(show _ from hat)
    have hw':L[((s.loc:Int) + more).toNat]? = some w:=by rw [show ((s.loc:Int) + more).toNat = s.loc + more by omega];exact hw
    have hws:=hW w (List.mem_of_getElem? hw)
    repeat' (first|apply ab|(apply V;rfl;(first|(apply bl;rfl)|(apply bg;rfl)|(apply cb;(apply plT;rfl);rfl;rfl;decide)|(apply fz;(apply plT;rfl);rfl;rfl;decide)|(apply bz;(apply tyT;rfl);rfl;(apply aa;assumption);rfl)|(apply ef;(apply tyT;rfl);rfl;rfl)|(apply ck;rfl)|(apply ca;rfl;rfl)|(apply bu;rfl;rfl)|(apply az;rfl;rfl;rfl;omega)|(apply bp (c:=w);apply elT;rfl;rfl;rfl;rfl;exact eb;omega;exact hw')))|(apply bt (nt:=24) (.take 0 (.take 1 (.one 2 (.take 3 (.take 4 (.take 5 (.take 6 (.take 7 (.take 8 (.take 9 (.take 10 (.take 11 (.take 12 (.take 13 (.take 14 (.take 15 (.take 16 (.one 17 (.take 18 (.take 19 .nil)))))))))))))))))))) [] [];exact co;rfl;decide +kernel)|(apply oP;rfl;rfl;rfl;apply fnT;rfl;apply (jd1 (L:=L) (s:=s) (more:=more));assumption;assumption;omega;(first|(apply aa;assumption)|(apply aq;assumption));rintro _ ⟨(_|_),rfl,hi_⟩)|(apply oP;rfl;rfl;rfl;apply fnT;rfl;apply jvw;assumption;rintro _ ⟨(_|_),rfl⟩)|(apply ac;rfl)|apply ai|(apply bf _ (.inr rfl);(exact List.prefix_append _ _);(focus repeat (first|apply a8|(apply a9;rfl)));rfl)|apply dg|(apply tV;rfl;rfl;(first|(apply bl;rfl)|(apply bg;rfl)|(apply cb;(apply plT;rfl);rfl;rfl;decide)|(apply fz;(apply plT;rfl);rfl;rfl;decide)|(apply bz;(apply tyT;rfl);rfl;(apply aa;assumption);rfl)|(apply ef;(apply tyT;rfl);rfl;rfl)|(apply ck;rfl)|(apply ca;rfl;rfl)|(apply bu;rfl;rfl)|(apply az;rfl;rfl;rfl;omega)|(apply bp (c:=w);apply elT;rfl;rfl;rfl;rfl;exact eb;omega;exact hw'));rfl)|(apply tVo;rfl;rfl)|(apply oVo;rfl;rfl))
    all_goals exact ⟨_,rfl,fun _=>hat⟩
  · repeat' (first|apply ab|(apply V;rfl;(first|(apply bl;rfl)|(apply bg;rfl)|(apply cb;(apply plT;rfl);rfl;rfl;decide)|(apply bz;(apply tyT;rfl);rfl;(apply aa;assumption);rfl)|(apply ck;rfl)|(apply bu;rfl;rfl)|(apply az;rfl;rfl;rfl;omega)))|(apply bt (nt:=24) (.take 0 (.take 1 (.one 2 (.take 3 (.take 4 (.take 5 (.take 6 (.take 7 (.take 8 (.take 9 (.take 10 (.take 11 (.take 12 (.take 13 (.take 14 (.take 15 (.take 16 (.one 17 (.take 18 (.take 19 .nil)))))))))))))))))))) [] [];exact co;rfl;decide +kernel)|(apply oP;rfl;rfl;rfl;apply fnT;rfl;apply (jd1 (L:=L) (s:=s) (more:=more));assumption;assumption;omega;(first|(apply aa;assumption)|(apply aq;assumption));rintro _ ⟨(_|_),rfl,hi_⟩)|(apply ac;rfl)|apply ai|(apply bf _ (.inr rfl);(exact List.prefix_append _ _);(focus repeat (first|apply a8|(apply a9;rfl)));rfl)|apply dg|(apply tV;rfl;rfl;(first|(apply bl;rfl)|(apply bg;rfl)|(apply cb;(apply plT;rfl);rfl;rfl;decide)|(apply bz;(apply tyT;rfl);rfl;(apply aa;assumption);rfl)|(apply ck;rfl)|(apply bu;rfl;rfl)|(apply az;rfl;rfl;rfl;omega));rfl)|(apply tVo;rfl;rfl)|(apply oVo;rfl;rfl)|(show er _ _ _ _ _ _ _ _;exact absurd (hi_.1 rfl) hat))
    all_goals exact ⟨_,rfl,nofun⟩
end Go.Proofs.YtinffhimfoicdaaGreat
namespace Go.Proofs.YtinffhimfoicdaaGreat
open Go Go.RowKit Go.Proofs.YtinffhimfoicdaaGreat.Calc
set_option linter.unusedVariables false
set_option linter.unusedSimpArgs false
set_option maxRecDepth 100000
set_option maxHeartbeats 8000000
attribute [local irreducible] Tri ew er ci bn db d7 inQ jb
abbrev WC (L:List Wd) (N:Int) (s:Ws) (f:Nat) (args:List BV) (R:Ws → BV → Prop):Prop:=∀ S T M id,S[id]? = some (jet L N s,105) → ci Tryz.prog [id] [] f (.ptr id 0 :: args) ⟨S,T,M⟩ (fun r st=>∃ s',st = ⟨S.set id (jet L N s',105),T,M⟩ ∧ R s' r)
def GW (L:List Wd) (s s':Ws):Prop:=s.loc ≤ s'.loc ∧ s'.loc ≤ L.length ∧ s'.deep = s.deep ∧(s'.bad = 0 → s.bad = 0)
theorem jrj (L:List Wd) (N:Int) (s:Ws) (hL:L.length ≤ 8000) (hl:s.loc ≤ L.length):RC L N s 102 [] isI:=by
  intro S T M id hid
  refine am [] [] Tryz.func102 rfl Tryz.ntmps102 Tryz.results102 ?_
  by_cases hlt:s.loc < L.length
  · obtain ⟨w,hw⟩:∃ c,L[s.loc]? = some c:=⟨_,List.getElem?_eq_getElem hlt⟩
    repeat' (first|apply ab|(apply V;rfl;(first|(apply bl;rfl)|(apply bg;rfl)|(apply cb;(apply plT;rfl);rfl;rfl;decide)|(apply fz;(apply plT;rfl);rfl;rfl;decide)|(apply bz;(apply tyT;rfl);rfl;(apply aa;assumption);rfl)|(apply ef;(apply tyT;rfl);rfl;rfl)|(apply bq;(apply elT;rfl);rfl;rfl)|(apply ck;rfl)|(apply bp (c:=w);apply elT;rfl;rfl;rfl;rfl;exact eb;omega;simpa using hw)))|(apply bt (nt:=28) (.take 0 (.take 1 (.take 2 (.take 3 (.take 4 (.take 5 (.take 6 (.take 7 (.take 8 (.take 9 .nil)))))))))) [] [];exact co;rfl;decide +kernel)|(apply bt (nt:=28) (.take 0 (.take 1 (.take 2 (.take 3 (.take 4 (.take 5 (.take 6 (.take 7 (.take 8 (.take 9 (.take 10 (.take 11 .nil)))))))))))) [] [];exact co;rfl;decide +kernel)|(apply ac;rfl)|apply ak|apply ah|apply ai|(apply ae;rfl)|(apply af;rfl)|(apply bf _ (.inr rfl);(exact List.prefix_append _ _);(focus repeat (first|apply a8|(apply a9;rfl)));rfl)|apply ap|apply aw|apply dg|(apply tV;rfl;rfl;(first|(apply bl;rfl)|(apply bg;rfl)|(apply cb;(apply plT;rfl);rfl;rfl;decide)|(apply fz;(apply plT;rfl);rfl;rfl;decide)|(apply bz;(apply tyT;rfl);rfl;(apply aa;assumption);rfl)|(apply ef;(apply tyT;rfl);rfl;rfl)|(apply bq;(apply elT;rfl);rfl;rfl)|(apply ck;rfl)|(apply bp (c:=w);apply elT;rfl;rfl;rfl;rfl;exact eb;omega;simpa using hw));rfl)|(apply tVd;rfl;rfl;(apply cu;rfl;rfl);rfl;all_goals intro h_))
    all_goals exact ⟨_,rfl⟩
  · repeat' (first|apply ab|(apply V;rfl;(first|(apply bl;rfl)|(apply bg;rfl)|(apply cb;(apply plT;rfl);rfl;rfl;decide)|(apply bz;(apply tyT;rfl);rfl;(apply aa;assumption);rfl)|(apply bq;(apply elT;rfl);rfl;rfl)|(apply ck;rfl)))|(apply bt (nt:=28) (.take 0 (.take 1 (.take 2 (.take 3 (.take 4 (.take 5 (.take 6 (.take 7 (.take 8 (.take 9 .nil)))))))))) [] [];exact co;rfl;decide +kernel)|(apply ac;rfl)|apply ak|apply ah|apply ai|(apply ae;rfl)|(apply af;rfl)|(apply bf _ (.inr rfl);(exact List.prefix_append _ _);(focus repeat (first|apply a8|(apply a9;rfl)));rfl)|apply ap|apply dg|(apply tV;rfl;rfl;(first|(apply bl;rfl)|(apply bg;rfl)|(apply cb;(apply plT;rfl);rfl;rfl;decide)|(apply bz;(apply tyT;rfl);rfl;(apply aa;assumption);rfl)|(apply bq;(apply elT;rfl);rfl;rfl)|(apply ck;rfl));rfl)|(apply tVd;rfl;rfl;(apply cu;rfl;rfl);rfl;all_goals intro h_)|(show Tri _ _ _ _ _;exfalso;omega))
    all_goals exact ⟨_,rfl⟩
theorem jjg (L:List Wd) (N:Int) (s:Ws) (code:Int) (hc:code ≠ 0) (hL:L.length ≤ 8000) (hl:s.loc ≤ L.length):WC L N s 72 [vI code] (fun s' r=>s'.loc = s.loc ∧ s'.deep = s.deep ∧ s'.bad ≠ 0 ∧ r = .tup []):=by
  intro S T M id hid
  have hlt:=(List.getElem?_eq_some_iff.1 hid).1
  refine am [id] [] Tryz.func72 rfl Tryz.ntmps72 Tryz.results72 ?_
  repeat' (first|apply ab|(apply V;rfl;(first|(apply bl;rfl)|(apply cb;(apply plT;rfl);rfl;rfl;decide)|(apply bz;(apply tyT;rfl);rfl;(apply aa;assumption);rfl)|(apply ck;rfl)))|(apply Vp;rfl;rfl;apply fnT;rfl;apply (jrj (L:=L) (s:=s));assumption;assumption;(first|(apply aa;assumption)|(apply aq;assumption));rintro _ ⟨n_,rfl⟩)|(apply Vd;rfl;(apply dq;rfl;rfl);all_goals intro h_)|(apply Vs;rfl;(first|(apply jm;(apply tyT;rfl);rfl;rfl;assumption;(apply bm;simp);rfl;rfl;(first|decide|(apply Nat.le_of_ble_eq_true;rfl)))|(apply fg;(apply tyT;rfl);rfl;rfl;assumption;(apply bm;simp);rfl;rfl;(first|decide|(apply Nat.le_of_ble_eq_true;rfl)))))|(apply ac;rfl)|(apply al;rfl)|apply ah|(apply ae;rfl)|(apply af;rfl)|(apply fm _ (.inl rfl);(exact List.prefix_append _ _);(focus repeat (apply a8));rfl;(first|(apply aq;assumption)|(apply aa;assumption));rfl;rfl))
  · exact ⟨⟨s.loc,code,n_,s.deep,s.late,s.lateAt⟩,rfl,rfl,rfl,hc,rfl⟩
  · exact ⟨s,rfl,rfl,rfl,by assumption,rfl⟩
theorem jor (L:List Wd) (N:Int) (s:Ws) (n:Int):WC L N s 132 [vI n] (fun s' r=>s'.loc = s.loc ∧ s'.deep = s.deep ∧ s'.bad = s.bad ∧ r = .tup []):=by
  obtain ⟨l,b,w,d,la,lat⟩:=s
  intro S T M id hid
  have hlt:=(List.getElem?_eq_some_iff.1 hid).1
  refine am [id] [] Tryz.func132 rfl Tryz.ntmps132 Tryz.results132 ?_
  cases la
  all_goals
    repeat' (first|apply ab|(apply V;rfl;(first|(apply bl;rfl)|(apply cb;(apply plT;rfl);rfl;rfl;decide)|(apply bz;(apply tyT;rfl);rfl;(apply aa;assumption);rfl)|(apply ck;rfl)|(apply ca;rfl;rfl)|(apply bu;rfl;rfl)|(apply cg;rfl)))|(apply Vd;rfl;(apply cu;rfl;rfl);all_goals intro h_)|(apply Vo;rfl)|(apply Vs;rfl;(first|(apply jm;(apply tyT;rfl);rfl;rfl;assumption;(apply bm;simp);rfl;rfl;(first|decide|(apply Nat.le_of_ble_eq_true;rfl)))|(apply fg;(apply tyT;rfl);rfl;rfl;assumption;(apply bm;simp);rfl;rfl;(first|decide|(apply Nat.le_of_ble_eq_true;rfl)))))|(apply ac;rfl)|(apply al;rfl)|apply ah|(apply ae;rfl)|(apply af;rfl)|(apply fm _ (.inl rfl);(exact List.prefix_append _ _);(focus repeat (apply a8));rfl;(first|(apply aq;assumption)|(apply aa;assumption));rfl;rfl))
    all_goals first|exact ⟨⟨l,b,w,d,true,n⟩,rfl,rfl,rfl,rfl,rfl⟩|exact ⟨⟨l,b,w,d,_,_⟩,rfl,rfl,rfl,rfl,rfl⟩
theorem vm (L:List Wd) (N:Int) (s:Ws) (text:ByteArray) (hL:L.length ≤ 8000) (hl:s.loc ≤ L.length):WC L N s 47 [vS text] (fun s' r=>s'.deep = s.deep ∧ s'.bad = s.bad ∧ s'.loc ≤ L.length ∧((r = vB true ∧ s'.loc = s.loc + 1 ∧ s.bad = 0) ∨(r = vB false ∧ s'.loc = s.loc))):=by
  intro S T M id hid
  have hlt:=(List.getElem?_eq_some_iff.1 hid).1
  have in_of:∀ {k:Int},jjf L s 0 k text → s.loc < L.length ∧ s.bad = 0:=fun ⟨h0,w,hw,_⟩=>⟨(List.getElem?_eq_some_iff.1 hw).1,h0⟩
  refine am [id] [] Tryz.func47 rfl Tryz.ntmps47 Tryz.results47 ?_
  repeat' (first|apply ab|(apply V;rfl;(first|(apply bl;rfl)|(apply bg;rfl)|(apply cb;(apply plT;rfl);rfl;rfl;decide)|(apply bz;(apply tyT;rfl);rfl;(apply aa;assumption);rfl)|(apply ck;rfl)|(apply ca;rfl;rfl)|(apply bu;rfl;rfl)|(apply az;rfl;rfl;rfl;omega)))|(apply Vp;rfl;rfl;apply fnT;rfl;apply (jdd (L:=L) (s:=s));assumption;assumption;(first|(apply aa;assumption)|(apply aq;assumption));rintro _ ⟨(_|_),rfl,hi_⟩)|(apply Vp;rfl;rfl;apply fnT;rfl;apply (jxb (L:=L) (s:=s));assumption;assumption;(first|(apply aa;assumption)|(apply aq;assumption));rintro _ ⟨(_|_),rfl,hk_⟩)|(apply Vo;rfl)|(apply Vs;rfl;(apply fg;(apply tyT;rfl);rfl;rfl;assumption;(apply bm;simp);rfl;rfl;(first|decide|(apply Nat.le_of_ble_eq_true;rfl))))|(apply ac;rfl)|apply ak|apply ah|apply ai|(apply ae;rfl)|(apply af;rfl)|(apply fm _ (.inr rfl);(exact List.prefix_append _ _);(focus repeat (first|apply a8|(apply a9;rfl)));rfl;(first|(apply aq;assumption)|(apply aa;assumption));rfl;rfl)|apply ap|apply aw)
  all_goals first
    | exact ⟨s,rfl,rfl,rfl,hl,.inr ⟨rfl,rfl⟩⟩
    |(have h1:=in_of (hi_.1 rfl);exact ⟨⟨s.loc + 1,s.bad,s.whr,s.deep,s.late,s.lateAt⟩,rfl,rfl,rfl,by dsimp only;omega,.inl ⟨rfl,rfl,h1.2⟩⟩)
    |(have h1:=in_of (hk_.1 rfl);exact ⟨⟨s.loc + 1,s.bad,s.whr,s.deep,s.late,s.lateAt⟩,rfl,rfl,rfl,by dsimp only;omega,.inl ⟨rfl,rfl,h1.2⟩⟩)
theorem rh (L:List Wd) (N:Int) (s:Ws) (text:ByteArray) (hL:L.length ≤ 8000) (hl:s.loc ≤ L.length):WC L N s 45 [vS text] (fun s' r=>s'.loc ≤ L.length ∧ s'.deep = s.deep ∧ r = .tup [] ∧((s'.loc = s.loc + 1 ∧ s'.bad = s.bad) ∨(s'.loc = s.loc ∧ s'.bad ≠ 0))):=by
  intro S T M id hid
  have hlt:=(List.getElem?_eq_some_iff.1 hid).1
  refine am [id] [] Tryz.func45 rfl Tryz.ntmps45 Tryz.results45 ?_
  repeat' (first|apply ab|(apply V;rfl;(first|(apply bl;rfl)|(apply cg;rfl)))|(apply Vc;rfl;rfl;apply fnT;rfl;apply (vm (L:=L) (s:=s));assumption;assumption;(first|(apply aa;assumption)|(apply aq;assumption));(intro i_ hi_ _;obtain rfl:=List.mem_singleton.1 hi_;(apply bm;simp));(intro i_ hi_;cases hi_);rintro _ _ ⟨s1,rfl,hd1,hb1,hl1,(⟨rfl,hc1,hz1⟩|⟨rfl,hc1⟩)⟩ <;>(first|rw [au (by assumption)]|rw [ax (by assumption)]|skip))|(apply Vc;rfl;rfl;apply fnT;rfl;apply (jjg (L:=L) (s:=s1));decide;assumption;assumption;(first|(apply aa;assumption)|(apply aq;assumption));(intro i_ hi_ _;obtain rfl:=List.mem_singleton.1 hi_;(apply bm;simp));(intro i_ hi_;cases hi_);rintro _ _ ⟨s2,rfl,hd2,hb2,hz2,rfl⟩ <;>(first|rw [au (by assumption)]|rw [ax (by assumption)]|skip))|(apply ac;rfl)|(apply al;rfl)|apply ah|(apply ae;rfl)|(apply af;rfl)|(apply fm _ (.inl rfl);(exact List.prefix_append _ _);(focus repeat (apply a8));rfl;(first|(apply aq;assumption)|(apply aa;assumption));rfl;rfl))
  · exact ⟨s1,rfl,by omega,by omega,rfl,.inl ⟨hc1,hb1⟩⟩
  · exact ⟨s2,rfl,by omega,by omega,rfl,.inr ⟨by omega,hz2⟩⟩
end Go.Proofs.YtinffhimfoicdaaGreat
namespace Go.Proofs.YtinffhimfoicdaaGreat
open Go Go.RowKit Go.Proofs.YtinffhimfoicdaaGreat.Calc
set_option linter.unusedVariables false
set_option linter.unusedSimpArgs false
set_option maxRecDepth 100000
set_option maxHeartbeats 8000000
attribute [local irreducible] Tri ew er ci bn db d7 inQ jb
theorem jll (L:List Wd) (N:Int) (s:Ws) (hL:L.length ≤ 8000) (hl:s.loc ≤ L.length) (hd0:0 ≤ s.deep) (hd1:s.deep ≤ 41):WC L N s 104 [] (fun s' r=>s'.loc = s.loc ∧((r = vB true ∧ s'.deep = s.deep + 1 ∧ s'.bad = s.bad ∧ s.deep ≤ 40) ∨(r = vB false ∧ s'.deep = s.deep ∧ s'.bad ≠ 0))):=by
  intro S T M id hid
  have hlt:=(List.getElem?_eq_some_iff.1 hid).1
  refine am [id] [] Tryz.func104 rfl Tryz.ntmps104 Tryz.results104 ?_
  repeat' (first|apply ab|(apply V;rfl;(first|(apply bl;rfl)|(apply bg;rfl)|(apply cb;(apply plT;rfl);rfl;rfl;decide)|(apply bz;(apply tyT;rfl);rfl;(apply aa;assumption);rfl)|(apply ck;rfl)|(apply az;rfl;rfl;rfl;omega)))|(apply Vc;rfl;rfl;apply fnT;rfl;apply (jjg (L:=L) (s:=s));decide;assumption;assumption;(first|(apply aa;assumption)|(apply aq;assumption));(intro i_ hi_ _;obtain rfl:=List.mem_singleton.1 hi_;(apply bm;simp));(intro i_ hi_;cases hi_);rintro _ _ ⟨s2,rfl,hd2,hb2,hz2,rfl⟩ <;>(first|rw [au (by assumption)]|rw [ax (by assumption)]|skip))|(apply Vd;rfl;(apply gj;rfl;rfl);all_goals intro h_)|(apply Vs;rfl;(apply fg;(apply tyT;rfl);rfl;rfl;assumption;(apply bm;simp);rfl;rfl;(first|decide|(apply Nat.le_of_ble_eq_true;rfl))))|(apply ac;rfl)|apply ak|apply ah|apply ai|(apply ae;rfl)|(apply af;rfl)|(apply fm _ (.inr rfl);(exact List.prefix_append _ _);(focus repeat (first|apply a8|(apply a9;rfl)));rfl;(first|(apply aq;assumption)|(apply aa;assumption));rfl;rfl)|apply ap|apply aw)
  all_goals first
    | exact ⟨s2,rfl,by omega,.inr ⟨rfl,by omega,hz2⟩⟩
    | exact ⟨⟨s.loc,s.bad,s.whr,s.deep + 1,s.late,s.lateAt⟩,rfl,rfl,.inl ⟨rfl,rfl,rfl,by omega⟩⟩
def jrk (L:List Wd) (s s':Ws):Prop:=s'.loc ≤ L.length ∧ s'.deep = s.deep ∧((s'.loc = s.loc + 1 ∧ s'.bad = 0 ∧ s.bad = 0) ∨(s'.loc = s.loc ∧ s'.bad ≠ 0))
abbrev isT (r:BV):Prop:=∃ t:ByteArray,r = vS t ∧ t.size ≤ 1000000
theorem jvx (L:List Wd) (N:Int) (s:Ws) (hL:L.length ≤ 8000) (hW:∀ w ∈ L,w.text.size ≤ 1000000) (hl:s.loc < L.length) (hb:s.bad = 0):WC L N s 74 [] (fun s' r=>jrk L s s' ∧ isT r):=by
  intro S T M id hid
  have hlt:=(List.getElem?_eq_some_iff.1 hid).1
  have hl':s.loc ≤ L.length:=by omega
  refine am [id] [] Tryz.func74 rfl Tryz.ntmps74 Tryz.results74 ?_
  obtain ⟨w,hw⟩:∃ c,L[s.loc]? = some c:=⟨_,List.getElem?_eq_getElem hl⟩
  have hws:=hW w (List.mem_of_getElem? hw)
  repeat' (first|apply ab|(apply V;rfl;(first|(apply bl;rfl)|(apply bg;rfl)|(apply cb;(apply plT;rfl);rfl;rfl;decide)|(apply fz;(apply plT;rfl);rfl;rfl;decide)|(apply bz;(apply tyT;rfl);rfl;(apply aa;assumption);rfl)|(apply ef;(apply tyT;rfl);rfl;rfl)|(apply fx;(apply udT;rfl);rfl)|(apply ck;rfl)|(apply az;rfl;rfl;rfl;omega)|(apply bp (c:=w);apply elT;rfl;rfl;rfl;rfl;exact eb;omega;simpa using hw)))|(apply bt (nt:=28) (.take 0 (.take 1 (.take 2 (.take 3 (.take 4 (.take 5 (.take 6 (.take 7 (.take 8 (.take 9 (.take 10 (.take 11 .nil)))))))))))) [] [];exact co;rfl;decide +kernel)|(apply Vc;rfl;rfl;apply fnT;rfl;apply (jjg (L:=L) (s:=s));decide;assumption;assumption;(first|(apply aa;assumption)|(apply aq;assumption));(intro i_ hi_ _;obtain rfl:=List.mem_singleton.1 hi_;(apply bm;simp));(intro i_ hi_;cases hi_);rintro _ _ ⟨s2,rfl,hd2,hb2,hz2,rfl⟩ <;>(first|rw [au (by assumption)]|rw [ax (by assumption)]|skip))|(apply Vd;rfl;(apply gj;rfl;rfl);all_goals intro h_)|(apply Vs;rfl;(apply fg;(apply tyT;rfl);rfl;rfl;assumption;(apply bm;simp);rfl;rfl;(first|decide|(apply Nat.le_of_ble_eq_true;rfl))))|(apply ac;rfl)|apply ak|apply ah|apply ai|(apply ae;rfl)|(apply af;rfl)|(apply fm _ (.inr rfl);(exact List.prefix_append _ _);(focus repeat (first|apply a8|(apply a9;rfl)));rfl;(first|(apply aq;assumption)|(apply aa;assumption));rfl;rfl)|apply ap|apply aw|apply dg|(apply tV;rfl;rfl;(first|(apply bl;rfl)|(apply bg;rfl)|(apply cb;(apply plT;rfl);rfl;rfl;decide)|(apply fz;(apply plT;rfl);rfl;rfl;decide)|(apply bz;(apply tyT;rfl);rfl;(apply aa;assumption);rfl)|(apply ef;(apply tyT;rfl);rfl;rfl)|(apply fx;(apply udT;rfl);rfl)|(apply ck;rfl)|(apply az;rfl;rfl;rfl;omega)|(apply bp (c:=w);apply elT;rfl;rfl;rfl;rfl;exact eb;omega;simpa using hw));rfl))
  all_goals first
    | exact ⟨s2,rfl,⟨by omega,by omega,.inr ⟨by omega,hz2⟩⟩,_,rfl,by decide⟩
    | exact ⟨⟨s.loc + 1,s.bad,s.whr,s.deep,s.late,s.lateAt⟩,rfl,⟨by dsimp only;omega,rfl,.inl ⟨rfl,hb,hb⟩⟩,_,rfl,hws⟩
theorem ki {L:List Wd} {s:Ws} {more:Nat} {k:Int} {t:ByteArray} (h:jjf L s more k t):s.loc + more < L.length ∧ s.bad = 0:=by
  obtain ⟨h0,w,hw,_⟩:=h
  exact ⟨(List.getElem?_eq_some_iff.1 hw).1,h0⟩
theorem jlm (L:List Wd) (N:Int) (s:Ws) (hL:L.length ≤ 8000) (hW:∀ w ∈ L,w.text.size ≤ 1000000) (hl:s.loc ≤ L.length):WC L N s 79 [] (fun s' r=>jrk L s s' ∧ isT r):=by
  intro S T M id hid
  have hlt:=(List.getElem?_eq_some_iff.1 hid).1
  refine am [id] [] Tryz.func79 rfl Tryz.ntmps79 Tryz.results79 ?_
  repeat' (first|apply ab|(apply V;rfl;(first|(apply bl;rfl)|(apply bg;rfl)|(apply cg;rfl)))|(apply Vp;rfl;rfl;apply fnT;rfl;apply (jrh (L:=L) (s:=s) (more:=0));assumption;assumption;assumption;omega;(first|(apply aa;assumption)|(apply aq;assumption));rintro _ ⟨(_|_),rfl,hi_⟩)|(apply Vc;rfl;rfl;apply fnT;rfl;apply (jjg (L:=L) (s:=s));decide;assumption;assumption;(first|(apply aa;assumption)|(apply aq;assumption));(intro i_ hi_ _;obtain rfl:=List.mem_singleton.1 hi_;(apply bm;simp));(intro i_ hi_;cases hi_);rintro _ _ ⟨s2,rfl,hd2,hb2,hz2,rfl⟩ <;>(first|rw [au (by assumption)]|rw [ax (by assumption)]|skip))|(apply Vc;rfl;rfl;apply fnT;rfl;apply (jvx (L:=L) (s:=s));assumption;assumption;exact (ki (hi_ rfl)).1;exact (ki (hi_ rfl)).2;(first|(apply aa;assumption)|(apply aq;assumption));(intro i_ hi_ _;obtain rfl:=List.mem_singleton.1 hi_;(apply bm;simp));(intro i_ hi_;cases hi_);rintro _ _ ⟨s3,rfl,ho_,t_,rfl,ht_⟩ <;>(first|rw [au (by assumption)]|rw [ax (by assumption)]|skip))|(apply ac;rfl)|apply ak|apply ah|apply ai|(apply ae;rfl)|(apply af;rfl)|(apply fm _ (.inr rfl);(exact List.prefix_append _ _);(focus repeat (first|apply a8|(apply a9;rfl)));rfl;(first|(apply aq;assumption)|(apply aa;assumption));rfl;rfl)|apply ap|apply aw)
  all_goals first
    | exact ⟨s2,rfl,⟨by omega,by omega,.inr ⟨by omega,hz2⟩⟩,_,rfl,by decide⟩
    | exact ⟨s3,rfl,ho_,_,rfl,ht_⟩
theorem jp9 (L:List Wd) (N:Int) (s:Ws) (hL:L.length ≤ 8000) (hW:∀ w ∈ L,w.text.size ≤ 1000000) (hl:s.loc ≤ L.length):WC L N s 46 [] (fun s' r=>jrk L s s' ∧ isT r):=by
  intro S T M id hid
  have hlt:=(List.getElem?_eq_some_iff.1 hid).1
  refine am [id] [] Tryz.func46 rfl Tryz.ntmps46 Tryz.results46 ?_
  repeat' (first|apply ab|(apply V;rfl;(first|(apply bl;rfl)|(apply bg;rfl)|(apply cg;rfl)))|(apply Vp;rfl;rfl;apply fnT;rfl;apply (jri (L:=L) (s:=s) (more:=0));assumption;assumption;assumption;omega;(first|(apply aa;assumption)|(apply aq;assumption));rintro _ ⟨(_|_),rfl,hi_⟩)|(apply Vc;rfl;rfl;apply fnT;rfl;apply (jjg (L:=L) (s:=s));decide;assumption;assumption;(first|(apply aa;assumption)|(apply aq;assumption));(intro i_ hi_ _;obtain rfl:=List.mem_singleton.1 hi_;(apply bm;simp));(intro i_ hi_;cases hi_);rintro _ _ ⟨s2,rfl,hd2,hb2,hz2,rfl⟩ <;>(first|rw [au (by assumption)]|rw [ax (by assumption)]|skip))|(apply Vc;rfl;rfl;apply fnT;rfl;apply (jvx (L:=L) (s:=s));assumption;assumption;exact (ki (hi_ rfl)).1;exact (ki (hi_ rfl)).2;(first|(apply aa;assumption)|(apply aq;assumption));(intro i_ hi_ _;obtain rfl:=List.mem_singleton.1 hi_;(apply bm;simp));(intro i_ hi_;cases hi_);rintro _ _ ⟨s3,rfl,ho_,t_,rfl,ht_⟩ <;>(first|rw [au (by assumption)]|rw [ax (by assumption)]|skip))|(apply ac;rfl)|apply ak|apply ah|apply ai|(apply ae;rfl)|(apply af;rfl)|(apply fm _ (.inr rfl);(exact List.prefix_append _ _);(focus repeat (first|apply a8|(apply a9;rfl)));rfl;(first|(apply aq;assumption)|(apply aa;assumption));rfl;rfl)|apply ap|apply aw)
  all_goals first
    | exact ⟨s2,rfl,⟨by omega,by omega,.inr ⟨by omega,hz2⟩⟩,_,rfl,by decide⟩
    | exact ⟨s3,rfl,ho_,_,rfl,ht_⟩
theorem jvy (L:List Wd) (N:Int) (s:Ws) (more:Nat) (hL:L.length ≤ 8000) (hW:∀ w ∈ L,w.text.size ≤ 1000000) (hl:s.loc ≤ L.length) (hm:more ≤ 10):RC L N s 107 [vI more] (fun r=>∃ b,r = vB b ∧(b = true → s.loc + more < L.length ∧ s.bad = 0)):=by
  intro S T M id hid
  refine am [] [] Tryz.func107 rfl Tryz.ntmps107 Tryz.results107 ?_
  repeat' (first|apply ab|(apply V;rfl;(first|(apply bl;rfl)|(apply bg;rfl)|(apply ca;rfl;rfl)|(apply bu;rfl;rfl)))|(apply Vp;rfl;rfl;apply fnT;rfl;apply (jd1 (L:=L) (s:=s) (more:=more));assumption;assumption;omega;(first|(apply aa;assumption)|(apply aq;assumption));rintro _ ⟨(_|_),rfl,hi_⟩)|(apply Vp;rfl;rfl;apply fnT;rfl;apply (jri (L:=L) (s:=s) (more:=more));assumption;assumption;assumption;omega;(first|(apply aa;assumption)|(apply aq;assumption));rintro _ ⟨(_|_),rfl,hj_⟩)|(apply Vo;rfl)|(apply ac;rfl)|apply ai|(apply bf _ (.inr rfl);(exact List.prefix_append _ _);(focus repeat (first|apply a8|(apply a9;rfl)));rfl))
  all_goals first
    | exact ⟨true,rfl,fun _=>ki (hi_.1 rfl)⟩
    | exact ⟨true,rfl,fun _=>ki (hj_ rfl)⟩
    | exact ⟨false,rfl,fun h=>Bool.noConfusion h⟩
theorem jvz (L:List Wd) (N:Int) (s:Ws) (hL:L.length ≤ 8000) (hW:∀ w ∈ L,w.text.size ≤ 1000000) (hl:s.loc ≤ L.length):WC L N s 80 [] (fun s' r=>jrk L s s' ∧ isT r):=by
  intro S T M id hid
  have hlt:=(List.getElem?_eq_some_iff.1 hid).1
  refine am [id] [] Tryz.func80 rfl Tryz.ntmps80 Tryz.results80 ?_
  repeat' (first|apply ab|(apply V;rfl;(first|(apply bl;rfl)|(apply bg;rfl)|(apply cg;rfl)))|(apply Vp;rfl;rfl;apply fnT;rfl;apply (jvy (L:=L) (s:=s) (more:=0));assumption;assumption;assumption;omega;(first|(apply aa;assumption)|(apply aq;assumption));rintro _ ⟨(_|_),rfl,hi_⟩)|(apply Vc;rfl;rfl;apply fnT;rfl;apply (jjg (L:=L) (s:=s));decide;assumption;assumption;(first|(apply aa;assumption)|(apply aq;assumption));(intro i_ hi_ _;obtain rfl:=List.mem_singleton.1 hi_;(apply bm;simp));(intro i_ hi_;cases hi_);rintro _ _ ⟨s2,rfl,hd2,hb2,hz2,rfl⟩ <;>(first|rw [au (by assumption)]|rw [ax (by assumption)]|skip))|(apply Vc;rfl;rfl;apply fnT;rfl;apply (jvx (L:=L) (s:=s));assumption;assumption;exact (hi_ rfl).1;exact (hi_ rfl).2;(first|(apply aa;assumption)|(apply aq;assumption));(intro i_ hi_ _;obtain rfl:=List.mem_singleton.1 hi_;(apply bm;simp));(intro i_ hi_;cases hi_);rintro _ _ ⟨s3,rfl,ho_,t_,rfl,ht_⟩ <;>(first|rw [au (by assumption)]|rw [ax (by assumption)]|skip))|(apply ac;rfl)|apply ak|apply ah|apply ai|(apply ae;rfl)|(apply af;rfl)|(apply fm _ (.inr rfl);(exact List.prefix_append _ _);(focus repeat (first|apply a8|(apply a9;rfl)));rfl;(first|(apply aq;assumption)|(apply aa;assumption));rfl;rfl)|apply ap|apply aw)
  all_goals first
    | exact ⟨s2,rfl,⟨by omega,by omega,.inr ⟨by omega,hz2⟩⟩,_,rfl,by decide⟩
    | exact ⟨s3,rfl,ho_,_,rfl,ht_⟩
theorem jv0 (t:ByteArray):PC 137 [vS t] isI:=by
  intro S T M
  refine am [] [] Tryz.func137 rfl Tryz.ntmps137 Tryz.results137 ?_
  repeat' (first|apply ab|(apply V;rfl;(first|(apply bl;rfl)|(apply bg;rfl)))|(apply Vd;rfl;(apply du;rfl;rfl);all_goals intro h_)|(apply ac;rfl)|apply ak|(apply al;rfl)|apply aj|apply ah|apply ai|(apply ae;rfl)|(apply af;rfl)|(apply bf _ (.inr rfl);(exact List.prefix_append _ _);(focus repeat (first|apply a8|(apply a9;rfl)));rfl)|apply ap|apply cq|apply dm|apply aw)
  all_goals exact ⟨_,rfl⟩
theorem jos (x:Int):0 ≤ IntKind.u8.wrap x ∧ IntKind.u8.wrap x ≤ 255:=by
  simp only [IntKind.wrap,IntKind.signed,IntKind.bits,Bool.false_and,Bool.false_eq_true,if_false]
  omega
theorem jjh {n:Int} (h0:0 ≤ n) (h1:n ≤ 1099511627776) (x:Int):IntKind.i64.wrap (n * 10 + IntKind.u8.wrap x) = n * 10 + IntKind.u8.wrap x:=IntWalk.i64_in _ (by have:=jos x;omega)
theorem jln (x:Int):IntKind.i64.wrap (IntKind.u8.wrap x) = IntKind.u8.wrap x:=IntWalk.i64_in _ (by have:=jos x;omega)
theorem jm2 {n:Int} (h0:0 ≤ n) (x:Int):0 ≤(if (1099511627776:Int) < n * 10 + IntKind.u8.wrap x then 1099511627776 else n * 10 + IntKind.u8.wrap x) ∧(if (1099511627776:Int) < n * 10 + IntKind.u8.wrap x then 1099511627776 else n * 10 + IntKind.u8.wrap x) ≤ 1099511627776:=by
  have:=jos x
  split <;> omega
theorem jot {P:Program} {st:St} {ρ:Rg} {x y:Operand} {t ty:Nat} {k:IntKind} {a b c:Int} (hx:fl ρ x = some (.int k a)) (hy:fl ρ y = some (.int k b)) (hc:k.wrap (a + b) = c):bn P st ρ (.binOp .add t x y ty) = some (.d (.flat (.int k c))):=by
  subst hc
  exact qd hx hy
theorem jrl {P:Program} {st:St} {ρ:Rg} {x y:Operand} {t ty:Nat} {k:IntKind} {a b c:Int} (hx:fl ρ x = some (.int k a)) (hy:fl ρ y = some (.int k b)) (hc:k.wrap (a * b) = c):bn P st ρ (.binOp .mul t x y ty) = some (.d (.flat (.int k c))):=by
  subst hc
  exact jd9 hx hy
theorem jrm {P:Program} {st:St} {ρ:Rg} {x:Operand} {s d:Nat} {u:TypeDesc} {j k:IntKind} {n c:Int} (hx:fl ρ x = some (.int j n)) (hs:P.underlying s = some u) (hd:P.underlying d = some (.int k)) (hc:k.wrap n = c):bn P st ρ (.convert s d x) = some (.d (.flat (.int k c))):=by
  subst hc
  exact kt hx hs hd
theorem jrn (L:List Wd) (N:Int) (s:Ws) (most:Int) (hL:L.length ≤ 8000) (hW:∀ w ∈ L,w.text.size ≤ 1000000) (hl:s.loc ≤ L.length):WC L N s 130 [vI most] (fun s' r=>jrk L s s' ∧ ∃ n,r = .d (dN n)):=by
  intro S T M id hid
  have hlt:=(List.getElem?_eq_some_iff.1 hid).1
  refine am [id] [] Tryz.func130 rfl Tryz.ntmps130 Tryz.results130 ?_
  by_cases hat:jjf L s 0 2 ⟨#[]⟩
  · obtain ⟨hb0,w,hw,_⟩:=(show _ from hat)
    have hw':L[((s.loc:Nat):Int).toNat]? = some w:=by simpa using hw
    have hws:=hW w (List.mem_of_getElem? hw)
    have hlx:=(ki hat).1
    repeat' (first|apply ab|(apply V;rfl;(first|(apply bl;rfl)|(apply bg;rfl)|(apply cb;(apply plT;rfl);rfl;rfl;decide)|(apply fz;(apply plT;rfl);rfl;rfl;decide)|(apply bz;(apply tyT;rfl);rfl;(apply aa;assumption);rfl)|(apply ef;(apply tyT;rfl);rfl;rfl)|(apply ck;rfl)|(apply cg;rfl)|(apply bp (c:=w);apply elT;rfl;rfl;rfl;rfl;exact eb;omega;exact hw')))|(apply Vp;rfl;rfl;apply fnT;rfl;apply (jd1 (L:=L) (s:=s) (more:=0));assumption;assumption;omega;(first|(apply aa;assumption)|(apply aq;assumption));rintro _ ⟨(_|_),rfl,hi_⟩)|(apply bt (nt:=53) (.take 0 (.take 1 (.take 2 (.take 3 (.take 4 (.take 5 (.take 6 (.take 7 (.take 8 (.take 9 (.take 10 (.take 11 .nil)))))))))))) [] [];exact co;rfl;decide +kernel)|(apply ac;rfl)|apply ak|apply aj|apply ah|(apply ae;rfl)|(apply af;rfl)|apply ap|apply dg|(apply tV;rfl;rfl;(first|(apply bl;rfl)|(apply bg;rfl)|(apply cb;(apply plT;rfl);rfl;rfl;decide)|(apply fz;(apply plT;rfl);rfl;rfl;decide)|(apply bz;(apply tyT;rfl);rfl;(apply aa;assumption);rfl)|(apply ef;(apply tyT;rfl);rfl;rfl)|(apply ck;rfl)|(apply cg;rfl)|(apply bp (c:=w);apply elT;rfl;rfl;rfl;rfl;exact eb;omega;exact hw'));rfl)|(exfalso;have:=hi_.2 hat;contradiction))
    refine eh (fun k:Nat × Int=>w.text.size - k.1) (fun k=>[(0,.ptr id 0),(1,vI most),(5,vS w.text),(6,vI k.2),(7,vI k.1)]) (fun k=>k.1 ≤ w.text.size ∧ 0 ≤ k.2 ∧ k.2 ≤ 1099511627776) (0,0) ⟨Nat.zero_le _,by decide,by decide⟩ ⟨rfl,rfl,rfl,rfl,rfl,trivial⟩ ?_
    rintro ⟨k,n⟩ ⟨hk,hn0,hn1⟩
    dsimp only at hk hn0 hn1 ⊢
    repeat' (first|apply ab|(apply V;rfl;(first|(apply jrl;rfl;rfl;exact IntWalk.i64_in _ (by omega))|(apply jrm;rfl;apply udT;rfl;apply udT;rfl;exact jln _)|(apply jot;rfl;rfl;exact jjh hn0 hn1 _)|(apply bl;rfl)|(apply bg;rfl)|(apply cb;(apply plT;rfl);rfl;rfl;decide)|(apply bz;(apply tyT;rfl);rfl;(apply aa;assumption);rfl)|(apply fx;(apply udT;rfl);rfl)|(apply ck;rfl)|(apply kt;rfl;(apply udT;rfl);(apply udT;rfl))|(apply nq;(apply udT;rfl);rfl;rfl;omega)|(apply az;rfl;rfl;rfl;omega)|(apply rc;rfl;rfl)|(apply jea;rfl;rfl)))|(apply Vc;rfl;rfl;apply fnT;rfl;apply (jjg (L:=L) (s:=s));decide;assumption;assumption;(first|(apply aa;assumption)|(apply aq;assumption));(intro i_ hi_ _;obtain rfl:=List.mem_singleton.1 hi_;(apply bm;simp));(intro i_ hi_;cases hi_);rintro _ _ ⟨s2,rfl,hd2,hb2,hz2,rfl⟩ <;>(first|rw [au (by assumption)]|rw [ax (by assumption)]|skip))|(apply Vd;rfl;(first|(apply cu;rfl;rfl)|(apply gj;rfl;rfl));all_goals intro h_)|(apply Vs;rfl;(apply fg;(apply tyT;rfl);rfl;rfl;assumption;(apply bm;simp);rfl;rfl;(first|decide|(apply Nat.le_of_ble_eq_true;rfl))))|(apply ac;rfl)|apply ak|(apply al;rfl)|apply aj|apply ah|apply bd|apply ai|(apply ae;rfl)|(apply af;rfl)|(apply fm _ (.inr rfl);(exact List.prefix_append _ _);(focus repeat (first|apply a8|(apply a9;rfl)));rfl;(first|(apply aq;assumption)|(apply aa;assumption));rfl;rfl)|apply ap|apply ey|apply cq|apply aw|apply bo)
    · exact ⟨(k + 1,_),by dsimp only;omega,⟨by dsimp only;omega,(jm2 hn0 _).1,(jm2 hn0 _).2⟩,⟨rfl,rfl,rfl,rfl,di (by omega),trivial⟩,rfl⟩
    · exact ⟨s2,rfl,⟨by omega,by omega,.inr ⟨by omega,hz2⟩⟩,_,rfl⟩
    · exact ⟨⟨s.loc + 1,s.bad,s.whr,s.deep,s.late,s.lateAt⟩,rfl,⟨by dsimp only;omega,rfl,.inl ⟨rfl,hb0,hb0⟩⟩,_,rfl⟩
  · repeat' (first|apply ab|(apply V;rfl;(first|(apply bl;rfl)|(apply bg;rfl)|(apply cg;rfl)))|(apply Vp;rfl;rfl;apply fnT;rfl;apply (jd1 (L:=L) (s:=s) (more:=0));assumption;assumption;omega;(first|(apply aa;assumption)|(apply aq;assumption));rintro _ ⟨(_|_),rfl,hi_⟩)|(apply Vc;rfl;rfl;apply fnT;rfl;apply (jjg (L:=L) (s:=s));decide;assumption;assumption;(first|(apply aa;assumption)|(apply aq;assumption));(intro i_ hi_ _;obtain rfl:=List.mem_singleton.1 hi_;(apply bm;simp));(intro i_ hi_;cases hi_);rintro _ _ ⟨s2,rfl,hd2,hb2,hz2,rfl⟩ <;>(first|rw [au (by assumption)]|rw [ax (by assumption)]|skip))|(apply ac;rfl)|apply ak|apply ah|apply ai|(apply ae;rfl)|(apply af;rfl)|(apply fm _ (.inr rfl);(exact List.prefix_append _ _);(focus repeat (first|apply a8|(apply a9;rfl)));rfl;(first|(apply aq;assumption)|(apply aa;assumption));rfl;rfl)|apply ap|apply aw|(exfalso;exact hat (hi_.1 rfl)))
    all_goals exact ⟨s2,rfl,⟨by omega,by omega,.inr ⟨by omega,hz2⟩⟩,_,rfl⟩
end Go.Proofs.YtinffhimfoicdaaGreat
namespace Go.Proofs.YtinffhimfoicdaaGreat
open Go Go.RowKit Go.Proofs.YtinffhimfoicdaaGreat.Calc
set_option linter.unusedVariables false
set_option linter.unusedSimpArgs false
set_option maxRecDepth 100000
set_option maxHeartbeats 8000000
attribute [local irreducible] Tri ew er ci bn db d7 inQ jb
def ExR (L:List Wd) (s s':Ws) (r:BV):Prop:=GW L s s' ∧(s'.bad = 0 → s.loc < s'.loc) ∧ ∃ e,r = vEx e ∧ BEx e ∧(s'.bad = 0 → qa e + 1 ≤ 2 *(s'.loc - s.loc))
def ArR (L:List Wd) (s s':Ws) (r:BV):Prop:=GW L s s' ∧(s'.bad = 0 → s.loc < s'.loc) ∧ ∃ l,r = .d (qg l) ∧ rz l ∧(s'.bad = 0 → jf l ≤ 2 *(s'.loc - s.loc)) ∧ l.length ≤ 8001
def jou (L:List Wd) (N:Int) (D:Int):Prop:=∀ s:Ws,s.deep = D → s.loc ≤ L.length → WC L N s 81 [] (ExR L s)
def jqa (L:List Wd) (N:Int) (D:Int):Prop:=∀ s:Ws,s.deep = D → s.loc ≤ L.length → WC L N s 131 [] (ArR L s)
theorem uq (e:Ex):∀ l:List Ex,jf (l ++ [e]) = jf l + qa e
  | []=>by simp only [List.nil_append,jf];omega
  | x :: l=>by rw [List.cons_append,jf,jf,uq e l];omega
theorem yn {e:Ex} (he:BEx e):∀ {l:List Ex},rz l → rz (l ++ [e])
  | [],h=>by rw [List.nil_append,rz];exact ⟨he,h⟩
  | x :: l,h=>by
    rw [rz] at h
    rw [List.cons_append,rz]
    exact ⟨h.1,yn he h.2⟩
theorem jm3 (l:List Ex):jb5 [BV.d (DV.sl (l.flatMap jn) l.length)] = .d (qg l):=by rw [← d4];rfl
theorem jji (L:List Wd) (N:Int) (hL:L.length ≤ 8000) (hW:∀ w ∈ L,w.text.size ≤ 1000000) (D:Int) (hD0:0 ≤ D) (hD1:D ≤ 41) (he:D ≤ 40 → jou L N (D + 1)):jqa L N D:=by
  intro s hsd hl
  have hd0:0 ≤ s.deep:=by omega
  have hd1:s.deep ≤ 41:=by omega
  intro S T M id hid
  have hlt:=(List.getElem?_eq_some_iff.1 hid).1
  refine am [id] [] Tryz.func131 rfl Tryz.ntmps131 Tryz.results131 ?_
  repeat' (first|apply ab|(apply V;rfl;(first|(apply bl;rfl)|(apply bg;rfl)|(apply cb;(apply plT;rfl);rfl;rfl;decide)|(apply bz;(apply tyT;rfl);rfl;(apply aq;assumption);rfl)|(apply ck;rfl)|(apply cg;rfl)|(apply az;rfl;rfl;rfl;omega)))|(apply Vp;rfl;rfl;apply fnT;rfl;apply (jdd (L:=L) (s:=s));assumption;assumption;(first|(apply aa;assumption)|(apply aq;assumption));rintro _ ⟨(_|_),rfl,hi_⟩)|(apply Vc;rfl;rfl;apply fnT;rfl;apply (jjg (L:=L) (s:=s));decide;assumption;assumption;(first|(apply aa;assumption)|(apply aq;assumption));(intro i_ hi_ _;obtain rfl:=List.mem_singleton.1 hi_;(apply bm;simp));(intro i_ hi_;cases hi_);rintro _ _ ⟨s2,rfl,hd2,hb2,hz2,rfl⟩ <;>(first|rw [au (by assumption)]|rw [ax (by assumption)]|skip))|(apply Vc;rfl;rfl;apply fnT;rfl;apply (jll (L:=L) (s:=s));assumption;assumption;assumption;assumption;(first|(apply aa;assumption)|(apply aq;assumption));(intro i_ hi_ _;obtain rfl:=List.mem_singleton.1 hi_;(apply bm;simp));(intro i_ hi_;cases hi_);rintro _ _ ⟨s3,rfl,ho1,(⟨rfl,ho2,ho3,ho4⟩|⟨rfl,ho2,ho3⟩)⟩ <;>(first|rw [au (by assumption)]|rw [ax (by assumption)]|skip))|(apply Vs;rfl;(apply jm;(apply tyT;rfl);rfl;rfl;assumption;(apply bm;simp);rfl;rfl;(first|decide|(apply Nat.le_of_ble_eq_true;rfl))))|(apply ac;rfl)|apply ak|apply aj|apply ah|apply ai|(apply ae;rfl)|(apply af;rfl)|(apply fm _ (.inr rfl);(exact List.prefix_append _ _);(focus repeat (first|apply a8|(apply a9;rfl)));rfl;(first|(apply aq;assumption)|(apply aa;assumption));rfl;rfl)|apply ap|apply aw)
  · exact ⟨s2,rfl,⟨by omega,by omega,by omega,fun h=>absurd h hz2⟩,fun h=>absurd h hz2,[],rfl,by rw [rz];trivial,fun h=>absurd h hz2,by decide⟩
  · have hb0:=(ki (hi_.1 rfl)).2
    have hlx:=(ki (hi_.1 rfl)).1
    refine gc 3 124 8 rfl rfl ?_
    refine cx (fun k:Ws × List Ex=>L.length + 1 - k.1.loc) (fun k=>[(0,.ptr id 0),(3,.own 124 8 (T.length + 0) (k.2.flatMap jn) k.2.length)]) (fun k S1 T1=>S1[id]? = some (jet L N k.1,105) ∧ S.length ≤ S1.length ∧ T <+: T1 ∧ T1[T.length + 0]? = some (k.2.flatMap jn).length ∧ k.1.loc ≤ L.length ∧ s.loc + 1 + k.2.length ≤ k.1.loc ∧ k.1.deep = D + 1 ∧ rz k.2 ∧ jf k.2 + 2 *(s.loc + 1) ≤ 2 * k.1.loc) (⟨s3.loc + 1,s3.bad,s3.whr,s3.deep,s3.late,s3.lateAt⟩,[]) ⟨aq hlt,by simp,by simp,at_ rfl rfl,by dsimp only;omega,by dsimp only [List.length_nil];omega,by dsimp only;omega,by rw [rz];trivial,by rw [jf];dsimp only;omega⟩ ⟨rfl,rfl,trivial⟩ ?_
    rintro ⟨s4,l⟩ S1 T1 ⟨hb,hS,hT,hTg,hl4,hl5,hd4,hB,hz⟩
    dsimp only at hb hTg hl4 hl5 hd4 hB hz ⊢
    have hlt1:id < S1.length:=by omega
    have h00:T.length ≤ T.length + 0:=Nat.le_refl _
    repeat' (first|apply ab|(apply V;rfl;(first|(apply bl;rfl)|(apply bg;rfl)|(apply cb;(apply plT;rfl);rfl;rfl;decide)|(apply bz;(apply tyT;rfl);rfl;(first|(apply aa;assumption)|(apply aq;assumption));rfl)|(apply bq;(apply elT;rfl);rfl;rfl)|(apply ck;rfl)|(apply ca;rfl;rfl)|(apply bu;rfl;rfl)|(apply cg;rfl)|(apply ei;rfl;rfl;rfl;omega)))|(apply Vp;rfl;rfl;apply fnT;rfl;apply (jdd (L:=L) (s:=s4));assumption;assumption;(first|(apply aa;assumption)|(apply aq;assumption));rintro _ ⟨(_|_),rfl,hj_⟩)|(apply Vc;rfl;rfl;apply fnT;rfl;apply (he (by omega) s4 (by omega) (by omega));(first|(apply aa;assumption)|(apply aq;assumption));(intro i_ hi_ _;obtain rfl:=List.mem_singleton.1 hi_;(apply bm;simp));(intro i_ hi_;cases hi_);rintro _ _ ⟨s5,rfl,⟨hg1,hg2,hg3,hg4⟩,hpr,⟨k_,n_,t_,na_,ty_,l_,o_,nth_⟩,rfl,hBe,hze⟩ <;>(first|rw [au (by assumption)]|rw [ax (by assumption)]|skip))|(apply Vc;rfl;rfl;apply fnT;rfl;apply (vm (L:=L) (s:=s5));assumption;omega;(first|(apply aa;assumption)|(apply aq;assumption));(intro i_ hi_ _;obtain rfl:=List.mem_singleton.1 hi_;(apply bm;simp));(intro i_ hi_;cases hi_);rintro _ _ ⟨s6,rfl,hd6,hb6,hl6,(⟨rfl,hc6,hz6⟩|⟨rfl,hc6⟩)⟩ <;>(first|rw [au (by assumption)]|rw [ax (by assumption)]|skip))|(apply Vc;rfl;rfl;apply fnT;rfl;apply (rh (L:=L) (s:=s4));assumption;omega;(first|(apply aa;assumption)|(apply aq;assumption));(intro i_ hi_ _;obtain rfl:=List.mem_singleton.1 hi_;(apply bm;simp));(intro i_ hi_;cases hi_);rintro _ _ ⟨s7,rfl,hl7,hd7,rfl,hc7⟩ <;>(first|rw [au (by assumption)]|rw [ax (by assumption)]|skip))|(apply Vc;rfl;rfl;apply fnT;rfl;apply (rh (L:=L) (s:=s6));assumption;omega;(first|(apply aa;assumption)|(apply aq;assumption));(intro i_ hi_ _;obtain rfl:=List.mem_singleton.1 hi_;(apply bm;simp));(intro i_ hi_;cases hi_);rintro _ _ ⟨s7,rfl,hl7,hd7,rfl,hc7⟩ <;>(first|rw [au (by assumption)]|rw [ax (by assumption)]|skip))|(apply Vd;rfl;(first|(apply gj;rfl;rfl)|(apply dq;rfl;rfl));all_goals intro h_)|(apply Vo;rfl)|(apply Vw;rfl;(first|(apply d8;rfl;(apply elT;rfl);(apply tyT;rfl);rfl;decide;rfl;rfl)|(apply mf;(apply elT;rfl);(apply tyT;rfl);(apply byT;rfl);rfl;rfl;rfl;decide;rfl;(apply ee (f:=jn) (c:=Ex.mk k_ n_ t_ na_ ty_ l_ o_ nth_);omega;omega;assumption))))|(apply Vs;rfl;(apply jm;(apply tyT;rfl);rfl;rfl;assumption;(apply bm;simp);rfl;rfl;(first|decide|(apply Nat.le_of_ble_eq_true;rfl))))|(apply ac;rfl)|apply ak|apply aj|apply ah|apply bd|apply ai|(apply ae;rfl)|(apply af;rfl)|(apply fm _ (.inr rfl);(first|(apply av;assumption)|(apply av;apply dc <;> assumption));(focus repeat (first|apply a8|(apply a9;rfl)));rfl;(first|(apply aq;assumption)|(apply aa;assumption));rfl;rfl)|apply ap|apply ey|apply cq|(apply jp3;rfl)|apply bo)
    all_goals first
      | exact ⟨(s6,l ++ [Ex.mk k_ n_ t_ na_ ty_ l_ o_ nth_]),_,_,by dsimp only;omega,⟨aq hlt1,by simpa using hS,av (dc hT h00),aq (List.getElem?_eq_some_iff.1 hTg).1,hl6,by simp only [List.length_append,List.length_singleton];omega,by dsimp only;omega,yn hBe hB,by rw [uq];have:=hze hz6;dsimp only;omega⟩,⟨rfl,rfl,trivial⟩,rfl⟩
      | exact ⟨⟨s7.loc,s7.bad,s7.whr,s7.deep - 1,s7.late,s7.lateAt⟩,rfl,⟨by dsimp only;omega,by dsimp only;omega,by dsimp only;omega,fun _=>hb0⟩,fun _=>by dsimp only;omega,l,jm3 l,hB,(fun h=>by dsimp only at h ⊢;omega),by omega⟩
      | exact ⟨⟨s7.loc,s7.bad,s7.whr,s7.deep - 1,s7.late,s7.lateAt⟩,rfl,⟨by dsimp only;omega,by dsimp only;omega,by dsimp only;omega,fun _=>hb0⟩,fun _=>by dsimp only;omega,_,jm3 (l ++ [Ex.mk k_ n_ t_ na_ ty_ l_ o_ nth_]),yn hBe hB,(fun h=>by rw [uq];dsimp only at h ⊢;have h5:s5.bad = 0:=(by omega);have:=hze h5;omega),by simp only [List.length_append,List.length_singleton];omega⟩
      | skip
  · exact ⟨s3,rfl,⟨by omega,by omega,by omega,fun h=>absurd h ho3⟩,fun h=>absurd h ho3,[],rfl,by rw [rz];trivial,fun h=>absurd h ho3,by decide⟩
end Go.Proofs.YtinffhimfoicdaaGreat
namespace Go.Proofs.YtinffhimfoicdaaGreat
open Go Go.RowKit Go.Proofs.YtinffhimfoicdaaGreat.Calc
set_option linter.unusedVariables false
set_option linter.unusedSimpArgs false
set_option maxRecDepth 100000
set_option maxHeartbeats 8000000
attribute [local irreducible] Tri ew er ci bn db d7 inQ jb
theorem gu {k n:Int} {t na ty:ByteArray} {l:List Ex} {o:ByteArray} {nth:Int} (h1:t.size ≤ 1000000) (h2:na.size ≤ 1000000) (h3:ty.size ≤ 1000000) (h4:rz l):BEx (.mk k n t na ty l o nth):=by
  rw [BEx]
  exact ⟨h1,h2,h3,h4⟩
theorem pu {k n:Int} {t na ty:ByteArray} {l:List Ex} {o:ByteArray} {nth:Int}:qa (.mk k n t na ty l o nth) = 1 + jf l:=by rw [qa]
theorem f9:jf [] = 0:=by rw [jf]
theorem jg:rz []:=by rw [rz];trivial
def jxc (L:List Wd) (N:Int) (D:Int):Prop:=∀ s:Ws,s.deep = D → s.loc ≤ L.length → WC L N s 153 [] (ExR L s)
theorem jjj (L:List Wd) (N:Int) (hL:L.length ≤ 8000) (hW:∀ w ∈ L,w.text.size ≤ 1000000) (D:Int) (hD0:0 ≤ D) (hD1:D ≤ 41) (he:D ≤ 40 → jou L N (D + 1)) (ha:jqa L N D):jxc L N D:=by
  intro s hsd hl
  intro S T M id hid
  have hlt:=(List.getElem?_eq_some_iff.1 hid).1
  refine am [id] [] Tryz.func153 rfl Tryz.ntmps153 Tryz.results153 ?_
  repeat' (first|apply ab|(apply V;rfl;(first|(apply bl;rfl)|(apply bg;rfl)|(apply cb;(apply plT;rfl);rfl;rfl;decide)|(apply fz;(apply plT;rfl);rfl;rfl;decide)|(apply bz;(apply tyT;rfl);rfl;(apply aa;assumption);rfl)|(apply ef;(apply tyT;rfl);rfl;rfl)|(apply bq;(apply elT;rfl);rfl;rfl)|(apply ck;rfl)|(apply ca;rfl;rfl)|(apply bu;rfl;rfl)|(apply ed;(apply plT;rfl);rfl)|(apply bp (f:=ro);apply elT;rfl;rfl;rfl;rfl;exact eb;omega;exact List.getElem?_eq_getElem (by omega))))|(apply Vp;rfl;rfl;apply fnT;rfl;apply (jd1 (L:=L) (s:=s) (more:=0) (kind:=2));assumption;omega;omega;(first|(apply aa;assumption)|(apply aq;assumption));rintro _ ⟨(_|_),rfl,hi2⟩)|(apply Vc;rfl;rfl;apply fnT;rfl;apply (jrn (L:=L) (s:=s));assumption;assumption;omega;(first|(apply aa;assumption)|(apply aq;assumption));(intro i_ hi_ _;obtain rfl:=List.mem_singleton.1 hi_;(apply bm;simp));(intro i_ hi_;cases hi_);rintro _ _ ⟨s9,rfl,⟨hl9,hd9,hc9⟩,n9,rfl⟩ <;>(first|rw [au (by assumption)]|rw [ax (by assumption)]|skip))|(apply Vs;rfl;(apply bw;exact List.length_set;(apply tyT;rfl);rfl;rfl;rfl;(first|apply bc|(apply bh;omega));rfl;rfl;(first|decide|(apply Nat.le_of_ble_eq_true;rfl))))|(apply fm _ (.inr rfl);(exact List.prefix_append _ _);(focus repeat (first|apply a8|(apply a9;rfl)|(apply cp;exact List.length_set;rfl;apply tyT;rfl;rfl;rfl)));rfl;(first|(apply aq;assumption)|(apply aa;assumption));rfl;rfl)|(show Tri _ (.seq (.region 3 _ _) _) _ _ _;apply ju (fun ρ st=>st = ⟨S ++ [([.d (dI 0),.d (dN 0),.d (dS ⟨#[]⟩),.d (dS ⟨#[]⟩),.d (dS ⟨#[]⟩),.tight [] 0,.d (dS ⟨#[]⟩),.d (dI 0)],124)],T ++ [],M⟩ ∧ ∃ b,ng ρ [(0,.ptr id 0),(2,.ptr (S.length + 0) 0),(15,vB b)] ∧(b = true → jjf L s 0 3 ⟨#[]⟩)))|(apply de (nt:=172) (.take 0 (.one 1 (.take 2 (.take 3 (.take 4 (.take 5 (.take 6 (.take 7 (.take 8 (.take 9 (.take 10 (.take 11 (.take 12 (.take 13 (.take 14 (.take 15 (.take 16 (.take 17 (.take 18 (.take 19 (.take 20 (.take 21 (.take 22 (.take 23 (.take 24 (.take 25 (.take 26 (.take 27 (.take 28 (.take 29 (.take 30 (.take 31 (.take 32 (.take 33 (.take 34 (.take 35 .nil)))))))))))))))))))))))))))))))))))) [] [];exact co;rfl;decide +kernel)|(apply oP;rfl;rfl;rfl;apply fnT;rfl;apply (jd1 (L:=L) (s:=s) (more:=0) (kind:=3));assumption;omega;omega;(first|(apply aa;assumption)|(apply aq;assumption));rintro _ ⟨(_|_),rfl,hi3⟩)|(apply Vw;rfl;(apply cd;rfl;(apply tyT;rfl)))|(apply ac;rfl)|apply ak|apply aj|apply ai|(apply ae;rfl)|(apply af;rfl)|apply ap|apply dm|apply aw|apply dg|(apply tV;rfl;rfl;(first|(apply bl;rfl)|(apply bg;rfl)|(apply cb;(apply plT;rfl);rfl;rfl;decide)|(apply fz;(apply plT;rfl);rfl;rfl;decide)|(apply bz;(apply tyT;rfl);rfl;(apply aa;assumption);rfl)|(apply ef;(apply tyT;rfl);rfl;rfl)|(apply bq;(apply elT;rfl);rfl;rfl)|(apply ck;rfl)|(apply ca;rfl;rfl)|(apply bu;rfl;rfl)|(apply ed;(apply plT;rfl);rfl)|(apply bp (f:=ro);apply elT;rfl;rfl;rfl;rfl;exact eb;omega;exact List.getElem?_eq_getElem (by omega)));rfl)|(apply tVd;rfl;rfl;(first|(apply cu;rfl;rfl)|(apply dq;rfl;rfl));rfl;all_goals intro h_)|(apply tVo;rfl;rfl))
  all_goals first
    | exact ⟨rfl,true,⟨rfl,rfl,rfl,trivial⟩,fun _=>hi3.1 rfl⟩
    | exact ⟨rfl,false,⟨rfl,rfl,rfl,trivial⟩,fun h=>Bool.noConfusion h⟩
    | exact ⟨rfl,true,⟨rfl,rfl,rfl,trivial⟩,fun _=>⟨by assumption,_,List.getElem?_eq_getElem (by omega),by assumption,.inl rfl⟩⟩
    | exact ⟨s9,rfl,⟨by omega,by omega,by omega,fun h=>by omega⟩,fun h=>by omega,.mk 1 n9 ⟨#[]⟩ ⟨#[]⟩ ⟨#[]⟩ [] ⟨#[]⟩ 0,rfl,gu (by decide) (by decide) (by decide) jg,fun h=>by rw [pu,f9];omega⟩
    | skip
  rintro ρ st ⟨rfl,b,hR,hb3⟩
  refine c9 (dt hR) ?_
  cases b
  case true =>
    have hx3:=ki (hb3 rfl)
    repeat' (first|apply ab|(apply V;rfl;(first|(apply bl;rfl)|(apply cb;(apply plT;rfl);rfl;rfl;decide)|(apply fz;(apply plT;rfl);rfl;rfl;decide)|(apply bz;(apply tyT;rfl);rfl;(first|(apply aa;assumption)|(apply aq;assumption));rfl)|(apply ef;(apply tyT;rfl);rfl;rfl)|(apply ck;rfl)|(apply ed;(apply plT;rfl);rfl)|(apply az;rfl;rfl;rfl;omega)|(apply ei;rfl;rfl;rfl;omega)|(apply bp (f:=ro);apply elT;rfl;rfl;rfl;rfl;exact eb;omega;exact List.getElem?_eq_getElem (by omega))))|(apply oS;rfl;rfl;(apply bw;exact List.length_set;(apply tyT;rfl);rfl;rfl;rfl;(first|(apply jl;rfl)|(apply mb;omega;rfl));rfl;rfl;(first|decide|(apply Nat.le_of_ble_eq_true;rfl))))|(apply fm _ (.inr rfl);(exact List.prefix_append _ _);(focus repeat (first|apply a8|(apply a9;rfl)|(apply cp;exact List.length_set;rfl;apply tyT;rfl;rfl;rfl)));rfl;(first|(apply aq;assumption)|(apply aa;assumption));rfl;rfl)|(apply bt (nt:=172) (.take 0 (.take 1 (.take 2 (.take 3 (.take 4 (.take 5 (.take 6 (.take 7 (.take 8 (.take 9 (.take 10 (.take 11 (.take 12 (.one 13 .nil)))))))))))))) [] [13];exact co;rfl;decide +kernel)|(apply Vs;rfl;(apply fg;(apply tyT;rfl);rfl;rfl;assumption;(apply bm;simp);rfl;rfl;(first|decide|(apply Nat.le_of_ble_eq_true;rfl))))|(apply ac;rfl)|apply ai|(apply ae;rfl)|apply dm|apply aw|apply dg|(apply tV;rfl;rfl;(first|(apply bl;rfl)|(apply cb;(apply plT;rfl);rfl;rfl;decide)|(apply fz;(apply plT;rfl);rfl;rfl;decide)|(apply bz;(apply tyT;rfl);rfl;(first|(apply aa;assumption)|(apply aq;assumption));rfl)|(apply ef;(apply tyT;rfl);rfl;rfl)|(apply ck;rfl)|(apply ed;(apply plT;rfl);rfl)|(apply az;rfl;rfl;rfl;omega)|(apply ei;rfl;rfl;rfl;omega)|(apply bp (f:=ro);apply elT;rfl;rfl;rfl;rfl;exact eb;omega;exact List.getElem?_eq_getElem (by omega)));rfl))
    exact ⟨⟨s.loc + 1,s.bad,s.whr,s.deep,s.late,s.lateAt⟩,rfl,⟨by dsimp only;omega,by dsimp only;omega,by dsimp only,fun h=>by dsimp only at h ⊢;omega⟩,fun h=>by dsimp only;omega,.mk 3 0 _ ⟨#[]⟩ ⟨#[]⟩ [] ⟨#[]⟩ 0,rfl,gu (hW _ (List.getElem_mem _)) (by decide) (by decide) jg,fun h=>by rw [pu,f9];dsimp only;omega⟩
  clear hi2 hb3
  repeat' (first|apply ab|(apply V;rfl;(first|(apply bj;(apply tyT;rfl);rfl;(apply at_;exact List.length_set;rfl);rfl)|(apply bl;rfl)|(apply bg;rfl)|(apply cb;(apply plT;rfl);rfl;rfl;decide)|(apply bz;(apply tyT;rfl);rfl;(apply aq;assumption);rfl)|(apply ck;rfl)|(apply cg;rfl)|(apply ed;(apply plT;rfl);rfl)|(apply az;rfl;rfl;rfl;omega)|(apply ei;rfl;rfl;rfl;omega)))|(apply Vc;rfl;rfl;apply fnT;rfl;apply (vm (L:=L) (s:=s) (text:=⟨#[116,114,117,101]⟩));assumption;omega;(first|(apply aa;assumption)|(apply aq;assumption));(intro i_ hi_ _;obtain rfl:=List.mem_singleton.1 hi_;(apply bm;simp));(intro i_ hi_;cases hi_);rintro _ _ ⟨s1,rfl,hds1,hbs1,hls1,(⟨rfl,hcs1,hzs1⟩|⟨rfl,hcs1⟩)⟩ <;>(first|rw [au (by assumption)]|rw [ax (by assumption)]|skip))|(apply Vc;rfl;rfl;apply fnT;rfl;apply (vm (L:=L) (s:=s1) (text:=⟨#[102,97,108,115,101]⟩));assumption;omega;(first|(apply aa;assumption)|(apply aq;assumption));(intro i_ hi_ _;obtain rfl:=List.mem_singleton.1 hi_;(apply bm;simp));(intro i_ hi_;cases hi_);rintro _ _ ⟨s2,rfl,hds2,hbs2,hls2,(⟨rfl,hcs2,hzs2⟩|⟨rfl,hcs2⟩)⟩ <;>(first|rw [au (by assumption)]|rw [ax (by assumption)]|skip))|(apply Vc;rfl;rfl;apply fnT;rfl;apply (vm (L:=L) (s:=s2) (text:=⟨#[110,117,108,108]⟩));assumption;omega;(first|(apply aa;assumption)|(apply aq;assumption));(intro i_ hi_ _;obtain rfl:=List.mem_singleton.1 hi_;(apply bm;simp));(intro i_ hi_;cases hi_);rintro _ _ ⟨s3,rfl,hds3,hbs3,hls3,(⟨rfl,hcs3,hzs3⟩|⟨rfl,hcs3⟩)⟩ <;>(first|rw [au (by assumption)]|rw [ax (by assumption)]|skip))|(apply Vc;rfl;rfl;apply fnT;rfl;apply (vm (L:=L) (s:=s3) (text:=⟨#[116,104,105,115]⟩));assumption;omega;(first|(apply aa;assumption)|(apply aq;assumption));(intro i_ hi_ _;obtain rfl:=List.mem_singleton.1 hi_;(apply bm;simp));(intro i_ hi_;cases hi_);rintro _ _ ⟨s4,rfl,hds4,hbs4,hls4,(⟨rfl,hcs4,hzs4⟩|⟨rfl,hcs4⟩)⟩ <;>(first|rw [au (by assumption)]|rw [ax (by assumption)]|skip))|(apply Vc;rfl;rfl;apply fnT;rfl;apply (vm (L:=L) (s:=s4) (text:=⟨#[115,117,112,101,114]⟩));assumption;omega;(first|(apply aa;assumption)|(apply aq;assumption));(intro i_ hi_ _;obtain rfl:=List.mem_singleton.1 hi_;(apply bm;simp));(intro i_ hi_;cases hi_);rintro _ _ ⟨s5,rfl,hds5,hbs5,hls5,(⟨rfl,hcs5,hzs5⟩|⟨rfl,hcs5⟩)⟩ <;>(first|rw [au (by assumption)]|rw [ax (by assumption)]|skip))|(apply Vc;rfl;rfl;apply fnT;rfl;apply (vm (L:=L) (s:=s5) (text:=⟨#[110,101,119]⟩));assumption;omega;(first|(apply aa;assumption)|(apply aq;assumption));(intro i_ hi_ _;obtain rfl:=List.mem_singleton.1 hi_;(apply bm;simp));(intro i_ hi_;cases hi_);rintro _ _ ⟨s6,rfl,hds6,hbs6,hls6,(⟨rfl,hcs6,hzs6⟩|⟨rfl,hcs6⟩)⟩ <;>(first|rw [au (by assumption)]|rw [ax (by assumption)]|skip))|(apply Vc;rfl;rfl;apply fnT;rfl;apply (rh (L:=L) (s:=s5) (text:=⟨#[46]⟩));assumption;omega;(first|(apply aa;assumption)|(apply aq;assumption));(intro i_ hi_ _;obtain rfl:=List.mem_singleton.1 hi_;(apply bm;simp));(intro i_ hi_;cases hi_);rintro _ _ ⟨s10,rfl,hls10,hds10,rfl,hcs10⟩ <;>(first|rw [au (by assumption)]|rw [ax (by assumption)]|skip))|(apply Vc;rfl;rfl;apply fnT;rfl;apply (jlm (L:=L) (s:=s10));assumption;assumption;omega;(first|(apply aa;assumption)|(apply aq;assumption));(intro i_ hi_ _;obtain rfl:=List.mem_singleton.1 hi_;(apply bm;simp));(intro i_ hi_;cases hi_);rintro _ _ ⟨s11,rfl,⟨hls11,hds11,hcs11⟩,ts11,rfl,hts11⟩ <;>(first|rw [au (by assumption)]|rw [ax (by assumption)]|skip))|(apply Vp;rfl;rfl;apply fnT;rfl;apply (jdd (L:=L) (s:=s11) (text:=⟨#[40]⟩));assumption;omega;(first|(apply aa;assumption)|(apply aq;assumption));rintro _ ⟨(_|_),rfl,hp11⟩)|(apply Vc;rfl;rfl;apply fnT;rfl;apply (ha s11 (by omega) (by omega));(first|(apply aa;assumption)|(apply aq;assumption));(intro i_ hi_ _;obtain rfl:=List.mem_singleton.1 hi_;(apply bm;simp));(intro i_ hi_;cases hi_);rintro _ _ ⟨s12,rfl,⟨hgs12,hls12,hds12,hbs12⟩,hps12,ls12,rfl,hBs12,hzs12,hns12⟩ <;>(first|rw [au (by assumption)]|rw [ax (by assumption)]|skip))|(apply Vc;rfl;rfl;apply fnT;rfl;apply (jp9 (L:=L) (s:=s6));assumption;assumption;omega;(first|(apply aa;assumption)|(apply aq;assumption));(intro i_ hi_ _;obtain rfl:=List.mem_singleton.1 hi_;(apply bm;simp));(intro i_ hi_;cases hi_);rintro _ _ ⟨s13,rfl,⟨hls13,hds13,hcs13⟩,ts13,rfl,hts13⟩ <;>(first|rw [au (by assumption)]|rw [ax (by assumption)]|skip))|(apply Vc;rfl;rfl;apply fnT;rfl;apply (ha s13 (by omega) (by omega));(first|(apply aa;assumption)|(apply aq;assumption));(intro i_ hi_ _;obtain rfl:=List.mem_singleton.1 hi_;(apply bm;simp));(intro i_ hi_;cases hi_);rintro _ _ ⟨s14,rfl,⟨hgs14,hls14,hds14,hbs14⟩,hps14,ls14,rfl,hBs14,hzs14,hns14⟩ <;>(first|rw [au (by assumption)]|rw [ax (by assumption)]|skip))|(apply Vp;rfl;rfl;apply fnT;rfl;apply (jrh (L:=L) (s:=s6) (more:=0));assumption;assumption;omega;omega;(first|(apply aa;assumption)|(apply aq;assumption));rintro _ ⟨(_|_),rfl,hi6⟩)|(apply Vc;rfl;rfl;apply fnT;rfl;apply (jlm (L:=L) (s:=s6));assumption;assumption;omega;(first|(apply aa;assumption)|(apply aq;assumption));(intro i_ hi_ _;obtain rfl:=List.mem_singleton.1 hi_;(apply bm;simp));(intro i_ hi_;cases hi_);rintro _ _ ⟨s15,rfl,⟨hls15,hds15,hcs15⟩,ts15,rfl,hts15⟩ <;>(first|rw [au (by assumption)]|rw [ax (by assumption)]|skip))|(apply Vp;rfl;rfl;apply fnT;rfl;apply (jdd (L:=L) (s:=s15) (text:=⟨#[40]⟩));assumption;omega;(first|(apply aa;assumption)|(apply aq;assumption));rintro _ ⟨(_|_),rfl,hp15⟩)|(apply Vc;rfl;rfl;apply fnT;rfl;apply (ha s15 (by omega) (by omega));(first|(apply aa;assumption)|(apply aq;assumption));(intro i_ hi_ _;obtain rfl:=List.mem_singleton.1 hi_;(apply bm;simp));(intro i_ hi_;cases hi_);rintro _ _ ⟨s16,rfl,⟨hgs16,hls16,hds16,hbs16⟩,hps16,ls16,rfl,hBs16,hzs16,hns16⟩ <;>(first|rw [au (by assumption)]|rw [ax (by assumption)]|skip))|(apply Vp;rfl;rfl;apply fnT;rfl;apply (jri (L:=L) (s:=s6) (more:=0));assumption;assumption;omega;omega;(first|(apply aa;assumption)|(apply aq;assumption));rintro _ ⟨(_|_),rfl,hi7⟩)|(apply Vc;rfl;rfl;apply fnT;rfl;apply (rh (L:=L) (s:=s13) (text:=⟨#[58,58]⟩));assumption;omega;(first|(apply aa;assumption)|(apply aq;assumption));(intro i_ hi_ _;obtain rfl:=List.mem_singleton.1 hi_;(apply bm;simp));(intro i_ hi_;cases hi_);rintro _ _ ⟨s18,rfl,hls18,hds18,rfl,hcs18⟩ <;>(first|rw [au (by assumption)]|rw [ax (by assumption)]|skip))|(apply Vc;rfl;rfl;apply fnT;rfl;apply (jlm (L:=L) (s:=s18));assumption;assumption;omega;(first|(apply aa;assumption)|(apply aq;assumption));(intro i_ hi_ _;obtain rfl:=List.mem_singleton.1 hi_;(apply bm;simp));(intro i_ hi_;cases hi_);rintro _ _ ⟨s19,rfl,⟨hls19,hds19,hcs19⟩,ts19,rfl,hts19⟩ <;>(first|rw [au (by assumption)]|rw [ax (by assumption)]|skip))|(apply Vp;rfl;rfl;apply fnT;rfl;apply (jdd (L:=L) (s:=s19) (text:=⟨#[40]⟩));assumption;omega;(first|(apply aa;assumption)|(apply aq;assumption));rintro _ ⟨(_|_),rfl,hp19⟩)|(apply Vc;rfl;rfl;apply fnT;rfl;apply (ha s19 (by omega) (by omega));(first|(apply aa;assumption)|(apply aq;assumption));(intro i_ hi_ _;obtain rfl:=List.mem_singleton.1 hi_;(apply bm;simp));(intro i_ hi_;cases hi_);rintro _ _ ⟨s20,rfl,⟨hgs20,hls20,hds20,hbs20⟩,hps20,ls20,rfl,hBs20,hzs20,hns20⟩ <;>(first|rw [au (by assumption)]|rw [ax (by assumption)]|skip))|(apply Vp;rfl;rfl;apply fnT;rfl;apply (jdd (L:=L) (s:=s6) (text:=⟨#[40]⟩));assumption;omega;(first|(apply aa;assumption)|(apply aq;assumption));rintro _ ⟨(_|_),rfl,hp6⟩)|(apply Vc;rfl;rfl;apply fnT;rfl;apply (jll (L:=L) (s:=s6));assumption;omega;omega;omega;(first|(apply aa;assumption)|(apply aq;assumption));(intro i_ hi_ _;obtain rfl:=List.mem_singleton.1 hi_;(apply bm;simp));(intro i_ hi_;cases hi_);rintro _ _ ⟨s21,rfl,ho21,(⟨rfl,hd21,hb21,hq21⟩|⟨rfl,hd21,hb21⟩)⟩ <;>(first|rw [au (by assumption)]|rw [ax (by assumption)]|skip))|(apply Vc;rfl;rfl;apply fnT;rfl;apply (he (by omega) ⟨s21.loc + 1,s21.bad,s21.whr,s21.deep,s21.late,s21.lateAt⟩ (by dsimp only;omega) (by dsimp only;have:=(ki (hp6.1 rfl)).1;omega));(first|(apply aa;assumption)|(apply aq;assumption));(intro i_ hi_ _;obtain rfl:=List.mem_singleton.1 hi_;(apply bm;simp));(intro i_ hi_;cases hi_);rintro _ _ ⟨s22,rfl,⟨hg22,hl22,hd22,hb22⟩,hp22,⟨k_,n_,t_,na_,ty_,l_,o_,nth_⟩,rfl,hB22,hz22⟩;dsimp only at hg22 hd22 hb22 hp22 hz22 <;>(first|rw [au (by assumption)]|rw [ax (by assumption)]|skip))|(apply Vc;rfl;rfl;apply fnT;rfl;apply (rh (L:=L) (s:=s22) (text:=⟨#[41]⟩));assumption;omega;(first|(apply aa;assumption)|(apply aq;assumption));(intro i_ hi_ _;obtain rfl:=List.mem_singleton.1 hi_;(apply bm;simp));(intro i_ hi_;cases hi_);rintro _ _ ⟨s23,rfl,hls23,hds23,rfl,hcs23⟩ <;>(first|rw [au (by assumption)]|rw [ax (by assumption)]|skip))|(apply Vc;rfl;rfl;apply fnT;rfl;apply (jjg (L:=L) (s:=s6));decide;assumption;omega;(first|(apply aa;assumption)|(apply aq;assumption));(intro i_ hi_ _;obtain rfl:=List.mem_singleton.1 hi_;(apply bm;simp));(intro i_ hi_;cases hi_);rintro _ _ ⟨s24,rfl,hl24,hd24,hz24,rfl⟩ <;>(first|rw [au (by assumption)]|rw [ax (by assumption)]|skip))|(apply Vw;rfl;(apply cd;exact List.length_set;(apply tyT;rfl)))|(apply Vs;rfl;(apply bw;exact List.length_set;(apply tyT;rfl);rfl;rfl;rfl;(first|apply bc|(apply bh;omega));rfl;rfl;(first|decide|(apply Nat.le_of_ble_eq_true;rfl))))|(apply fm _ (.inr rfl);(exact List.prefix_append _ _);(focus repeat (first|apply a8|(apply a9;rfl)|(apply cp;exact List.length_set;rfl;apply tyT;rfl;rfl;rfl)));rfl;(first|(apply aq;assumption)|(apply aa;assumption));rfl;rfl)|(apply Vs;rfl;(apply jm;(apply tyT;rfl);rfl;rfl;assumption;(apply bm;simp);rfl;rfl;(first|decide|(apply Nat.le_of_ble_eq_true;rfl))))|(apply ac;rfl)|apply ak|apply ah|apply ai|(apply ae;rfl)|(apply af;rfl)|apply ap|apply cq|apply dm|apply aw)
  all_goals
    (try have hx6:=ki (hp6.1 rfl))
    first
      | exact ⟨s1,rfl,⟨by omega,by omega,by omega,fun h=>by omega⟩,fun h=>by omega,.mk 2 1 ⟨#[]⟩ ⟨#[]⟩ ⟨#[]⟩ [] ⟨#[]⟩ 0,rfl,gu (by decide) (by decide) (by decide) jg,fun h=>by rw [pu,f9];omega⟩
      | exact ⟨s2,rfl,⟨by omega,by omega,by omega,fun h=>by omega⟩,fun h=>by omega,.mk 2 0 ⟨#[]⟩ ⟨#[]⟩ ⟨#[]⟩ [] ⟨#[]⟩ 0,rfl,gu (by decide) (by decide) (by decide) jg,fun h=>by rw [pu,f9];omega⟩
      | exact ⟨s3,rfl,⟨by omega,by omega,by omega,fun h=>by omega⟩,fun h=>by omega,.mk 4 0 ⟨#[]⟩ ⟨#[]⟩ ⟨#[]⟩ [] ⟨#[]⟩ 0,rfl,gu (by decide) (by decide) (by decide) jg,fun h=>by rw [pu,f9];omega⟩
      | exact ⟨s4,rfl,⟨by omega,by omega,by omega,fun h=>by omega⟩,fun h=>by omega,.mk 5 0 ⟨#[]⟩ ⟨#[]⟩ ⟨#[]⟩ [] ⟨#[]⟩ 0,rfl,gu (by decide) (by decide) (by decide) jg,fun h=>by rw [pu,f9];omega⟩
      | exact ⟨s12,rfl,⟨by omega,by omega,by omega,fun h=>by omega⟩,fun h=>by omega,.mk 12 0 ⟨#[]⟩ ts11 ⟨#[]⟩ ls12 ⟨#[]⟩ 0,rfl,gu (by decide) hts11 (by decide) hBs12,fun h=>by rw [pu];have:=hzs12 h;omega⟩
      | exact ⟨s11,rfl,⟨by omega,by omega,by omega,fun h=>by omega⟩,fun h=>by omega,.mk 8 0 ⟨#[]⟩ ts11 ⟨#[]⟩ [] ⟨#[]⟩ 0,rfl,gu (by decide) hts11 (by decide) jg,fun h=>by rw [pu,f9];omega⟩
      | exact ⟨s14,rfl,⟨by omega,by omega,by omega,fun h=>by omega⟩,fun h=>by omega,.mk 14 0 ⟨#[]⟩ ⟨#[]⟩ ts13 ls14 ⟨#[]⟩ 0,rfl,gu (by decide) (by decide) hts13 hBs14,fun h=>by rw [pu];have:=hzs14 h;omega⟩
      | exact ⟨s16,rfl,⟨by omega,by omega,by omega,fun h=>by omega⟩,fun h=>by omega,.mk 11 0 ⟨#[]⟩ ts15 ⟨#[]⟩ ls16 ⟨#[]⟩ 0,rfl,gu (by decide) hts15 (by decide) hBs16,fun h=>by rw [pu];have:=hzs16 h;omega⟩
      | exact ⟨s15,rfl,⟨by omega,by omega,by omega,fun h=>by omega⟩,fun h=>by omega,.mk 6 0 ⟨#[]⟩ ts15 ⟨#[]⟩ [] ⟨#[]⟩ 0,rfl,gu (by decide) hts15 (by decide) jg,fun h=>by rw [pu,f9];omega⟩
      | exact ⟨s20,rfl,⟨by omega,by omega,by omega,fun h=>by omega⟩,fun h=>by omega,.mk 13 0 ⟨#[]⟩ ts19 ts13 ls20 ⟨#[]⟩ 0,rfl,gu (by decide) hts19 hts13 hBs20,fun h=>by rw [pu];have:=hzs20 h;omega⟩
      | exact ⟨s19,rfl,⟨by omega,by omega,by omega,fun h=>by omega⟩,fun h=>by omega,.mk 9 0 ⟨#[]⟩ ts19 ts13 [] ⟨#[]⟩ 0,rfl,gu (by decide) hts19 hts13 jg,fun h=>by rw [pu,f9];omega⟩
      | exact ⟨s21,rfl,⟨by omega,by omega,by omega,fun h=>by omega⟩,fun h=>by omega,.mk 0 0 ⟨#[]⟩ ⟨#[]⟩ ⟨#[]⟩ [] ⟨#[]⟩ 0,rfl,gu (by decide) (by decide) (by decide) jg,fun h=>by exact absurd h (by omega)⟩
      | exact ⟨s24,rfl,⟨by omega,by omega,by omega,fun h=>by omega⟩,fun h=>by omega,.mk 0 0 ⟨#[]⟩ ⟨#[]⟩ ⟨#[]⟩ [] ⟨#[]⟩ 0,rfl,gu (by decide) (by decide) (by decide) jg,fun h=>by exact absurd h (by omega)⟩
      | exact ⟨⟨s23.loc,s23.bad,s23.whr,s23.deep - 1,s23.late,s23.lateAt⟩,rfl,⟨by dsimp only;omega,by dsimp only;omega,by dsimp only;omega,fun h=>by dsimp only at h ⊢;omega⟩,fun h=>by dsimp only at h ⊢;omega,.mk k_ n_ t_ na_ ty_ l_ o_ nth_,rfl,hB22,fun h=>by dsimp only at h ⊢;have h22:s22.bad = 0:=(by omega);have:=hz22 h22;omega⟩
      | skip
end Go.Proofs.YtinffhimfoicdaaGreat
namespace Go.Proofs.YtinffhimfoicdaaGreat
open Go Go.RowKit Go.Proofs.YtinffhimfoicdaaGreat.Calc
set_option linter.unusedVariables false
set_option linter.unusedSimpArgs false
set_option maxRecDepth 100000
set_option maxHeartbeats 8000000
attribute [local irreducible] Tri ew er ci bn db d7 inQ jb
def BhR (L:List Wd) (e:Ex) (s s':Ws) (r:BV):Prop:=GW L s s' ∧ ∃ e',r = vEx e' ∧ BEx e' ∧(s'.bad = 0 → qa e' ≤ qa e + 2 *(s'.loc - s.loc))
def jtb (L:List Wd) (N:Int) (D:Int):Prop:=∀ s:Ws,s.deep = D → s.loc ≤ L.length → WC L N s 136 [] (ExR L s)
def jxd (L:List Wd) (N:Int) (D:Int):Prop:=∀(s:Ws) (e:Ex),s.deep = D → s.loc ≤ L.length → BEx e → WC L N s 152 [vEx e] (BhR L e s)
theorem gv (e:Ex):jf [e] = qa e:=by simp only [jf];omega
theorem kj {e:Ex} (h:BEx e):rz [e]:=by simp only [rz];exact ⟨h,trivial⟩
theorem jgm (L:List Wd) (N:Int) (hL:L.length ≤ 8000) (hW:∀ w ∈ L,w.text.size ≤ 1000000) (D:Int) (hD0:0 ≤ D) (hD1:D ≤ 41) (hun:D ≤ 40 → jtb L N (D + 1)) (hat:jxc L N D) (hbh:jxd L N D):jtb L N D:=by
  intro s hsd hl
  intro S T M id hid
  have hlt:=(List.getElem?_eq_some_iff.1 hid).1
  refine am [id] [] Tryz.func136 rfl Tryz.ntmps136 Tryz.results136 ?_
  repeat' (first|apply ab|(apply V;rfl;(first|(apply bl;rfl)|(apply ca;rfl;rfl)|(apply bu;rfl;rfl)))|(show Tri _ (.seq (.region 1 _ _) _) _ _ _;apply ju (fun ρ st=>st = ⟨S ++ [([.d (dI 0),.d (dN 0),.d (dS ⟨#[]⟩),.d (dS ⟨#[]⟩),.d (dS ⟨#[]⟩),.tight [] 0,.d (dS ⟨#[]⟩),.d (dI 0)],124)],T ++ [],M⟩ ∧ ∃ b,ng ρ [(0,.ptr id 0),(2,.ptr (S.length + 0) 0),(14,vB b)] ∧(b = true → s.loc + 0 < L.length ∧ s.bad = 0)))|(apply Vp;rfl;rfl;apply fnT;rfl;apply (jdd (L:=L) (s:=s) (text:=⟨#[45]⟩));assumption;omega;(first|(apply aa;assumption)|(apply aq;assumption));rintro _ ⟨(_|_),rfl,hm1⟩)|(apply Vp;rfl;rfl;apply fnT;rfl;apply (jdd (L:=L) (s:=s) (text:=⟨#[33]⟩));assumption;omega;(first|(apply aa;assumption)|(apply aq;assumption));rintro _ ⟨(_|_),rfl,hm2⟩)|(apply Vp;rfl;rfl;apply fnT;rfl;apply (jdd (L:=L) (s:=s) (text:=⟨#[35]⟩));assumption;omega;(first|(apply aa;assumption)|(apply aq;assumption));rintro _ ⟨(_|_),rfl,hm3⟩)|(apply Vo;rfl)|(apply Vw;rfl;(apply cd;rfl;(apply tyT;rfl)))|(apply ac;rfl)|apply ak|(apply al;rfl)|apply ap)
  all_goals first
    | exact ⟨rfl,true,⟨rfl,rfl,rfl,trivial⟩,fun _=>ki (hm1.1 rfl)⟩
    | exact ⟨rfl,true,⟨rfl,rfl,rfl,trivial⟩,fun _=>ki (hm2.1 rfl)⟩
    | exact ⟨rfl,true,⟨rfl,rfl,rfl,trivial⟩,fun _=>ki (hm3.1 rfl)⟩
    | exact ⟨rfl,false,⟨rfl,rfl,rfl,trivial⟩,fun h=>Bool.noConfusion h⟩
    | skip
  rintro ρ st ⟨rfl,b,hR,hb3⟩
  refine c9 (dt hR) ?_
  cases b
  case true =>
    have hx3:=hb3 rfl
    repeat' (first|apply ab|(apply V;rfl;(first|(apply bj;(apply tyT;rfl);rfl;(apply at_;exact List.length_set;rfl);rfl)|(apply bl;rfl)|(apply bg;rfl)|(apply cb;(apply plT;rfl);rfl;rfl;decide)|(apply fz;(apply plT;rfl);rfl;rfl;decide)|(apply bz;(apply tyT;rfl);rfl;(first|(apply aa;assumption)|(apply aq;assumption));rfl)|(apply ef;(apply tyT;rfl);rfl;rfl)|(apply ck;rfl)|(apply cg;rfl)|(apply ed;(apply plT;rfl);rfl)|(apply az;rfl;rfl;rfl;omega)|(apply ei;rfl;rfl;rfl;omega)|(apply bp (f:=ro);apply elT;rfl;rfl;rfl;rfl;exact eb;omega;exact List.getElem?_eq_getElem (by omega))))|(apply Vw;rfl;(apply cd;exact List.length_set;(apply tyT;rfl)))|(apply Vs;rfl;(apply bw;exact List.length_set;(apply tyT;rfl);rfl;rfl;rfl;(first|apply bc|(apply bh;omega));rfl;rfl;(first|decide|(apply Nat.le_of_ble_eq_true;rfl))))|(apply fm _ (.inr rfl);(exact List.prefix_append _ _);(focus repeat (first|apply a8|(apply a9;rfl)|(apply cp;exact List.length_set;rfl;apply tyT;rfl;rfl;rfl)));rfl;(first|(apply aq;assumption)|(apply aa;assumption));rfl;rfl)|(apply bt (nt:=54) (.take 0 (.take 1 (.take 2 (.take 3 (.take 4 (.take 5 (.take 6 (.take 7 (.take 8 (.take 9 (.take 10 (.take 11 .nil)))))))))))) [] [];exact co;rfl;decide +kernel)|(apply Vc;rfl;rfl;apply fnT;rfl;apply (jll (L:=L) (s:=s));assumption;omega;omega;omega;(first|(apply aa;assumption)|(apply aq;assumption));(intro i_ hi_ _;obtain rfl:=List.mem_singleton.1 hi_;(apply bm;simp));(intro i_ hi_;cases hi_);rintro _ _ ⟨s1,rfl,ho1,(⟨rfl,hd1,hb1,hq1⟩|⟨rfl,hd1,hb1⟩)⟩ <;>(first|rw [au (by assumption)]|rw [ax (by assumption)]|skip))|(apply Vc;rfl;rfl;apply fnT;rfl;apply (hun (by omega) ⟨s1.loc + 1,s1.bad,s1.whr,s1.deep,s1.late,s1.lateAt⟩ (by dsimp only;omega) (by dsimp only;omega));(first|(apply aa;assumption)|(apply aq;assumption));(intro i_ hi_ _;obtain rfl:=List.mem_singleton.1 hi_;(apply bm;simp));(intro i_ hi_;cases hi_);rintro _ _ ⟨s2,rfl,⟨hg2,hl2,hd2,hb2⟩,hp2,⟨k_,n_,t_,na_,ty_,l_,o_,nth_⟩,rfl,hB2,hz2⟩;dsimp only at hg2 hd2 hb2 hp2 hz2 <;>(first|rw [au (by assumption)]|rw [ax (by assumption)]|skip))|(apply Vw;rfl;(apply d8;rfl;(apply elT;rfl);(apply tyT;rfl);rfl;decide;rfl;rfl))|(apply Vs;rfl;(apply jm;(apply tyT;rfl);rfl;rfl;assumption;(apply bm;simp);rfl;rfl;(first|decide|(apply Nat.le_of_ble_eq_true;rfl))))|(apply ac;rfl)|apply ak|apply ah|apply ai|(apply ae;rfl)|(apply af;rfl)|apply ap|apply aw|apply dg|(apply tV;rfl;rfl;(first|(apply bj;(apply tyT;rfl);rfl;(apply at_;exact List.length_set;rfl);rfl)|(apply bl;rfl)|(apply bg;rfl)|(apply cb;(apply plT;rfl);rfl;rfl;decide)|(apply fz;(apply plT;rfl);rfl;rfl;decide)|(apply bz;(apply tyT;rfl);rfl;(first|(apply aa;assumption)|(apply aq;assumption));rfl)|(apply ef;(apply tyT;rfl);rfl;rfl)|(apply ck;rfl)|(apply cg;rfl)|(apply ed;(apply plT;rfl);rfl)|(apply az;rfl;rfl;rfl;omega)|(apply ei;rfl;rfl;rfl;omega)|(apply bp (f:=ro);apply elT;rfl;rfl;rfl;rfl;exact eb;omega;exact List.getElem?_eq_getElem (by omega)));rfl))
    all_goals first
      | exact ⟨s1,rfl,⟨by omega,by omega,by omega,fun h=>absurd h hb1⟩,fun h=>absurd h hb1,.mk 0 0 ⟨#[]⟩ ⟨#[]⟩ ⟨#[]⟩ [] ⟨#[]⟩ 0,rfl,gu (by decide) (by decide) (by decide) jg,fun h=>absurd h hb1⟩
      | exact ⟨⟨s2.loc,s2.bad,s2.whr,s2.deep - 1,s2.late,s2.lateAt⟩,rfl,⟨by dsimp only;omega,by dsimp only;omega,by dsimp only;omega,fun h=>by dsimp only at h ⊢;omega⟩,fun h=>by dsimp only at h ⊢;omega,.mk 18 0 ⟨#[]⟩ _ ⟨#[]⟩ [.mk k_ n_ t_ na_ ty_ l_ o_ nth_] ⟨#[]⟩ 0,rfl,gu (by decide) (hW _ (List.getElem_mem _)) (by decide) (kj hB2),fun h=>by rw [pu,gv];dsimp only at h ⊢;have:=hz2 h;omega⟩
      | skip
  clear hb3
  repeat' (first|apply ab|(apply V;rfl;(apply bl;rfl))|(apply Vs;rfl;(apply bw;exact List.length_set;(apply tyT;rfl);rfl;rfl;rfl;(first|apply bc|(apply bh;omega));rfl;rfl;(first|decide|(apply Nat.le_of_ble_eq_true;rfl))))|(apply fm _ (.inr rfl);(exact List.prefix_append _ _);(focus repeat (first|apply a8|(apply a9;rfl)|(apply cp;exact List.length_set;rfl;apply tyT;rfl;rfl;rfl)));rfl;(first|(apply aq;assumption)|(apply aa;assumption));rfl;rfl)|(apply Vc;rfl;rfl;apply fnT;rfl;apply (hat s (by omega) (by omega));(first|(apply aa;assumption)|(apply aq;assumption));(intro i_ hi_ _;obtain rfl:=List.mem_singleton.1 hi_;(apply bm;simp));(intro i_ hi_;cases hi_);rintro _ _ ⟨s3,rfl,⟨hg3,hl3,hd3,hb3⟩,hp3,⟨k_,n_,t_,na_,ty_,l_,o_,nth_⟩,rfl,hB3,hz3⟩ <;>(first|rw [au (by assumption)]|rw [ax (by assumption)]|skip))|(apply Vc;rfl;rfl;apply fnT;rfl;apply (hbh s3 (.mk k_ n_ t_ na_ ty_ l_ o_ nth_) (by omega) (by omega) hB3);(first|(apply aa;assumption)|(apply aq;assumption));(intro i_ hi_ _;obtain rfl:=List.mem_singleton.1 hi_;(apply bm;simp));(intro i_ hi_;cases hi_);rintro _ _ ⟨s4,rfl,⟨hg4,hl4,hd4,hb4⟩,⟨k2_,n2_,t2_,na2_,ty2_,l2_,o2_,nth2_⟩,rfl,hB4,hz4⟩ <;>(first|rw [au (by assumption)]|rw [ax (by assumption)]|skip))|(apply ac;rfl)|apply ah|apply ai|(apply af;rfl)|apply ap)
  all_goals first
    | exact ⟨s4,rfl,⟨by omega,by omega,by omega,fun h=>by omega⟩,fun h=>by have:=hb4 h;have:=hp3 this;omega,.mk k2_ n2_ t2_ na2_ ty2_ l2_ o2_ nth2_,rfl,hB4,fun h=>by have h3:=hb4 h;have:=hp3 h3;have:=hz3 h3;have:=hz4 h;omega⟩
    | skip
end Go.Proofs.YtinffhimfoicdaaGreat
namespace Go.Proofs.YtinffhimfoicdaaGreat
open Go Go.RowKit Go.Proofs.YtinffhimfoicdaaGreat.Calc
set_option linter.unusedVariables false
set_option linter.unusedSimpArgs false
set_option maxRecDepth 100000
set_option maxHeartbeats 8000000
theorem jxe (l:List Ex):(m5 l).length = l.length * 8:=by rw [d4];exact ma ay l
theorem jlo {α:Type} {S:List α} {i:Nat} {x:α} (h:S[i]? = some x):S.set i x = S:=by
  apply List.ext_getElem?
  intro j
  by_cases hj:i = j
  · subst hj
    rw [List.getElem?_set_self (List.getElem?_eq_some_iff.1 h).1,h]
  · rw [List.getElem?_set_ne hj]
theorem jm4 (e:Ex):wks ((jn e).map .d) =(jn e).map .d:=by
  obtain ⟨k,n,t,na,ty,l,o,nth⟩:=e
  rw [jn]
  simp only [List.map_cons,List.map_nil,wks,wk]
attribute [local irreducible] Tri ew er ci bn db d7 inQ jb
theorem jde (L:List Wd) (N:Int) (hL:L.length ≤ 8000) (hW:∀ w ∈ L,w.text.size ≤ 1000000) (D:Int) (hD0:0 ≤ D) (hD1:D ≤ 41) (ha:jqa L N D):jxd L N D:=by
  intro s e hsd hl hBe
  intro S T M id hid
  have hlt:=(List.getElem?_eq_some_iff.1 hid).1
  have hw0:=jm4 e
  obtain ⟨k0,n0,t0,na0,ty0,l0,o0,nth0⟩:=e
  unfold vEx
  rw [jn] at hw0 ⊢
  refine am [id] [] Tryz.func152 rfl Tryz.ntmps152 Tryz.results152 ?_
  repeat' (first|apply ab|(apply Vw;rfl;(first|(apply cd;rfl;(apply tyT;rfl))|(apply cj;rfl;rfl;rfl)))|(apply ac;rfl)|apply ak|apply aj)
  refine fh (κ:=Ws × Ex × List BV × List Nat) (fun k=>L.length + 1 - k.1.loc) (fun k=>[(0,.ptr id 0),(3,.ptr (S.length + 0) 0),(4,.ptr (S.length + 1) 0)]) (fun k=>⟨S.set id (jet L N k.1,105) ++ [(k.2.2.1,124),([.d (dI 0),.d (dN 0),.d (dS ⟨#[]⟩),.d (dS ⟨#[]⟩),.d (dS ⟨#[]⟩),.tight [] 0,.d (dS ⟨#[]⟩),.d (dI 0)],124)],k.2.2.2,M⟩) (fun k=>wks k.2.2.1 =(jn k.2.1).map .d ∧ BEx k.2.1 ∧ T <+: k.2.2.2 ∧ GW L s k.1 ∧(k.1.bad = 0 → qa k.2.1 ≤ qa (.mk k0 n0 t0 na0 ty0 l0 o0 nth0) + 2 *(k.1.loc - s.loc)) ∧ s.loc ≤ k.1.loc) (s,.mk k0 n0 t0 na0 ty0 l0 o0 nth0,_,T ++ []) ⟨by dsimp only;rw [jn];exact hw0,hBe,List.prefix_append _ _,⟨Nat.le_refl _,hl,rfl,fun h=>h⟩,fun _=>Nat.le_add_right _ _,Nat.le_refl _⟩ ⟨rfl,rfl,rfl,trivial⟩ (by rw [jlo hid];rfl) ?_
  rintro ⟨s1,⟨k_,n_,t_,na_,ty_,l_,o_,nth_⟩,cs,T1⟩ ⟨hw,hB,hT,⟨hg1,hg2,hg3,hg4⟩,hz,_⟩
  dsimp only at hw hB hT hg1 hg2 hg3 hg4 hz ⊢
  rw [show T1 = T1 ++ [] from (List.append_nil T1).symm]
  refine jit (k:=0) rfl ?_
  rw [hw,jn]
  repeat' (first|apply ab|(apply V;rfl;(first|(apply bj;(apply tyT;rfl);rfl;(apply at_;exact List.length_set;rfl);rfl)|(apply bl;rfl)|(apply bg;rfl)|(apply cb;(apply plT;rfl);rfl;rfl;decide)|(apply bz;(apply tyT;rfl);rfl;(apply aq;assumption);rfl)|(apply ck;rfl)|(apply ed;(apply plT;rfl);rfl)))|(apply Vs;rfl;(apply bw;exact List.length_set;(apply tyT;rfl);rfl;rfl;rfl;(first|apply bc|(apply bh;omega));rfl;rfl;(first|decide|(apply Nat.le_of_ble_eq_true;rfl))))|(apply oS;rfl;rfl;(apply bw;exact List.length_set;(apply tyT;rfl);rfl;rfl;rfl;(first|(apply jl;rfl)|(apply mb;omega;rfl));rfl;rfl;(first|decide|(apply Nat.le_of_ble_eq_true;rfl))))|(apply fm _ (.inr rfl);(apply av;assumption);(focus repeat (first|apply a8|(apply a9;rfl)|(apply cp;exact List.length_set;rfl;apply tyT;rfl;rfl;rfl)));rfl;(first|(apply aq;assumption)|(apply aa;assumption));rfl;rfl)|(apply Vc;rfl;rfl;apply fnT;rfl;apply (vm (L:=L) (s:=s1) (text:=⟨#[46]⟩));assumption;omega;(first|(apply aa;assumption)|(apply aq;assumption));(intro i_ hi_ _;obtain rfl:=List.mem_singleton.1 hi_;(apply bm;simp));(intro i_ hi_;cases hi_);rintro _ _ ⟨s2,rfl,hds2,hbs2,hls2,(⟨rfl,hcs2,hzs2⟩|⟨rfl,hcs2⟩)⟩ <;>(first|rw [au (by assumption)]|rw [ax (by assumption)]|skip))|(apply Vc;rfl;rfl;apply fnT;rfl;apply (jlm (L:=L) (s:=s2));assumption;assumption;omega;(first|(apply aa;assumption)|(apply aq;assumption));(intro i_ hi_ _;obtain rfl:=List.mem_singleton.1 hi_;(apply bm;simp));(intro i_ hi_;cases hi_);rintro _ _ ⟨s3,rfl,⟨hls3,hds3,hcs3⟩,ts3,rfl,hts3⟩ <;>(first|rw [au (by assumption)]|rw [ax (by assumption)]|skip))|(apply Vp;rfl;rfl;apply fnT;rfl;apply (jdd (L:=L) (s:=s3) (text:=⟨#[40]⟩));assumption;omega;(first|(apply aa;assumption)|(apply aq;assumption));rintro _ ⟨(_|_),rfl,hp3⟩)|(apply oC;rfl;rfl;rfl;apply fnT;rfl;apply (ha s3 (by omega) (by omega));(first|(apply aa;assumption)|(apply aq;assumption));(intro i_ hi_ _;obtain rfl:=List.mem_singleton.1 hi_;(apply mz <;> simp));(intro i_ hi_;cases hi_);rintro _ _ ⟨s4,rfl,⟨hgs4,hls4,hds4,hbs4⟩,hps4,ls4,rfl,hBs4,hzs4,hns4⟩ <;>(first|rw [au (by assumption)]|rw [ax (by assumption)]|skip))|apply nr|(apply tV;rfl;rfl;(apply bj;(apply tyT;rfl);rfl;(apply at_;exact List.length_set;rfl);rfl);(apply ek;rfl;(simp;omega)))|(apply de (nt:=47) (.take 0 (.take 1 (.take 3 (.fork 2 (.one 4 (.one 5 (.take 6 (.one 7 .nil)))) 4 (.one 2 (.one 5 (.take 6 (.one 7 .nil)))))))) [id] [7];exact co;rfl;decide +kernel)|(apply oW;rfl;rfl;(apply mf;(apply elT;rfl);(apply tyT;rfl);(apply byT;rfl);rfl;rfl;rfl;decide;exact jxe _;(apply jog;rfl;rfl;exact jxe _;omega;omega)))|(apply Vc;rfl;rfl;apply fnT;rfl;apply (vm (L:=L) (s:=s2) (text:=⟨#[97,115]⟩));assumption;omega;(first|(apply aa;assumption)|(apply aq;assumption));(intro i_ hi_ _;obtain rfl:=List.mem_singleton.1 hi_;(apply bm;simp));(intro i_ hi_;cases hi_);rintro _ _ ⟨s5,rfl,hds5,hbs5,hls5,(⟨rfl,hcs5,hzs5⟩|⟨rfl,hcs5⟩)⟩ <;>(first|rw [au (by assumption)]|rw [ax (by assumption)]|skip))|(apply oC;rfl;rfl;rfl;apply fnT;rfl;apply (jp9 (L:=L) (s:=s5));assumption;assumption;omega;(first|(apply aa;assumption)|(apply aq;assumption));(intro i_ hi_ _;obtain rfl:=List.mem_singleton.1 hi_;(apply mz <;> simp));(intro i_ hi_;cases hi_);rintro _ _ ⟨s6,rfl,⟨hls6,hds6,hcs6⟩,ts6,rfl,hts6⟩ <;>(first|rw [au (by assumption)]|rw [ax (by assumption)]|skip))|(apply de (nt:=47) (.take 0 (.take 2 (.fork 1 (.one 3 (.take 4 (.one 5 .nil))) 3 (.one 1 (.take 4 (.one 5 .nil)))))) [id] [5];exact co;rfl;decide +kernel)|(apply Vc;rfl;rfl;apply fnT;rfl;apply (vm (L:=L) (s:=s5) (text:=⟨#[105,115]⟩));assumption;omega;(first|(apply aa;assumption)|(apply aq;assumption));(intro i_ hi_ _;obtain rfl:=List.mem_singleton.1 hi_;(apply bm;simp));(intro i_ hi_;cases hi_);rintro _ _ ⟨s7,rfl,hds7,hbs7,hls7,(⟨rfl,hcs7,hzs7⟩|⟨rfl,hcs7⟩)⟩ <;>(first|rw [au (by assumption)]|rw [ax (by assumption)]|skip))|(apply oC;rfl;rfl;rfl;apply fnT;rfl;apply (jp9 (L:=L) (s:=s7));assumption;assumption;omega;(first|(apply aa;assumption)|(apply aq;assumption));(intro i_ hi_ _;obtain rfl:=List.mem_singleton.1 hi_;(apply mz <;> simp));(intro i_ hi_;cases hi_);rintro _ _ ⟨s8,rfl,⟨hls8,hds8,hcs8⟩,ts8,rfl,hts8⟩ <;>(first|rw [au (by assumption)]|rw [ax (by assumption)]|skip))|(apply de (nt:=47) (.take 0 (.take 2 (.fork 1 (.one 3 (.take 4 (.one 5 .nil))) 3 (.one 1 (.take 4 (.one 5 .nil)))))) [id] [5];exact co;rfl;decide +kernel)|(apply Vd;rfl;(apply dq;rfl;rfl);all_goals intro h_)|(apply Vw;rfl;(apply d8;rfl;(apply elT;rfl);(apply tyT;rfl);rfl;decide;rfl;rfl))|(apply ac;rfl)|apply ak|(apply al;rfl)|apply aj|apply ah|apply bd|apply ai|(apply ae;rfl)|(apply af;rfl)|apply ap|apply ey|apply cq|apply dm|apply aw|apply bo|apply dg|(apply tV;rfl;rfl;(first|(apply bj;(apply tyT;rfl);rfl;(apply at_;exact List.length_set;rfl);rfl)|(apply bl;rfl)|(apply bg;rfl)|(apply cb;(apply plT;rfl);rfl;rfl;decide)|(apply bz;(apply tyT;rfl);rfl;(apply aq;assumption);rfl)|(apply ck;rfl)|(apply ed;(apply plT;rfl);rfl));rfl)|(apply oW;rfl;rfl;(apply d8;rfl;(apply elT;rfl);(apply tyT;rfl);rfl;decide;rfl;rfl)))
  all_goals first
    |(refine ⟨(s4,.mk 10 0 ⟨#[]⟩ ts3 ⟨#[]⟩ ((.mk k_ n_ t_ na_ ty_ l_ o_ nth_) :: ls4) ⟨#[]⟩ 0,_,_),?_,⟨?_,gu (by decide) hts3 (by decide) (by rw [rz];exact ⟨hB,hBs4⟩),?_,⟨?_,?_,?_,?_⟩,?_,?_⟩,⟨rfl,rfl,rfl,trivial⟩,rfl⟩;(dsimp only;omega);(dsimp only;rw [jn];(first|rfl|(simp only [wks,wk,m5,List.length_cons,Nat.add_comm 1];rfl)));(dsimp only;exact av hT);(dsimp only;omega);(dsimp only;omega);(dsimp only;omega);(intro h;dsimp only at h;omega);(intro h;dsimp only at h ⊢;have h4:=hzs4 h;have h1:=hz (by omega);rw [pu,jf];omega);(dsimp only;omega))
    |(refine ⟨(s3,.mk 7 0 ⟨#[]⟩ ts3 ⟨#[]⟩ [.mk k_ n_ t_ na_ ty_ l_ o_ nth_] ⟨#[]⟩ 0,_,_),?_,⟨?_,gu (by decide) hts3 (by decide) (kj hB),?_,⟨?_,?_,?_,?_⟩,?_,?_⟩,⟨rfl,rfl,rfl,trivial⟩,rfl⟩;(dsimp only;omega);(dsimp only;rw [jn];(first|rfl|(simp only [wks,wk,m5,List.length_cons,Nat.add_comm 1];rfl)));(dsimp only;exact av hT);(dsimp only;omega);(dsimp only;omega);(dsimp only;omega);(intro h;dsimp only at h;omega);(intro h;dsimp only at h ⊢;have h1:=hz (by omega);rw [pu,gv];omega);(dsimp only;omega))
    |(refine ⟨(s6,.mk 15 0 ⟨#[]⟩ ⟨#[]⟩ ts6 [.mk k_ n_ t_ na_ ty_ l_ o_ nth_] ⟨#[]⟩ 0,_,_),?_,⟨?_,gu (by decide) (by decide) hts6 (kj hB),?_,⟨?_,?_,?_,?_⟩,?_,?_⟩,⟨rfl,rfl,rfl,trivial⟩,rfl⟩;(dsimp only;omega);(dsimp only;rw [jn];(first|rfl|(simp only [wks,wk,m5,List.length_cons,Nat.add_comm 1];rfl)));(dsimp only;exact av hT);(dsimp only;omega);(dsimp only;omega);(dsimp only;omega);(intro h;dsimp only at h;omega);(intro h;dsimp only at h ⊢;have h1:=hz (by omega);rw [pu,gv];omega);(dsimp only;omega))
    |(refine ⟨(s8,.mk 16 0 ⟨#[]⟩ ⟨#[]⟩ ts8 [.mk k_ n_ t_ na_ ty_ l_ o_ nth_] ⟨#[]⟩ 0,_,_),?_,⟨?_,gu (by decide) (by decide) hts8 (kj hB),?_,⟨?_,?_,?_,?_⟩,?_,?_⟩,⟨rfl,rfl,rfl,trivial⟩,rfl⟩;(dsimp only;omega);(dsimp only;rw [jn];(first|rfl|(simp only [wks,wk,m5,List.length_cons,Nat.add_comm 1];rfl)));(dsimp only;exact av hT);(dsimp only;omega);(dsimp only;omega);(dsimp only;omega);(intro h;dsimp only at h;omega);(intro h;dsimp only at h ⊢;have h1:=hz (by omega);rw [pu,gv];omega);(dsimp only;omega))
    | exact ⟨s7,rfl,⟨by omega,by omega,by omega,fun h=>by omega⟩,.mk k_ n_ t_ na_ ty_ l_ o_ nth_,rfl,hB,fun h=>by have h1:=hz (by omega);omega⟩
    | exact ⟨s1,rfl,⟨by omega,by omega,by omega,fun h=>by omega⟩,.mk k_ n_ t_ na_ ty_ l_ o_ nth_,rfl,hB,fun h=>by have h1:=hz (by omega);omega⟩
    | skip
end Go.Proofs.YtinffhimfoicdaaGreat
namespace Go.Proofs.YtinffhimfoicdaaGreat
open Go Go.RowKit Go.Proofs.YtinffhimfoicdaaGreat.Calc
set_option linter.unusedVariables false
set_option linter.unusedSimpArgs false
set_option maxRecDepth 100000
set_option maxHeartbeats 8000000
attribute [local irreducible] Tri ew er ci bn db d7 inQ jb
def jtc (L:List Wd) (N:Int) (D:Int) (k:Nat):Prop:=∀ s:Ws,s.deep = D → s.loc ≤ L.length → WC L N s 108 [vI k] (ExR L s)
theorem jxf (L:List Wd) (N:Int) (D:Int) (hun:jtb L N D):jtc L N D 7:=by
  intro s hsd hl
  intro S T M id hid
  have hlt:=(List.getElem?_eq_some_iff.1 hid).1
  refine am [id] [] Tryz.func108 rfl Tryz.ntmps108 Tryz.results108 ?_
  repeat' (first|apply ab|(apply V;rfl;(first|(apply bl;rfl)|(apply az;rfl;rfl;rfl;omega)))|(apply Vs;rfl;(apply bw;exact List.length_set;(apply tyT;rfl);rfl;rfl;rfl;(first|apply bc|(apply bh;omega));rfl;rfl;(first|decide|(apply Nat.le_of_ble_eq_true;rfl))))|(apply fm _ (.inr rfl);(exact List.prefix_append _ _);(focus repeat (first|apply a8|(apply a9;rfl)|(apply cp;exact List.length_set;rfl;apply tyT;rfl;rfl;rfl)));rfl;(first|(apply aq;assumption)|(apply aa;assumption));rfl;rfl)|(apply Vc;rfl;rfl;apply fnT;rfl;apply (hun s (by omega) (by omega));(first|(apply aa;assumption)|(apply aq;assumption));(intro i_ hi_ _;obtain rfl:=List.mem_singleton.1 hi_;(apply bm;simp));(intro i_ hi_;cases hi_);rintro _ _ ⟨s3,rfl,⟨hg3,hl3,hd3,hb3⟩,hp3,⟨k_,n_,t_,na_,ty_,l_,o_,nth_⟩,rfl,hB3,hz3⟩ <;>(first|rw [au (by assumption)]|rw [ax (by assumption)]|skip))|(apply Vd;rfl;(apply gj;rfl;rfl);all_goals intro h_)|(apply Vw;rfl;(apply cd;rfl;(apply tyT;rfl)))|(apply ac;rfl)|apply ak|apply ah|apply ai|(apply ae;rfl)|(apply af;rfl)|apply ap|apply aw|(exfalso;omega))
  all_goals first
    | exact ⟨s3,rfl,⟨hg3,hl3,hd3,hb3⟩,hp3,.mk k_ n_ t_ na_ ty_ l_ o_ nth_,rfl,hB3,hz3⟩
    |(exfalso;omega)
theorem jz (a b:Ex):jf [a,b] = qa a + qa b:=by simp only [jf];omega
theorem jeu {a b:Ex} (h:BEx a) (k:BEx b):rz [a,b]:=by simp only [rz];exact ⟨h,k,trivial⟩
theorem p6 (L:List Wd) (N:Int) (hL:L.length ≤ 8000) (hW:∀ w ∈ L,w.text.size ≤ 1000000) (D:Int) (k:Nat) (hk0:1 ≤ k) (hk1:k ≤ 6) (hk:jtc L N D (k + 1)):jtc L N D k:=by
  intro s hsd hl
  intro S T M id hid
  have hlt:=(List.getElem?_eq_some_iff.1 hid).1
  refine am [id] [] Tryz.func108 rfl Tryz.ntmps108 Tryz.results108 ?_
  repeat' (first|apply ab|(apply V;rfl;(first|(apply az;rfl;rfl;rfl;omega)|(apply bl;rfl)|(apply az;rfl;rfl;rfl;omega)))|(apply Vw;rfl;(apply cd;exact List.length_set;(apply tyT;rfl)))|(apply Vs;rfl;(apply bw;exact List.length_set;(apply tyT;rfl);rfl;rfl;rfl;(first|apply bc|(apply bh;omega));rfl;rfl;(first|decide|(apply Nat.le_of_ble_eq_true;rfl))))|(apply Vc;rfl;rfl;apply fnT;rfl;apply (hk s (by omega) (by omega));(first|(apply aa;assumption)|(apply aq;assumption));(intro i_ hi_ _;obtain rfl:=List.mem_singleton.1 hi_;(apply bm;simp));(intro i_ hi_;cases hi_);rintro _ _ ⟨s3,rfl,⟨hg3,hl3,hd3,hb3⟩,hp3,⟨k_,n_,t_,na_,ty_,l_,o_,nth_⟩,rfl,hB3,hz3⟩ <;>(first|rw [au (by assumption)]|rw [ax (by assumption)]|skip))|(apply Vd;rfl;(apply gj;rfl;rfl);all_goals intro h_)|(apply Vw;rfl;(apply cd;rfl;(apply tyT;rfl)))|(apply ac;rfl)|apply ak|apply aj|apply ah|(apply ae;rfl)|(apply af;rfl)|apply ap|(exfalso;omega))
  refine cx (fun k:Ws × Ex × List BV=>L.length + 1 - k.1.loc) (fun q=>[(0,.ptr id 0),(1,vI k),(4,.ptr (S.length + 0) 0),(5,.ptr (S.length + 1) 0)]) (fun q S1 T1=>S1[id]? = some (jet L N q.1,105) ∧ S1[S.length + 0]? = some ([.d (dI 0),.d (dN 0),.d (dS ⟨#[]⟩),.d (dS ⟨#[]⟩),.d (dS ⟨#[]⟩),.tight [] 0,.d (dS ⟨#[]⟩),.d (dI 0)],124) ∧ S1[S.length + 1]? = some (q.2.2,124) ∧ wks q.2.2 =(jn q.2.1).map .d ∧ BEx q.2.1 ∧ T <+: T1 ∧ S.length + 2 ≤ S1.length ∧ s.loc ≤ q.1.loc ∧ q.1.loc ≤ L.length ∧ q.1.deep = s.deep ∧(q.1.bad = 0 → s.bad = 0) ∧(q.1.bad = 0 → s.loc < q.1.loc) ∧(q.1.bad = 0 → qa q.2.1 + 1 ≤ 2 *(q.1.loc - s.loc))) (s3,.mk k_ n_ t_ na_ ty_ l_ o_ nth_,_) ⟨aq hlt,at_ List.length_set rfl,at_ List.length_set rfl,by dsimp only;exact jm4 (.mk k_ n_ t_ na_ ty_ l_ o_ nth_),hB3,av (List.prefix_refl _),by simp only [List.length_append,List.length_set,List.length_cons,List.length_nil];omega,hg3,hl3,hd3,hb3,hp3,hz3⟩ ⟨rfl,rfl,rfl,rfl,trivial⟩ ?_
  clear hg3 hl3 hd3 hb3 hp3 hz3 hB3
  rintro ⟨s1,⟨k1_,n1_,t1_,na1_,ty1_,l1_,o1_,nth1_⟩,cs⟩ S1 T1 ⟨hb,hr0,hr1,hw,hB,hT,hS,hg1,hg2,hg3,hg4,hg5,hz⟩
  dsimp only at hb hr0 hr1 hw hB hT hS hg1 hg2 hg3 hg4 hg5 hz ⊢
  refine nz (id:=S.length + 1) (aa hr1) ?_
  rw [hw,jn]
  have hlt1:id < S1.length:=by omega
  rw [uh (show S.length + 1 < S1.length by omega)]
  generalize hS2:S1.set (S.length + 1) _ = S2
  have hb2:S2[id]? = some (jet L N s1,105):=by rw [← hS2,List.getElem?_set_ne (by omega)];exact hb
  have hr02:S2[S.length + 0]? = some ([.d (dI 0),.d (dN 0),.d (dS ⟨#[]⟩),.d (dS ⟨#[]⟩),.d (dS ⟨#[]⟩),.tight [] 0,.d (dS ⟨#[]⟩),.d (dI 0)],124):=by rw [← hS2,List.getElem?_set_ne (by omega)];exact hr0
  have hr12:=List.getElem?_set_self (a:=(List.map BV.d [dI k1_,dN n1_,dS t1_,dS na1_,dS ty1_,DV.sl (m5 l1_) l1_.length,dS o1_,dI nth1_],124)) (show S.length + 1 < S1.length by omega)
  rw [hS2] at hr12
  have hlt2:id < S2.length:=(List.getElem?_eq_some_iff.1 hb2).1
  have hS2l:S.length + 2 ≤ S2.length:=by rw [← hS2,List.length_set];exact hS
  clear hb hr0 hr1 hw hS2
  repeat' (first|apply ab|(apply V;rfl;(first|(apply bj;(apply tyT;rfl);rfl;(apply at_;exact List.length_set;rfl);rfl)|(apply az;rfl;rfl;rfl;omega)|(apply bj;(apply tyT;rfl);rfl;(apply aa;rw [List.getElem?_set_ne (by omega)];assumption);rfl)|(apply bl;rfl)|(apply bg;rfl)|(apply cb;(apply plT;rfl);rfl;rfl;decide)|(apply fz;(apply plT;rfl);rfl;rfl;decide)|(apply bj;(apply tyT;rfl);rfl;(apply aa;assumption);rfl)|(apply bz;(apply tyT;rfl);rfl;(apply aa;assumption);rfl)|(apply ef;(apply tyT;rfl);rfl;rfl)|(apply ck;rfl)|(apply ca;rfl;rfl)|(apply bu;rfl;rfl)|(apply ed;(apply plT;rfl);rfl)|(apply az;rfl;rfl;rfl;omega)|(apply bp (f:=ro);apply elT;rfl;rfl;rfl;rfl;exact eb;omega;exact List.getElem?_eq_getElem (by have:=(ki (hi_.1 rfl)).1;omega))))|(apply Vw;rfl;(apply cd;exact List.length_set;(apply tyT;rfl)))|(apply Vs;rfl;(apply bw;exact List.length_set;(apply tyT;rfl);rfl;rfl;rfl;(first|apply bc|(apply bh;omega));rfl;rfl;(first|decide|(apply Nat.le_of_ble_eq_true;rfl))))|(apply bt (nt:=62) (.take 0 (.one 1 (.take 2 (.take 3 (.take 4 (.take 5 (.take 6 (.take 7 (.take 8 (.take 9 (.take 10 (.take 11 (.take 12 (.take 13 (.take 15 (.one 14 (.take 16 (.take 17 .nil)))))))))))))))))) [] [];exact co;rfl;decide +kernel)|(apply oP;rfl;rfl;rfl;apply fnT;rfl;apply (jd1 (L:=L) (s:=s1) (more:=0) (kind:=4));assumption;omega;omega;(first|(apply aa;assumption)|(apply aq;assumption));rintro _ ⟨(_|_),rfl,hi_⟩)|(apply oP;rfl;rfl;rfl;apply fnT;rfl;apply jv0;rintro _ ⟨lv,rfl⟩)|(apply bt (nt:=62) (.take 0 (.take 1 (.take 2 (.take 3 (.take 4 (.take 5 (.take 6 (.take 7 (.take 8 (.take 9 (.take 10 (.take 11 .nil)))))))))))) [] [];exact co;rfl;decide +kernel)|(apply Vc;rfl;rfl;apply fnT;rfl;apply (hk ⟨s1.loc + 1,s1.bad,s1.whr,s1.deep,s1.late,s1.lateAt⟩ (by dsimp only;omega) (by dsimp only;have:=(ki (hi_.1 rfl)).1;omega));(first|(apply aa;assumption)|(apply aq;assumption));(intro i_ hi_ _;obtain rfl:=List.mem_singleton.1 hi_;(apply bm;simp));(intro i_ hi_;cases hi_);rintro _ _ ⟨s4,rfl,⟨hh1,hh2,hh3,hh4⟩,hh5,⟨k_,n_,t_,na_,ty_,l_,o_,nth_⟩,rfl,hB4,hz4⟩;dsimp only at hh1 hh2 hh3 hh4 hh5 hz4 <;>(first|rw [au (by assumption)]|rw [ax (by assumption)]|skip))|(apply Vs;rfl;(apply fg;(apply tyT;rfl);rfl;rfl;(rw [List.getElem?_set_ne (by omega)];assumption);(apply bh;omega);rfl;rfl;(first|decide|(apply Nat.le_of_ble_eq_true;rfl))))|(apply Vs;rfl;(apply fg;(apply tyT;rfl);rfl;rfl;assumption;(apply bh;omega);rfl;rfl;(first|decide|(apply Nat.le_of_ble_eq_true;rfl))))|(apply fm _ (.inr rfl);exact av hT;(focus repeat (first|apply a8|(apply ez;rfl;apply tyT;rfl;(exact List.getElem?_set_self (by omega));rfl)));rfl;(apply aa;rw [List.getElem?_set_ne (by omega)];assumption);rfl;rfl)|(apply Vw;rfl;(apply d8;rfl;(apply elT;rfl);(apply tyT;rfl);rfl;decide;rfl;rfl))|(apply Vs;rfl;(apply fg;(apply tyT;rfl);rfl;rfl;assumption;(apply bm;simp);rfl;rfl;(first|decide|(apply Nat.le_of_ble_eq_true;rfl))))|(apply ac;rfl)|apply ak|(apply al;rfl)|apply aj|apply ah|apply bd|apply ai|(apply ae;rfl)|(apply af;rfl)|apply ap|apply ey|apply cq|apply bo|apply dg|(apply tV;rfl;rfl;(first|(apply bj;(apply tyT;rfl);rfl;(apply at_;exact List.length_set;rfl);rfl)|(apply az;rfl;rfl;rfl;omega)|(apply bj;(apply tyT;rfl);rfl;(apply aa;rw [List.getElem?_set_ne (by omega)];assumption);rfl)|(apply bl;rfl)|(apply bg;rfl)|(apply cb;(apply plT;rfl);rfl;rfl;decide)|(apply fz;(apply plT;rfl);rfl;rfl;decide)|(apply bj;(apply tyT;rfl);rfl;(apply aa;assumption);rfl)|(apply bz;(apply tyT;rfl);rfl;(apply aa;assumption);rfl)|(apply ef;(apply tyT;rfl);rfl;rfl)|(apply ck;rfl)|(apply ca;rfl;rfl)|(apply bu;rfl;rfl)|(apply ed;(apply plT;rfl);rfl)|(apply az;rfl;rfl;rfl;omega)|(apply bp (f:=ro);apply elT;rfl;rfl;rfl;rfl;exact eb;omega;exact List.getElem?_eq_getElem (by have:=(ki (hi_.1 rfl)).1;omega)));rfl)|(apply tVd;rfl;rfl;(apply dq;rfl;rfl);rfl;all_goals intro h_)|(apply tVo;rfl;rfl)|(apply oVo;rfl;rfl))
  all_goals first
    | exact ⟨s1,rfl,⟨hg1,hg2,hg3,hg4⟩,hg5,(.mk k1_ n1_ t1_ na1_ ty1_ l1_ o1_ nth1_),rfl,hB,hz⟩
    |(have hx1:((s1.loc:Nat):Int).toNat < L.length:=(by have:=(ki (hi_.1 rfl)).1;omega);refine ⟨(s4,.mk 17 0 ⟨#[]⟩ (L[((s1.loc:Nat):Int).toNat]'hx1).text ⟨#[]⟩ [(.mk k1_ n1_ t1_ na1_ ty1_ l1_ o1_ nth1_),.mk k_ n_ t_ na_ ty_ l_ o_ nth_] ⟨#[]⟩ 0,_),_,_,?_,⟨aa (by rw [List.getElem?_set_ne (by omega)];exact List.getElem?_set_self hlt2),aa (by rw [List.getElem?_set_ne (by omega),List.getElem?_set_ne (by omega)];exact hr02),aa (List.getElem?_set_self (by rw [List.length_set];omega)),?_,gu (by decide) (hW _ (List.getElem_mem _)) (by decide) (jeu hB hB4),av hT,?_,?_,?_,?_,?_,?_,?_⟩,⟨rfl,rfl,rfl,rfl,trivial⟩,rfl⟩;(dsimp only;omega);(dsimp only;rw [jn];(first|rfl|(simp only [wks,wk,m5];rfl)));(simp only [List.length_append,List.length_set,List.length_cons,List.length_nil];omega);(dsimp only;omega);(dsimp only;omega);(dsimp only;omega);(intro h;dsimp only at h;exact hg4 (hh4 h));(intro h;dsimp only at h ⊢;omega);(intro h;dsimp only at h ⊢;have h1:=hz (hh4 h);have h2:=hz4 h;rw [pu,jz];omega))
    | skip
theorem jjk (L:List Wd) (N:Int) (D:Int) (h1:jtc L N D 1):jou L N D:=by
  intro s hsd hl
  intro S T M id hid
  have hlt:=(List.getElem?_eq_some_iff.1 hid).1
  refine am [id] [] Tryz.func81 rfl Tryz.ntmps81 Tryz.results81 ?_
  repeat' (first|apply ab|(apply V;rfl;(apply bl;rfl))|(apply Vs;rfl;(apply bw;exact List.length_set;(apply tyT;rfl);rfl;rfl;rfl;(first|apply bc|(apply bh;omega));rfl;rfl;(first|decide|(apply Nat.le_of_ble_eq_true;rfl))))|(apply fm _ (.inr rfl);(exact List.prefix_append _ _);(focus repeat (first|apply a8|(apply a9;rfl)|(apply cp;exact List.length_set;rfl;apply tyT;rfl;rfl;rfl)));rfl;(first|(apply aq;assumption)|(apply aa;assumption));rfl;rfl)|(apply Vc;rfl;rfl;apply fnT;rfl;apply (h1 s (by omega) (by omega));(first|(apply aa;assumption)|(apply aq;assumption));(intro i_ hi_ _;obtain rfl:=List.mem_singleton.1 hi_;(apply bm;simp));(intro i_ hi_;cases hi_);rintro _ _ ⟨s3,rfl,⟨hg3,hl3,hd3,hb3⟩,hp3,⟨k_,n_,t_,na_,ty_,l_,o_,nth_⟩,rfl,hB3,hz3⟩ <;>(first|rw [au (by assumption)]|rw [ax (by assumption)]|skip))|(apply Vw;rfl;(apply cd;rfl;(apply tyT;rfl)))|(apply ac;rfl)|apply ai)
  all_goals exact ⟨s3,rfl,⟨hg3,hl3,hd3,hb3⟩,hp3,.mk k_ n_ t_ na_ ty_ l_ o_ nth_,rfl,hB3,hz3⟩
theorem jro (L:List Wd) (N:Int) (hL:L.length ≤ 8000) (hW:∀ w ∈ L,w.text.size ≤ 1000000):∀(d:Nat) (D:Int),0 ≤ D → D ≤ 41 → 41 - D ≤ d → jou L N D ∧ jtb L N D ∧ jqa L N D:=by
  intro d
  induction d with
  | zero =>
    intro D h0 h1 h2
    have ha:=jji L N hL hW D h0 h1 (fun h=>absurd h (by omega))
    have hat:=jjj L N hL hW D h0 h1 (fun h=>absurd h (by omega)) ha
    have hbh:=jde L N hL hW D h0 h1 ha
    have hun:=jgm L N hL hW D h0 h1 (fun h=>absurd h (by omega)) hat hbh
    have b7:=jxf L N D hun
    have b1:=p6 L N hL hW D 1 (by omega) (by omega) (p6 L N hL hW D 2 (by omega) (by omega) (p6 L N hL hW D 3 (by omega) (by omega) (p6 L N hL hW D 4 (by omega) (by omega) (p6 L N hL hW D 5 (by omega) (by omega) (p6 L N hL hW D 6 (by omega) (by omega) b7)))))
    exact ⟨jjk L N D b1,hun,ha⟩
  | succ d ih =>
    intro D h0 h1 h2
    have ih:=fun (h:D ≤ 40)=>ih (D + 1) (by omega) (by omega) (by omega)
    have ha:=jji L N hL hW D h0 h1 (fun h=>(ih h).1)
    have hat:=jjj L N hL hW D h0 h1 (fun h=>(ih h).1) ha
    have hbh:=jde L N hL hW D h0 h1 ha
    have hun:=jgm L N hL hW D h0 h1 (fun h=>(ih h).2.1) hat hbh
    have b7:=jxf L N D hun
    have b1:=p6 L N hL hW D 1 (by omega) (by omega) (p6 L N hL hW D 2 (by omega) (by omega) (p6 L N hL hW D 3 (by omega) (by omega) (p6 L N hL hW D 4 (by omega) (by omega) (p6 L N hL hW D 5 (by omega) (by omega) (p6 L N hL hW D 6 (by omega) (by omega) b7)))))
    exact ⟨jjk L N D b1,hun,ha⟩
theorem jev (L:List Wd) (N:Int) (hL:L.length ≤ 8000) (hW:∀ w ∈ L,w.text.size ≤ 1000000) (D:Int) (h0:0 ≤ D) (h1:D ≤ 41):jou L N D:=(jro L N hL hW 41 D h0 h1 (by omega)).1
theorem jjl (L:List Wd) (N:Int) (hL:L.length ≤ 8000) (hW:∀ w ∈ L,w.text.size ≤ 1000000) (D:Int) (h0:0 ≤ D) (h1:D ≤ 41):jqa L N D:=(jro L N hL hW 41 D h0 h1 (by omega)).2.2
end Go.Proofs.YtinffhimfoicdaaGreat
