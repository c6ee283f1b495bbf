/- Texts of the claim, merged: TA, TB, MA, Calc24, Calc25, Calc28. No conditions. -/
import Derived.Test.YtinffhimfoicdaaGreatPq2
import Derived.Test.YtinffhimfoicdaaGreatPq3
namespace Go.Proofs.YtinffhimfoicdaaGreat
open Go Go.RowKit Go.Proofs.YtinffhimfoicdaaGreat.Calc
set_option linter.unusedVariables false
set_option linter.unusedSimpArgs false
set_option maxRecDepth 100000
set_option maxHeartbeats 8000000
def me0:Me:=⟨false,false,⟨#[]⟩,⟨#[]⟩,[],[]⟩
def fi0:Fi:=⟨false,⟨#[]⟩,⟨#[]⟩,[]⟩
def cl0:Cl:=⟨⟨#[]⟩,⟨#[]⟩,[],[]⟩
def vFi (f:Fi):BV:=.agg ((je f).map .d)
def vTw (o:ByteArray) (n:Int):BV:=.agg [.d (dS o),.d (dI n)]
theorem jw8:vMe me0 = .agg [.d (dB false),.d (dB false),.d (dS ⟨#[]⟩),.d (dS ⟨#[]⟩),.d (.sl [] 0),.d (.sl [] 0)]:=by
  simp only [vMe,j1,me0,cy,eq,g8,List.map_cons,List.map_nil,List.flatMap_nil,List.length_nil]
theorem jq2:vFi fi0 = .agg [.d (dB false),.d (dS ⟨#[]⟩),.d (dS ⟨#[]⟩),.d (.sl [] 0)]:=by
  simp only [vFi,je,fi0,qg,d4,List.map_cons,List.map_nil,List.flatMap_nil,List.length_nil]
abbrev Sz (p:List Cl):Prop:=szP p ≤ 1000000
theorem qy (p:List Cl) (a:ByteArray) (h:Sz p):vd (dy p a) ≤ 1000000:=by
  rcases sp p a with ⟨j,c,hc,_,e⟩|⟨_,e⟩
  · rw [e]
    exact Nat.le_trans (qh (f:=vd) hc) h
  · rw [e]
    simp [vd]
theorem ec {p:List Cl} (h:Sz p):p.length ≤ 1000000:=Nat.le_trans (rm p) h
theorem sx {p:List Cl} (h:Sz p):rf p:=⟨ec h,fun c hc=>by
  obtain ⟨k,hk⟩:=List.getElem?_of_mem hc
  exact Nat.le_trans (k7 c) (Nat.le_trans (qh (f:=vd) hk) h)⟩
theorem jiq {c:Cl} {k:Nat} {m:Me} (h:c.methods[k]? = some m):y5 m ≤ vd c:=by
  have:=qh (f:=y5) h
  simp only [vd]
  omega
theorem jcx (m:Me):m.params.length ≤ y5 m:=by simp only [y5];omega
theorem jq3 {α:Type} [Inhabited α] (l:List α) (n:Int):∃ m,0 ≤ n → n < l.length → l[n.toNat]? = some m:=by
  by_cases h:0 ≤ n ∧ n < l.length
  · exact ⟨l[n.toNat]'(by omega),fun _ _=>List.getElem?_eq_getElem (by omega)⟩
  · exact ⟨default,fun h1 h2=>absurd ⟨h1,h2⟩ h⟩
instance:Inhabited Me:=⟨me0⟩
instance:Inhabited Fi:=⟨fi0⟩
instance:Inhabited Cl:=⟨cl0⟩
attribute [local irreducible] Tri ew er ci bn db d7 inQ jb
theorem jyh (p:List Cl) (a:ByteArray) (n:Int) (hp:Sz p):PC 33 [vP p,vTw a n] (fun r=>∃(m:Fi) (b:Bool),r = .tup [vFi m,vB b] ∧(b = true → 0 ≤ n ∧(dy p a).fields[n.toNat]? = some m)):=by
  have h68:=jmv p a (ec hp)
  have hcs:=qy p a hp
  have hfl:=k7 (dy p a)
  unfold jk5 at h68
  generalize dy p a = c at *
  obtain ⟨cn,csup,cf,cm⟩:=c
  dsimp only at *
  obtain ⟨m,hm⟩:=jq3 cf n
  intro S T M
  refine am [] [] Tryz.func33 rfl Tryz.ntmps33 Tryz.results33 ?_
  repeat' (first|apply ab|(apply V;rfl;(first|(apply bl;rfl)|(apply bg;rfl)|(apply cb;(apply plT;rfl);rfl;rfl;decide)|(apply bj;(apply tyT;rfl);rfl;(apply at_;rfl;rfl);rfl)|(apply bz;(apply tyT;rfl);rfl;(apply at_;rfl;rfl);rfl)|(apply dp;(apply tyT;rfl);rfl;(first|rfl|apply ay|apply ba))|(apply bq;(apply elT;rfl);rfl;rfl)|(apply ca;rfl;rfl)|(apply bu;rfl;rfl)|(apply ed;(apply plT;rfl);rfl)|(apply bp (c:=m);apply elT;rfl;rfl;rfl;rfl;exact dx;omega;(first|exact hm (by omega) (by omega)|simpa using hm (by omega) (by omega)))))|(apply Vp;rfl;rfl;apply fnT;rfl;apply h68;rintro _ rfl)|(apply Vd;rfl;(first|(apply cu;rfl;rfl)|(apply ep;rfl;rfl));all_goals intro h_)|(apply Vo;rfl)|(apply Vw;rfl;(first|(apply cd;rfl;(apply tyT;rfl))|(apply cj;rfl;rfl;rfl)))|(apply Vs;rfl;(apply bw;rfl;(apply tyT;rfl);rfl;rfl;rfl;(first|apply bc|(apply bh;omega));rfl;rfl;(first|decide|(apply Nat.le_of_ble_eq_true;rfl))))|(apply ac;rfl)|apply ak|apply ah|apply ai|(apply ae;rfl)|(apply af;rfl)|(apply bf _ (.inr rfl);(exact List.prefix_append _ _);(focus repeat (first|apply a8|(apply a9;rfl)|(apply cp;rfl;rfl;apply tyT;rfl;rfl;rfl)));rfl)|apply ap|apply aw)
  · exact ⟨fi0,false,by rw [jq2];rfl,(fun h=>nomatch h)⟩
  · exact ⟨fi0,false,by rw [jq2];rfl,(fun h=>nomatch h)⟩
  · exact ⟨m,true,rfl,fun _=>⟨by omega,hm (by omega) (by omega)⟩⟩
theorem jcy (p:List Cl) (a:ByteArray) (n:Int) (hp:Sz p):PC 142 [vP p,vTw a n] (fun r=>∃(m:Me) (b:Bool),r = .tup [vMe m,vB b] ∧(b = true → 0 ≤ n ∧(dy p a).methods[n.toNat]? = some m) ∧ m.params.length ≤ 1000000):=by
  have h68:=jmv p a (ec hp)
  have hcs:=qy p a hp
  have hfl:=gd (dy p a)
  have hpar:∀(k:Nat) (m:Me),(dy p a).methods[k]? = some m → m.params.length ≤ 1000000:=fun k m h=>Nat.le_trans (jcx m) (Nat.le_trans (jiq h) hcs)
  unfold jk5 at h68
  generalize dy p a = c at *
  obtain ⟨cn,csup,cf,cm⟩:=c
  dsimp only at *
  obtain ⟨m,hm⟩:=jq3 cm n
  intro S T M
  refine am [] [] Tryz.func142 rfl Tryz.ntmps142 Tryz.results142 ?_
  repeat' (first|apply ab|(apply V;rfl;(first|(apply bl;rfl)|(apply bg;rfl)|(apply cb;(apply plT;rfl);rfl;rfl;decide)|(apply bj;(apply tyT;rfl);rfl;(apply at_;rfl;rfl);rfl)|(apply bz;(apply tyT;rfl);rfl;(apply at_;rfl;rfl);rfl)|(apply dp;(apply tyT;rfl);rfl;(first|rfl|apply ay|apply ba))|(apply bq;(apply elT;rfl);rfl;rfl)|(apply ca;rfl;rfl)|(apply bu;rfl;rfl)|(apply ed;(apply plT;rfl);rfl)|(apply bp (c:=m);apply elT;rfl;rfl;rfl;rfl;exact fu;omega;(first|exact hm (by omega) (by omega)|simpa using hm (by omega) (by omega)))))|(apply Vp;rfl;rfl;apply fnT;rfl;apply h68;rintro _ rfl)|(apply Vd;rfl;(first|(apply cu;rfl;rfl)|(apply ep;rfl;rfl));all_goals intro h_)|(apply Vo;rfl)|(apply Vw;rfl;(first|(apply cd;rfl;(apply tyT;rfl))|(apply cj;rfl;rfl;rfl)))|(apply Vs;rfl;(apply bw;rfl;(apply tyT;rfl);rfl;rfl;rfl;(first|apply bc|(apply bh;omega));rfl;rfl;(first|decide|(apply Nat.le_of_ble_eq_true;rfl))))|(apply ac;rfl)|apply ak|apply ah|apply ai|(apply ae;rfl)|(apply af;rfl)|(apply bf _ (.inr rfl);(exact List.prefix_append _ _);(focus repeat (first|apply a8|(apply a9;rfl)|(apply cp;rfl;rfl;apply tyT;rfl;rfl;rfl)));rfl)|apply ap|apply aw)
  · exact ⟨me0,false,by rw [jw8];rfl,(fun h=>nomatch h),by decide⟩
  · exact ⟨me0,false,by rw [jw8];rfl,(fun h=>nomatch h),by decide⟩
  · exact ⟨m,true,rfl,fun _=>⟨by omega,hm (by omega) (by omega)⟩,hpar _ _ (hm (by omega) (by omega))⟩
theorem jus (p:List Cl) (a name:ByteArray) (hp:Sz p):PC 157 [vP p,vS a,vS name] (fun r=>∃(o:ByteArray) (n:Int) (b:Bool),r = .tup [vTw o n,vB b]):=by
  have h67:=jp6 p a (ec hp)
  have hcl:=sk p a
  have hpl:=ec hp
  generalize chC p a = l at *
  intro S T M
  refine am [] [] Tryz.func157 rfl Tryz.ntmps157 Tryz.results157 ?_
  repeat' (first|apply ab|(apply V;rfl;(first|(apply bl;rfl)|(apply bg;rfl)|(apply bj;(apply tyT;rfl);rfl;(apply at_;rfl;rfl);rfl)))|(apply Vp;rfl;rfl;apply fnT;rfl;apply h67;rintro _ rfl)|(apply Vw;rfl;(first|(apply cd;rfl;(apply tyT;rfl))|(apply cj;rfl;rfl;rfl)))|(apply ac;rfl)|apply ak|apply aj)
  refine eh (fun k:Nat=>l.length - k) (fun k=>[(2,vS name),(3,.ptr (S.length + 0) 0),(6,.ptr (S.length + 1) 0),(8,.d (cy dw l)),(9,vI k)]) (fun k=>k ≤ l.length) 0 (Nat.zero_le _) ⟨rfl,rfl,rfl,rfl,rfl,trivial⟩ ?_
  rintro k hk
  repeat' (first|apply ab|(apply V;rfl;(first|(apply bl;rfl)|(apply bg;rfl)|(apply bq;(apply elT;rfl);rfl;rfl)|(apply ed;(apply plT;rfl);rfl)))|(apply Vd;rfl;(apply cu;rfl;rfl);all_goals intro h_)|(apply Vs;rfl;(apply bw;rfl;(apply tyT;rfl);rfl;rfl;rfl;(first|apply bc|(apply bh;omega));rfl;rfl;(first|decide|(apply Nat.le_of_ble_eq_true;rfl))))|(apply ac;rfl)|apply ak|apply aj|apply ah|apply bd|apply ai|(apply ae;rfl)|(apply af;rfl)|(apply bf _ (.inr rfl);(exact List.prefix_append _ _);(focus repeat (first|apply a8|(apply a9;rfl)|(apply cp;rfl;rfl;apply tyT;rfl;rfl;rfl)));rfl)|apply ap|apply ey|apply bo)
  · obtain ⟨c,hc⟩:∃ c,l[k]? = some c:=⟨_,List.getElem?_eq_getElem (by omega)⟩
    repeat' (first|apply ab|(apply V;rfl;(first|(apply bl;rfl)|(apply bg;rfl)|(apply bj;(apply tyT;rfl);rfl;(apply at_;rfl;rfl);rfl)|(apply ef;(apply tyT;rfl);rfl;rfl)|(apply ed;(apply plT;rfl);rfl)|(apply az;rfl;rfl;rfl;omega)|(apply bp (c:=c);apply elT;rfl;rfl;rfl;rfl;exact cv;omega;(first|exact hc|simpa using hc))))|(apply de (nt:=36) (.take 0 (.take 1 (.take 2 (.take 3 (.take 4 (.take 5 (.one 6 (.take 7 .nil)))))))) [] [];exact co;rfl;decide +kernel)|(apply oP;rfl;rfl;rfl;apply fnT;rfl;apply (jw0 p c name (sx hp));rintro _ rfl)|(apply Vd;rfl;(apply ep;rfl;rfl);all_goals intro h_)|(apply Vs;rfl;(apply bw;rfl;(apply tyT;rfl);rfl;rfl;rfl;(first|apply bc|(apply bh;omega));rfl;rfl;(first|decide|(apply Nat.le_of_ble_eq_true;rfl))))|(apply ac;rfl)|(apply al;rfl)|apply ah|apply ai|(apply ae;rfl)|(apply af;rfl)|(apply bf _ (.inr rfl);(exact List.prefix_append _ _);(focus repeat (first|apply a8|(apply a9;rfl)|(apply cp;rfl;rfl;apply tyT;rfl;rfl;rfl)));rfl)|apply ap|apply cq|apply dm|apply aw|apply dg|(apply tV;rfl;rfl;(first|(apply bl;rfl)|(apply bg;rfl)|(apply bj;(apply tyT;rfl);rfl;(apply at_;rfl;rfl);rfl)|(apply ef;(apply tyT;rfl);rfl;rfl)|(apply ed;(apply plT;rfl);rfl)|(apply az;rfl;rfl;rfl;omega)|(apply bp (c:=c);apply elT;rfl;rfl;rfl;rfl;exact cv;omega;(first|exact hc|simpa using hc)));rfl))
    · exact ⟨c,_,true,rfl⟩
    · exact ⟨k + 1,by omega,by omega,⟨rfl,rfl,rfl,rfl,di (by omega),trivial⟩,rfl⟩
  · exact ⟨⟨#[]⟩,0,false,rfl⟩
theorem jut (a b:List Pa) (ha:a.length ≤ 1000000):PC 154 [.d (cy gk a),.d (cy gk b)] isB:=by
  intro S T M
  refine am [] [] Tryz.func154 rfl Tryz.ntmps154 Tryz.results154 ?_
  repeat' (first|apply ab|(apply V;rfl;(first|(apply bl;rfl)|(apply bg;rfl)|(apply bq;(apply elT;rfl);rfl;rfl)))|(apply Vd;rfl;(apply fb;rfl;rfl);all_goals intro h_)|(apply ac;rfl)|apply ak|apply aj|apply ah|apply ai|(apply ae;rfl)|(apply af;rfl)|(apply bf _ (.inr rfl);(exact List.prefix_append _ _);(focus repeat (first|apply a8|(apply a9;rfl)));rfl)|apply ap|apply aw)
  · exact ⟨false,rfl⟩
  refine eh (fun k:Nat=>a.length - k) (fun k=>[(0,.d (cy gk a)),(1,.d (cy gk b)),(5,vI k)]) (fun k=>k ≤ a.length) 0 (Nat.zero_le _) ⟨rfl,rfl,rfl,trivial⟩ ?_
  rintro k hk
  repeat' (first|apply ab|(apply V;rfl;(first|(apply bl;rfl)|(apply bg;rfl)|(apply bq;(apply elT;rfl);rfl;rfl)))|(apply Vd;rfl;(apply cu;rfl;rfl);all_goals intro h_)|(apply ac;rfl)|apply ak|apply aj|apply ah|apply bd|apply ai|(apply ae;rfl)|(apply af;rfl)|(apply bf _ (.inr rfl);(exact List.prefix_append _ _);(focus repeat (first|apply a8|(apply a9;rfl)));rfl)|apply ap|apply ey|apply bo)
  · obtain ⟨c,hc⟩:∃ c,a[k]? = some c:=⟨_,List.getElem?_eq_getElem (by omega)⟩
    obtain ⟨d,hd⟩:∃ c,b[k]? = some c:=⟨_,List.getElem?_eq_getElem (by omega)⟩
    repeat' (first|apply ab|(apply V;rfl;(first|(apply bl;rfl)|(apply bg;rfl)|(apply fz;(apply plT;rfl);rfl;rfl;decide)|(apply ef;(apply tyT;rfl);rfl;rfl)|(apply az;rfl;rfl;rfl;omega)|(apply bp (c:=c);apply elT;rfl;rfl;rfl;rfl;exact dn;omega;(first|exact hc|simpa using hc))|(apply bp (c:=d);apply elT;rfl;rfl;rfl;rfl;exact dn;omega;(first|exact hd|simpa using hd))))|(apply de (nt:=28) (.take 0 (.take 1 (.take 2 (.take 3 (.take 4 (.take 5 (.take 6 (.take 7 (.take 8 (.take 9 (.take 10 .nil))))))))))) [] [];exact co;rfl;decide +kernel)|(apply ac;rfl)|(apply al;rfl)|apply ah|apply ai|(apply ae;rfl)|(apply af;rfl)|(apply bf _ (.inr rfl);(exact List.prefix_append _ _);(focus repeat (first|apply a8|(apply a9;rfl)));rfl)|apply ap|apply cq|apply dm|apply aw|apply dg|(apply tV;rfl;rfl;(first|(apply bl;rfl)|(apply bg;rfl)|(apply fz;(apply plT;rfl);rfl;rfl;decide)|(apply ef;(apply tyT;rfl);rfl;rfl)|(apply az;rfl;rfl;rfl;omega)|(apply bp (c:=c);apply elT;rfl;rfl;rfl;rfl;exact dn;omega;(first|exact hc|simpa using hc))|(apply bp (c:=d);apply elT;rfl;rfl;rfl;rfl;exact dn;omega;(first|exact hd|simpa using hd)));rfl)|(apply tVd;rfl;rfl;(apply fy;rfl;rfl);rfl;all_goals intro h_))
    · exact ⟨false,rfl⟩
    · exact ⟨k + 1,by omega,by omega,⟨rfl,rfl,di (by omega),trivial⟩,rfl⟩
  · exact ⟨true,rfl⟩
theorem joe (m n:Me) (hm:m.params.length ≤ 1000000):PC 140 [vMe m,vMe n] isB:=by
  have h154:=jut m.params n.params hm
  obtain ⟨q1,q2,q3,q4,q5,q6⟩:=m
  obtain ⟨u1,u2,u3,u4,u5,u6⟩:=n
  dsimp only at *
  intro S T M
  refine am [] [] Tryz.func140 rfl Tryz.ntmps140 Tryz.results140 ?_
  repeat' (first|apply ab|(apply V;rfl;(first|(apply bl;rfl)|(apply bg;rfl)|(apply cb;(apply plT;rfl);rfl;rfl;decide)|(apply bz;(apply tyT;rfl);rfl;(apply at_;rfl;rfl);rfl)|(apply ca;rfl;rfl)|(apply bu;rfl;rfl)))|(apply Vp;rfl;rfl;apply fnT;rfl;apply h154;rintro _ ⟨b_,rfl⟩)|(apply Vd;rfl;(apply du;rfl;rfl);all_goals intro h_)|(apply Vo;rfl)|(apply Vw;rfl;(apply cj;rfl;rfl;rfl))|(apply ac;rfl)|apply ai|(apply bf _ (.inr rfl);(exact List.prefix_append _ _);(focus repeat (first|apply a8|(apply a9;rfl)));rfl))
  all_goals exact ⟨_,rfl⟩
theorem juu (p:List Cl) (a:ByteArray) (x:Me) (hp:Sz p):PC 155 [vP p,vS a,vMe x] (fun r=>∃ n,r = vI n):=by
  have h68:=jmv p a (ec hp)
  have hcs:=qy p a hp
  have hfl:=gd (dy p a)
  have hpar:∀(k:Nat) (m:Me),(dy p a).methods[k]? = some m → m.params.length ≤ 1000000:=fun k m h=>Nat.le_trans (jcx m) (Nat.le_trans (jiq h) hcs)
  unfold jk5 at h68
  generalize dy p a = c at *
  obtain ⟨cn,csup,cf,cm⟩:=c
  dsimp only at *
  intro S T M
  refine am [] [] Tryz.func155 rfl Tryz.ntmps155 Tryz.results155 ?_
  repeat' (first|apply ab|(apply V;rfl;(first|(apply bl;rfl)|(apply bg;rfl)|(apply bj;(apply tyT;rfl);rfl;(apply at_;rfl;rfl);rfl)))|(apply Vp;rfl;rfl;apply fnT;rfl;apply h68;rintro _ rfl)|(apply Vw;rfl;(first|(apply cd;rfl;(apply tyT;rfl))|(apply cj;rfl;rfl;rfl)))|(apply Vs;rfl;(apply bw;rfl;(apply tyT;rfl);rfl;rfl;rfl;(first|apply bc|(apply bh;omega));rfl;rfl;(first|decide|(apply Nat.le_of_ble_eq_true;rfl))))|(apply ac;rfl)|apply ak|apply aj)
  refine eh (fun k:Nat=>cm.length - k) (fun k=>[(3,.ptr (S.length + 0) 0),(5,.ptr (S.length + 1) 0),(7,.ptr (S.length + 2) 0),(8,vI k)]) (fun k=>k ≤ cm.length) 0 (Nat.zero_le _) ⟨rfl,rfl,rfl,rfl,trivial⟩ ?_
  rintro k hk
  repeat' (first|apply ab|(apply V;rfl;(first|(apply bl;rfl)|(apply bg;rfl)|(apply cb;(apply plT;rfl);rfl;rfl;decide)|(apply bz;(apply tyT;rfl);rfl;(apply at_;rfl;rfl);rfl)|(apply bq;(apply elT;rfl);rfl;rfl)))|(apply Vd;rfl;(apply cu;rfl;rfl);all_goals intro h_)|(apply ac;rfl)|apply ak|apply aj|apply ah|apply bd|apply ai|(apply ae;rfl)|(apply af;rfl)|(apply bf _ (.inr rfl);(exact List.prefix_append _ _);(focus repeat (first|apply a8|(apply a9;rfl)));rfl)|apply ap|apply ey|apply bo)
  · obtain ⟨m,hm⟩:∃ c,cm[k]? = some c:=⟨_,List.getElem?_eq_getElem (by omega)⟩
    have h140:=joe m x (hpar k m hm)
    have hme:∀ b,m.ctor = b → True:=fun _ _=>trivial
    obtain ⟨q1,q2,q3,q4,q5,q6⟩:=m
    cases q2
    all_goals
      repeat' (first|apply ab|(apply V;rfl;(first|(apply bl;rfl)|(apply bg;rfl)|(apply cb;(apply plT;rfl);rfl;rfl;decide)|(apply fz;(apply plT;rfl);rfl;rfl;decide)|(apply bj;(apply tyT;rfl);rfl;(apply at_;rfl;rfl);rfl)|(apply bz;(apply tyT;rfl);rfl;(apply at_;rfl;rfl);rfl)|(apply dp;(apply tyT;rfl);rfl;(first|rfl|apply ay|apply ba))|(apply ef;(apply tyT;rfl);rfl;rfl)|(apply ca;rfl;rfl)|(apply bu;rfl;rfl)|(apply cg;rfl)|(apply az;rfl;rfl;rfl;omega)|(apply bp (c:=(⟨q1,_,q3,q4,q5,q6⟩:Me));apply elT;rfl;rfl;rfl;rfl;exact fu;omega;(first|exact hm|simpa using hm))))|(apply de (nt:=36) (.take 0 (.take 1 (.take 2 (.take 3 (.take 4 (.take 5 (.take 6 (.take 7 (.take 8 (.take 9 (.take 10 (.take 11 (.take 12 (.take 13 (.one 14 (.take 15 .nil)))))))))))))))) [] [];exact co;rfl;decide +kernel)|(apply oP;rfl;rfl;rfl;apply fnT;rfl;apply h140;rintro _ ⟨(_|_),rfl⟩)|(apply ac;rfl)|(apply al;rfl)|apply ah|apply ai|(apply ae;rfl)|(apply af;rfl)|(apply bf _ (.inr rfl);(exact List.prefix_append _ _);(focus repeat (first|apply a8|(apply a9;rfl)));rfl)|apply ap|apply cq|apply dm|apply aw|apply dg|(apply tV;rfl;rfl;(first|(apply bl;rfl)|(apply bg;rfl)|(apply cb;(apply plT;rfl);rfl;rfl;decide)|(apply fz;(apply plT;rfl);rfl;rfl;decide)|(apply bj;(apply tyT;rfl);rfl;(apply at_;rfl;rfl);rfl)|(apply bz;(apply tyT;rfl);rfl;(apply at_;rfl;rfl);rfl)|(apply dp;(apply tyT;rfl);rfl;(first|rfl|apply ay|apply ba))|(apply ef;(apply tyT;rfl);rfl;rfl)|(apply ca;rfl;rfl)|(apply bu;rfl;rfl)|(apply cg;rfl)|(apply az;rfl;rfl;rfl;omega)|(apply bp (c:=(⟨q1,_,q3,q4,q5,q6⟩:Me));apply elT;rfl;rfl;rfl;rfl;exact fu;omega;(first|exact hm|simpa using hm)));rfl)|(apply tVo;rfl;rfl)|(apply oVo;rfl;rfl))
      all_goals first|exact ⟨_,rfl⟩|exact ⟨k + 1,by omega,by omega,⟨rfl,rfl,rfl,di (by omega),trivial⟩,rfl⟩
  · exact ⟨-1,rfl⟩
theorem juv (p:List Cl) (a:ByteArray) (n:Int) (hp:Sz p):PC 141 [vP p,vTw a n] (fun r=>∃(o:ByteArray) (i:Int) (b:Bool),r = .tup [vTw o i,vB b]):=by
  have h142:=jcy p a n hp
  have h67:=jp6 p a (ec hp)
  have hcl:=sk p a
  have hpl:=ec hp
  generalize chC p a = l at *
  intro S T M
  refine am [] [] Tryz.func141 rfl Tryz.ntmps141 Tryz.results141 ?_
  repeat' (first|apply ab|(apply V;rfl;(first|(apply bl;rfl)|(apply bg;rfl)|(apply cb;(apply plT;rfl);rfl;rfl;decide)|(apply bj;(apply tyT;rfl);rfl;(apply at_;rfl;rfl);rfl)|(apply bz;(apply tyT;rfl);rfl;(apply at_;rfl;rfl);rfl)|(apply ca;rfl;rfl)|(apply bu;rfl;rfl)|(apply eu;rfl;rfl)|(apply cg;rfl)|(apply ed;(apply plT;rfl);rfl)))|(apply Vp;rfl;rfl;apply fnT;rfl;apply h142;rintro _ ⟨⟨q1,(_|_),q3,q4,q5,q6⟩,(_|_),rfl,hq1_,hq2_⟩)|(apply Vp;rfl;rfl;apply fnT;rfl;apply h67;rintro _ rfl)|(apply Vo;rfl)|(apply Vw;rfl;(first|(apply cd;rfl;(apply tyT;rfl))|(apply cj;rfl;rfl;rfl)))|(apply Vs;rfl;(apply bw;rfl;(apply tyT;rfl);rfl;rfl;rfl;(first|apply bc|(apply bh;omega));rfl;rfl;(first|decide|(apply Nat.le_of_ble_eq_true;rfl))))|(apply ac;rfl)|apply ak|apply aj|apply ah|apply ai|(apply ae;rfl)|(apply af;rfl)|(apply bf _ (.inr rfl);(exact List.prefix_append _ _);(focus repeat (first|apply a8|(apply a9;rfl)|(apply cp;rfl;rfl;apply tyT;rfl;rfl;rfl)));rfl)|apply ap|apply aw)
  all_goals first|exact ⟨⟨#[]⟩,0,false,rfl⟩|skip
  refine eh (fun k:Nat=>l.length + 1 - k) (fun k=>[(2,.ptr (S.length + 0) 0),(4,.ptr (S.length + 2) 0),(6,.ptr (S.length + 3) 0),(8,.d (cy dw l)),(9,vI k)]) (fun k=>k ≤ l.length + 1) 1 (by omega) ⟨rfl,rfl,rfl,rfl,rfl,trivial⟩ ?_
  rintro k hk
  repeat' (first|apply ab|(apply V;rfl;(first|(apply bl;rfl)|(apply bg;rfl)|(apply bq;(apply elT;rfl);rfl;rfl)|(apply ed;(apply plT;rfl);rfl)))|(apply Vd;rfl;(apply cu;rfl;rfl);all_goals intro h_)|(apply Vs;rfl;(apply bw;rfl;(apply tyT;rfl);rfl;rfl;rfl;(first|apply bc|(apply bh;omega));rfl;rfl;(first|decide|(apply Nat.le_of_ble_eq_true;rfl))))|(apply ac;rfl)|apply ak|apply aj|apply ah|apply bd|apply ai|(apply ae;rfl)|(apply af;rfl)|(apply bf _ (.inr rfl);(exact List.prefix_append _ _);(focus repeat (first|apply a8|(apply a9;rfl)|(apply cp;rfl;rfl;apply tyT;rfl;rfl;rfl)));rfl)|apply ap|apply ey|apply bo)
  · obtain ⟨c,hc⟩:∃ c,l[k]? = some c:=⟨_,List.getElem?_eq_getElem (by omega)⟩
    repeat' (first|apply ab|(apply V;rfl;(first|(apply bl;rfl)|(apply bg;rfl)|(apply bj;(apply tyT;rfl);rfl;(apply at_;rfl;rfl);rfl)|(apply ef;(apply tyT;rfl);rfl;rfl)|(apply ed;(apply plT;rfl);rfl)|(apply az;rfl;rfl;rfl;omega)|(apply bp (c:=c);apply elT;rfl;rfl;rfl;rfl;exact cv;omega;(first|exact hc|simpa using hc))))|(apply de (nt:=50) (.take 0 (.take 1 (.take 2 (.take 3 (.take 4 (.take 5 (.one 6 (.take 7 .nil)))))))) [] [];exact co;rfl;decide +kernel)|(apply oP;rfl;rfl;rfl;apply fnT;rfl;apply (juu p c (⟨q1,false,q3,q4,q5,q6⟩:Me) hp);rintro _ ⟨j_,rfl⟩)|(apply Vd;rfl;(apply ep;rfl;rfl);all_goals intro h_)|(apply Vs;rfl;(apply bw;rfl;(apply tyT;rfl);rfl;rfl;rfl;(first|apply bc|(apply bh;omega));rfl;rfl;(first|decide|(apply Nat.le_of_ble_eq_true;rfl))))|(apply ac;rfl)|(apply al;rfl)|apply ah|apply ai|(apply ae;rfl)|(apply af;rfl)|(apply bf _ (.inr rfl);(exact List.prefix_append _ _);(focus repeat (first|apply a8|(apply a9;rfl)|(apply cp;rfl;rfl;apply tyT;rfl;rfl;rfl)));rfl)|apply ap|apply cq|apply dm|apply aw|apply dg|(apply tV;rfl;rfl;(first|(apply bl;rfl)|(apply bg;rfl)|(apply bj;(apply tyT;rfl);rfl;(apply at_;rfl;rfl);rfl)|(apply ef;(apply tyT;rfl);rfl;rfl)|(apply ed;(apply plT;rfl);rfl)|(apply az;rfl;rfl;rfl;omega)|(apply bp (c:=c);apply elT;rfl;rfl;rfl;rfl;exact cv;omega;(first|exact hc|simpa using hc)));rfl))
    · exact ⟨c,_,true,rfl⟩
    · exact ⟨k + 1,by omega,by omega,⟨rfl,rfl,rfl,rfl,di (by omega),trivial⟩,rfl⟩
  · exact ⟨⟨#[]⟩,0,false,rfl⟩
theorem vg (p:List Cl) (a b:ByteArray) (hp:Sz p):PC 122 [vP p,vS a,vS b] isB:=fun S T M=>dz (juc p a b (ec hp) S T M) fun r st ⟨h1,h2⟩=>⟨h1,_,h2⟩
theorem juw (p:List Cl) (m:Me) (args:List ByteArray) (hp:Sz p) (hm:m.params.length ≤ 1000000):PC 162 [vP p,vMe m,.d (cy dw args)] isB:=by
  obtain ⟨q1,q2,q3,q4,ps,q6⟩:=m
  dsimp only at hm
  intro S T M
  refine am [] [] Tryz.func162 rfl Tryz.ntmps162 Tryz.results162 ?_
  repeat' (first|apply ab|(apply V;rfl;(first|(apply bl;rfl)|(apply bg;rfl)|(apply cb;(apply plT;rfl);rfl;rfl;decide)|(apply bz;(apply tyT;rfl);rfl;(apply at_;rfl;rfl);rfl)|(apply bq;(apply elT;rfl);rfl;rfl)))|(apply Vd;rfl;(apply fb;rfl;rfl);all_goals intro h_)|(apply Vw;rfl;(apply cj;rfl;rfl;rfl))|(apply ac;rfl)|apply ak|apply aj|apply ah|apply ai|(apply ae;rfl)|(apply af;rfl)|(apply bf _ (.inr rfl);(exact List.prefix_append _ _);(focus repeat (first|apply a8|(apply a9;rfl)));rfl)|apply ap|apply aw)
  · exact ⟨false,rfl⟩
  have hle:ps.length = args.length:=by dsimp only at h_;omega
  refine eh (fun k:Nat=>args.length - k) (fun k=>[(2,.d (cy dw args)),(3,.ptr (S.length + 0) 0),(4,.ptr (S.length + 1) 0),(7,vI k)]) (fun k=>k ≤ args.length) 0 (Nat.zero_le _) ⟨rfl,rfl,rfl,rfl,trivial⟩ ?_
  rintro k hk
  repeat' (first|apply ab|(apply V;rfl;(first|(apply bl;rfl)|(apply bg;rfl)|(apply bq;(apply elT;rfl);rfl;rfl)))|(apply Vd;rfl;(apply cu;rfl;rfl);all_goals intro h_)|(apply ac;rfl)|apply ak|apply aj|apply ah|apply bd|apply ai|(apply ae;rfl)|(apply af;rfl)|(apply bf _ (.inr rfl);(exact List.prefix_append _ _);(focus repeat (first|apply a8|(apply a9;rfl)));rfl)|apply ap|apply ey|apply bo)
  · obtain ⟨c,hc⟩:∃ c,args[k]? = some c:=⟨_,List.getElem?_eq_getElem (by omega)⟩
    obtain ⟨d,hd⟩:∃ c,ps[k]? = some c:=⟨_,List.getElem?_eq_getElem (by omega)⟩
    repeat' (first|apply ab|(apply V;rfl;(first|(apply bl;rfl)|(apply bg;rfl)|(apply cb;(apply plT;rfl);rfl;rfl;decide)|(apply fz;(apply plT;rfl);rfl;rfl;decide)|(apply bj;(apply tyT;rfl);rfl;(apply at_;rfl;rfl);rfl)|(apply bz;(apply tyT;rfl);rfl;(apply at_;rfl;rfl);rfl)|(apply ef;(apply tyT;rfl);rfl;rfl)|(apply cg;rfl)|(apply az;rfl;rfl;rfl;omega)|(apply bp (c:=c);apply elT;rfl;rfl;rfl;rfl;exact cv;omega;(first|exact hc|simpa using hc))|(apply bp (c:=d);apply elT;rfl;rfl;rfl;rfl;exact dn;omega;(first|exact hd|simpa using hd))))|(apply de (nt:=33) (.take 0 (.take 1 (.take 2 (.take 3 (.take 4 (.take 5 (.take 6 (.take 7 (.take 8 (.take 9 (.take 10 (.one 11 (.take 12 .nil))))))))))))) [] [];exact co;rfl;decide +kernel)|(apply oP;rfl;rfl;rfl;apply fnT;rfl;apply (vg p c d.typ hp);rintro _ ⟨(_|_),rfl⟩)|(apply ac;rfl)|(apply al;rfl)|apply ah|apply ai|(apply ae;rfl)|(apply af;rfl)|(apply bf _ (.inr rfl);(exact List.prefix_append _ _);(focus repeat (first|apply a8|(apply a9;rfl)));rfl)|apply ap|apply cq|apply dm|apply aw|apply dg|(apply tV;rfl;rfl;(first|(apply bl;rfl)|(apply bg;rfl)|(apply cb;(apply plT;rfl);rfl;rfl;decide)|(apply fz;(apply plT;rfl);rfl;rfl;decide)|(apply bj;(apply tyT;rfl);rfl;(apply at_;rfl;rfl);rfl)|(apply bz;(apply tyT;rfl);rfl;(apply at_;rfl;rfl);rfl)|(apply ef;(apply tyT;rfl);rfl;rfl)|(apply cg;rfl)|(apply az;rfl;rfl;rfl;omega)|(apply bp (c:=c);apply elT;rfl;rfl;rfl;rfl;exact cv;omega;(first|exact hc|simpa using hc))|(apply bp (c:=d);apply elT;rfl;rfl;rfl;rfl;exact dn;omega;(first|exact hd|simpa using hd)));rfl))
    · exact ⟨false,rfl⟩
    · exact ⟨k + 1,by omega,by omega,⟨rfl,rfl,rfl,di (by omega),trivial⟩,rfl⟩
  · exact ⟨true,rfl⟩
theorem jux (p:List Cl) (m n:Me) (hp:Sz p) (hm:m.params.length ≤ 1000000):PC 163 [vP p,vMe m,vMe n] isB:=by
  obtain ⟨q1,q2,q3,q4,ps,q6⟩:=m
  obtain ⟨u1,u2,u3,u4,us,u6⟩:=n
  dsimp only at hm
  intro S T M
  refine am [] [] Tryz.func163 rfl Tryz.ntmps163 Tryz.results163 ?_
  repeat' (first|apply ab|(apply V;rfl;(first|(apply bg;rfl)|(apply cb;(apply plT;rfl);rfl;rfl;decide)|(apply bz;(apply tyT;rfl);rfl;(apply at_;rfl;rfl);rfl)|(apply bq;(apply elT;rfl);rfl;rfl)))|(apply Vd;rfl;(apply fb;rfl;rfl);all_goals intro h_)|(apply Vw;rfl;(apply cj;rfl;rfl;rfl))|(apply ac;rfl)|apply ak|apply aj|apply ah|apply ai|(apply ae;rfl)|(apply af;rfl)|(apply bf _ (.inr rfl);(exact List.prefix_append _ _);(focus repeat (first|apply a8|(apply a9;rfl)));rfl)|apply ap|apply aw)
  · exact ⟨false,rfl⟩
  have hle:ps.length = us.length:=by dsimp only at h_;omega
  refine eh (fun k:Nat=>ps.length - k) (fun k=>[(3,.ptr (S.length + 0) 0),(4,.ptr (S.length + 1) 0),(5,.ptr (S.length + 2) 0),(7,vI k)]) (fun k=>k ≤ ps.length) 0 (Nat.zero_le _) ⟨rfl,rfl,rfl,rfl,trivial⟩ ?_
  rintro k hk
  repeat' (first|apply ab|(apply V;rfl;(first|(apply bl;rfl)|(apply bg;rfl)|(apply cb;(apply plT;rfl);rfl;rfl;decide)|(apply bz;(apply tyT;rfl);rfl;(apply at_;rfl;rfl);rfl)|(apply bq;(apply elT;rfl);rfl;rfl)))|(apply Vd;rfl;(apply cu;rfl;rfl);all_goals intro h_)|(apply ac;rfl)|apply ak|apply aj|apply ah|apply bd|apply ai|(apply ae;rfl)|(apply af;rfl)|(apply bf _ (.inr rfl);(exact List.prefix_append _ _);(focus repeat (first|apply a8|(apply a9;rfl)));rfl)|apply ap|apply ey|apply bo)
  · dsimp only at h_
    obtain ⟨c,hc⟩:∃ c,ps[k]? = some c:=⟨_,List.getElem?_eq_getElem (by omega)⟩
    obtain ⟨d,hd⟩:∃ c,us[k]? = some c:=⟨_,List.getElem?_eq_getElem (by omega)⟩
    repeat' (first|apply ab|(apply V;rfl;(first|(apply bl;rfl)|(apply bg;rfl)|(apply cb;(apply plT;rfl);rfl;rfl;decide)|(apply fz;(apply plT;rfl);rfl;rfl;decide)|(apply bj;(apply tyT;rfl);rfl;(apply at_;rfl;rfl);rfl)|(apply bz;(apply tyT;rfl);rfl;(apply at_;rfl;rfl);rfl)|(apply ef;(apply tyT;rfl);rfl;rfl)|(apply cg;rfl)|(apply az;rfl;rfl;rfl;omega)|(apply bp (c:=c);apply elT;rfl;rfl;rfl;rfl;exact dn;omega;(first|exact hc|simpa using hc))|(apply bp (c:=d);apply elT;rfl;rfl;rfl;rfl;exact dn;omega;(first|exact hd|simpa using hd))))|(apply de (nt:=37) (.take 0 (.take 1 (.take 2 (.take 3 (.take 4 (.take 5 (.take 6 (.take 7 (.take 8 (.take 9 (.take 10 (.take 11 (.take 12 (.one 13 (.take 14 .nil))))))))))))))) [] [];exact co;rfl;decide +kernel)|(apply oP;rfl;rfl;rfl;apply fnT;rfl;apply (vg p c.typ d.typ hp);rintro _ ⟨(_|_),rfl⟩)|(apply ac;rfl)|(apply al;rfl)|apply ah|apply ai|(apply ae;rfl)|(apply af;rfl)|(apply bf _ (.inr rfl);(exact List.prefix_append _ _);(focus repeat (first|apply a8|(apply a9;rfl)));rfl)|apply ap|apply cq|apply dm|apply aw|apply dg|(apply tV;rfl;rfl;(first|(apply bl;rfl)|(apply bg;rfl)|(apply cb;(apply plT;rfl);rfl;rfl;decide)|(apply fz;(apply plT;rfl);rfl;rfl;decide)|(apply bj;(apply tyT;rfl);rfl;(apply at_;rfl;rfl);rfl)|(apply bz;(apply tyT;rfl);rfl;(apply at_;rfl;rfl);rfl)|(apply ef;(apply tyT;rfl);rfl;rfl)|(apply cg;rfl)|(apply az;rfl;rfl;rfl;omega)|(apply bp (c:=c);apply elT;rfl;rfl;rfl;rfl;exact dn;omega;(first|exact hc|simpa using hc))|(apply bp (c:=d);apply elT;rfl;rfl;rfl;rfl;exact dn;omega;(first|exact hd|simpa using hd)));rfl))
    · exact ⟨false,rfl⟩
    · exact ⟨k + 1,by omega,by omega,⟨rfl,rfl,rfl,di (by omega),trivial⟩,rfl⟩
  · exact ⟨true,rfl⟩
end Go.Proofs.YtinffhimfoicdaaGreat
namespace Go.Proofs.YtinffhimfoicdaaGreat
open Go Go.RowKit Go.Proofs.YtinffhimfoicdaaGreat.Calc
set_option linter.unusedVariables false
set_option linter.unusedSimpArgs false
set_option maxRecDepth 100000
set_option maxHeartbeats 8000000
structure Tw where
  own:ByteArray
  nth:Int
def nj (t:Tw):List DV:=[dS t.own,dI t.nth]
theorem jq (t:Tw):(nj t).length = 2:=rfl
instance:Inhabited Tw:=⟨⟨⟨#[]⟩,0⟩⟩
theorem nq4 (a b:Bool) (x y:Operand):(gb Tryz.prog (do eqGuard .neq 4 x y (.bool a) (.bool b);binOp .neq 4 (.bool a) (.bool b))).bind d6 = some (vB (decide (¬ a = b))):=by
  cases a <;> cases b <;> kernel_rfl
theorem jq4 {st:St} {ρ:Rg} {x y:Operand} {ty:Nat} {a b:Bool} (hx:fl ρ x = some (.bool a)) (hy:fl ρ y = some (.bool b)):bn Tryz.prog st ρ (.binOp .neq 4 x y ty) = some (vB (decide (¬ a = b))):=by
  simp only [bn,hx,hy]
  exact nq4 a b x y
theorem eq4 (a b:Bool) (x y:Operand):(gb Tryz.prog (do eqGuard .eql 4 x y (.bool a) (.bool b);binOp .eql 4 (.bool a) (.bool b))).bind d6 = some (vB (decide (a = b))):=by
  cases a <;> cases b <;> kernel_rfl
theorem jmy {st:St} {ρ:Rg} {x y:Operand} {ty:Nat} {a b:Bool} (hx:fl ρ x = some (.bool a)) (hy:fl ρ y = some (.bool b)):bn Tryz.prog st ρ (.binOp .eql 4 x y ty) = some (vB (decide (a = b))):=by
  simp only [bn,hx,hy]
  exact eq4 a b x y
theorem jof (p:List Cl) (a:ByteArray) (hp:Sz p):PC 43 [vP p,vS a] isB:=fun S T M=>dz (jsz p a (ec hp) S T M) fun r st ⟨h1,h2⟩=>⟨h1,_,h2⟩
theorem jel (p:List Cl) (a:ByteArray) (hp:Sz p):PC 31 [vP p,vS a] isB:=fun S T M=>dz (jmu p a (ec hp) S T M) fun r st ⟨h1,h2⟩=>⟨h1,_,h2⟩
theorem e8 {P:Program} {nt nb nm k i m:Nat} {Wr Wm Wr' ds:List Nat} (h:nb ≤ m) (h':Wr'.contains (m + k) = true):okD ⟨P,nt,Wr,Wm,nb,nm⟩ Wr' ds i (m + k) = true:=by
  simp only [okD,bh h,h',Bool.or_true,Bool.and_self]
theorem ek {Wr:List Nat} {ρ:Rg} {t:Nat} {x:Operand} {id off:Nat} (hx:evB ρ x = some (.ptr id off)) (h:Wr.contains id = false):wl Wr ρ (.load t x) = true:=by
  simp only [wl,hx,h,Bool.not_false]
theorem juy:jmn Tryz.prog 37 3 = some (35,3):=by kernel_rfl
attribute [local irreducible] Tri ew er ci bn db d7 inQ jb
abbrev juz (r:BV):Prop:=∃(o:ByteArray) (n e:Int),r = .tup [vTw o n,vI e]
theorem jq5 (p:List Cl) (l:List Tw) (args:List ByteArray) (hp:Sz p) (hl:l.length ≤ 2000000000000):PC 150 [vP p,.d (cy nj l),.d (cy dw args)] juz:=by
  intro S T M
  refine am [] [] Tryz.func150 rfl Tryz.ntmps150 Tryz.results150 ?_
  repeat' (first|apply ab|(apply V;rfl;(apply bg;rfl))|(apply Vw;rfl;(first|(apply cd;rfl;(apply tyT;rfl))|(apply cj;rfl;rfl;rfl)))|(apply ac;rfl)|apply ak|apply aj)
  refine gc 8 44 2 rfl rfl ?_
  refine cx (fun k:Nat × List Tw=>l.length - k.1) (fun k=>[(1,.d (cy nj l)),(2,.d (cy dw args)),(3,.ptr (S.length + 0) 0),(6,.ptr (S.length + 1) 0),(8,.own 44 2 (T.length + 0) (k.2.flatMap nj) k.2.length),(9,vI k.1)]) (fun k S1 T1=>k.1 ≤ l.length ∧ k.2.length ≤ k.1 ∧ S.length + 2 ≤ S1.length ∧ T <+: T1 ∧ S1[S.length + 0]? = some ([.d (cy df p)],26) ∧ S1[S.length + 1]? = some ([.d (dS ⟨#[]⟩),.d (dI 0)],44) ∧ T1[T.length + 0]? = some (k.2.flatMap nj).length) (0,[]) ⟨Nat.zero_le _,by simp,by simp,by simp,at_ rfl rfl,at_ rfl rfl,by simp⟩ ⟨rfl,rfl,rfl,rfl,rfl,rfl,trivial⟩ ?_
  rintro ⟨k,fit⟩ S1 T1 ⟨hk,hfk,hS,hT,hb0,hb1,hTg⟩
  dsimp only at hk hfk hTg ⊢
  have h00:T.length ≤ T.length + 0:=Nat.le_refl _
  repeat' (first|apply ab|(apply V;rfl;(first|(apply bl;rfl)|(apply bg;rfl)|(apply bq;(apply elT;rfl);rfl;rfl)))|(apply Vd;rfl;(apply cu;rfl;rfl);all_goals intro h_)|(apply ac;rfl)|apply ak|apply aj|apply ah|apply bd|(apply ae;rfl)|(apply af;rfl)|apply ap|apply ey|apply bo)
  · obtain ⟨c,hc⟩:∃ c,l[k]? = some c:=⟨_,List.getElem?_eq_getElem (by omega)⟩
    repeat' (first|apply ab|(apply V;rfl;(first|(apply bl;rfl)|(apply bg;rfl)|(apply bj;(apply tyT;rfl);rfl;(first|(apply at_;rfl;rfl)|(apply aa;assumption));rfl)|(apply dp;(apply tyT;rfl);rfl;(first|rfl|apply ay|apply ba))|(apply eu;rfl;rfl)|(apply az;rfl;rfl;rfl;omega)|(apply bp (c:=c);apply elT;rfl;rfl;rfl;rfl;exact jq;omega;(first|exact hc|simpa using hc))))|apply nr|(apply de (nt:=92) (.take 0 (.take 1 (.take 2 (.take 3 (.take 4 (.fork 5 (.take 6 (.take 7 (.take 8 (.one 9 (.one 10 (.take 11 .nil)))))) 9 (.one 5 (.take 6 (.take 7 (.take 8 (.one 10 (.take 11 .nil)))))))))))) [S1.length + 0] [];exact co;rfl;decide +kernel)|(apply tV;rfl;rfl;(apply bj;(apply tyT;rfl);rfl;(apply aa;assumption);rfl);(apply ek;rfl;(simp;omega)))|(apply oS;rfl;rfl;(apply bw;rfl;(apply tyT;rfl);rfl;rfl;rfl;(apply e8;omega;(simp));rfl;rfl;(apply Nat.le_of_ble_eq_true;rfl)))|(apply oP;rfl;rfl;rfl;apply fnT;rfl;apply (jcy p c.own c.nth hp);rintro _ ⟨m_,b_,rfl,-,hm_⟩)|(apply Vp;rfl;rfl;apply fnT;rfl;apply (juw p m_ args hp hm_);rintro _ ⟨(_|_),rfl⟩)|(apply Vw;rfl;(first|(apply cd;rfl;(apply tyT;rfl))|(apply d8;rfl;(apply elT;rfl);(apply tyT;rfl);rfl;decide;rfl;rfl)|(apply mf;(apply elT;rfl);(apply tyT;rfl);(apply byT;rfl);rfl;rfl;rfl;decide;rfl;(apply ee (f:=nj) (c:=c);omega;omega;assumption))))|(apply ac;rfl)|(apply al;rfl)|apply ah|(apply ae;rfl)|(apply af;rfl)|apply ap|apply cq|apply dg|(apply tV;rfl;rfl;(first|(apply bl;rfl)|(apply bg;rfl)|(apply bj;(apply tyT;rfl);rfl;(first|(apply at_;rfl;rfl)|(apply aa;assumption));rfl)|(apply dp;(apply tyT;rfl);rfl;(first|rfl|apply ay|apply ba))|(apply eu;rfl;rfl)|(apply az;rfl;rfl;rfl;omega)|(apply bp (c:=c);apply elT;rfl;rfl;rfl;rfl;exact jq;omega;(first|exact hc|simpa using hc)));rfl)|(apply oW;rfl;rfl;(first|(apply cd;rfl;(apply tyT;rfl))|(apply d8;rfl;(apply elT;rfl);(apply tyT;rfl);rfl;decide;rfl;rfl)|(apply mf;(apply elT;rfl);(apply tyT;rfl);(apply byT;rfl);rfl;rfl;rfl;decide;rfl;(apply ee (f:=nj) (c:=c);omega;omega;assumption)))))
    all_goals first
      | exact ⟨(k + 1,fit ++ [c]),_,_,by dsimp only;omega,⟨by dsimp only;omega,by simp only [List.length_append,List.length_singleton];omega,by simp only [List.length_append];omega,av (dc hT h00),aa hb0,aa hb1,aq (List.getElem?_eq_some_iff.1 hTg).1⟩,⟨rfl,rfl,rfl,rfl,rfl,di (by omega),trivial⟩,rfl⟩
      | exact ⟨(k + 1,fit),_,_,by dsimp only;omega,⟨by dsimp only;omega,by dsimp only;omega,by simp only [List.length_append];omega,av hT,aa hb0,aa hb1,aa hTg⟩,⟨rfl,rfl,rfl,rfl,rfl,di (by omega),trivial⟩,rfl⟩
  refine cx (fun k:Nat=>fit.length - k) (fun k=>[(3,.ptr (S.length + 0) 0),(6,.ptr (S.length + 1) 0),(8,.own 44 2 (T.length + 0) (fit.flatMap nj) fit.length),(12,vI k)]) (fun k S2 T2=>k ≤ fit.length ∧ S.length + 2 ≤ S2.length ∧ T <+: T2 ∧ S2[S.length + 0]? = some ([.d (cy df p)],26) ∧ S2[S.length + 1]? = some ([.d (dS ⟨#[]⟩),.d (dI 0)],44)) 0 ⟨Nat.zero_le _,by simpa using hS,av hT,aa hb0,aa hb1⟩ ⟨rfl,rfl,rfl,rfl,trivial⟩ ?_
  rintro k2 S2 T2 ⟨hk2,hS2,hT2,c0,c1⟩
  have hlt2:S.length + 1 < S2.length:=by omega
  repeat' (first|apply ab|(apply V;rfl;(first|(apply bl;rfl)|(apply bg;rfl)|(apply bq;(apply elT;rfl);rfl;rfl)|(apply ed;(apply plT;rfl);rfl)))|(apply Vs;rfl;(apply fg;(apply tyT;rfl);rfl;rfl;assumption;(apply bh;omega);rfl;rfl;(apply Nat.le_of_ble_eq_true;rfl)))|(apply bf _ (.inr rfl);(first|exact List.prefix_append _ _|assumption|(apply av;assumption)|(apply av;apply dc <;> assumption));(focus repeat (first|apply a8|(apply a9;rfl)|(apply ez;rfl;(apply tyT;rfl);(apply List.getElem?_set_self;assumption);rfl)));rfl)|(apply Vd;rfl;(first|(apply cu;rfl;rfl)|(apply dq;rfl;rfl));all_goals intro h_)|(apply ac;rfl)|apply ak|apply aj|apply ah|apply bd|apply ai|(apply ae;rfl)|(apply af;rfl)|apply ap|apply ey|apply aw|apply bo)
  · obtain ⟨c,hc⟩:∃ c,fit[k2]? = some c:=⟨_,List.getElem?_eq_getElem (by omega)⟩
    repeat' (first|apply ab|(apply V;rfl;(first|(apply bl;rfl)|(apply bg;rfl)|(apply dp;(apply tyT;rfl);rfl;(first|rfl|apply ay|apply ba))|(apply eu;rfl;rfl)|(apply bp (c:=c);apply elT;rfl;rfl;rfl;rfl;exact jq;omega;(first|exact hc|simpa using hc))))|apply nr|(apply de (nt:=92) (.take 0 (.take 1 (.take 2 (.take 3 (.take 4 (.fork 5 (.take 6 (.take 7 (.take 8 (.one 9 (.one 10 (.take 11 .nil)))))) 9 (.one 5 (.take 6 (.take 7 (.take 8 (.one 10 (.take 11 .nil)))))))))))) [S2.length + 0] [];exact co;rfl;decide +kernel)|(apply tV;rfl;rfl;(apply bj;(apply tyT;rfl);rfl;(apply aa;assumption);rfl);(apply ek;rfl;(simp;omega)))|(apply oS;rfl;rfl;(apply bw;rfl;(apply tyT;rfl);rfl;rfl;rfl;(apply e8;omega;(simp));rfl;rfl;(apply Nat.le_of_ble_eq_true;rfl)))|(apply oP;rfl;rfl;rfl;apply fnT;rfl;apply (jcy p c.own c.nth hp);rintro _ ⟨m_,b_,rfl,-,hm_⟩)|(apply ac;rfl)|apply ak|apply aj|apply ap|apply dg|(apply tV;rfl;rfl;(first|(apply bl;rfl)|(apply bg;rfl)|(apply dp;(apply tyT;rfl);rfl;(first|rfl|apply ay|apply ba))|(apply eu;rfl;rfl)|(apply bp (c:=c);apply elT;rfl;rfl;rfl;rfl;exact jq;omega;(first|exact hc|simpa using hc)));rfl)|(apply oW;rfl;rfl;(apply cd;rfl;(apply tyT;rfl))))
    all_goals
      refine cx (fun j:Nat × Bool=>fit.length - j.1) (fun j=>[(3,.ptr (S.length + 0) 0),(6,.ptr (S.length + 1) 0),(8,.own 44 2 (T.length + 0) (fit.flatMap nj) fit.length),(12,vI k2),(13,.ptr (S2.length + 0) 0),(15,vB j.2),(16,vI j.1)]) (fun j S3 T3=>j.1 ≤ fit.length ∧ S2.length + 1 ≤ S3.length ∧ T <+: T3 ∧ S3[S.length + 0]? = some ([.d (cy df p)],26) ∧ S3[S.length + 1]? = some ([.d (dS ⟨#[]⟩),.d (dI 0)],44) ∧ S3[S2.length + 0]? = some ((j1 m_).map .d,98)) (0,true) ⟨Nat.zero_le _,by simp,av hT2,aa c0,aa c1,at_ rfl rfl⟩ ⟨rfl,rfl,rfl,rfl,rfl,rfl,rfl,trivial⟩ ?_
      rintro ⟨j,ok⟩ S3 T3 ⟨hj,hS3,hT3,d0,d1,d2⟩
      dsimp only at hj ⊢
      have hlt3:S.length + 1 < S3.length:=by omega
      cases ok
      all_goals
        repeat' (first|apply ab|(apply V;rfl;(first|(apply bl;rfl)|(apply bg;rfl)|(apply dp;(apply tyT;rfl);rfl;(first|rfl|apply ay|apply ba))|(apply bq;(apply elT;rfl);rfl;rfl)|(apply az;rfl;rfl;rfl;omega)|(apply bp (c:=c);apply elT;rfl;rfl;rfl;rfl;exact jq;omega;(first|exact hc|simpa using hc))))|(apply Vs;rfl;(apply fg;(apply tyT;rfl);rfl;rfl;assumption;(apply bh;omega);rfl;rfl;(apply Nat.le_of_ble_eq_true;rfl)))|(apply bf _ (.inr rfl);(first|exact List.prefix_append _ _|assumption|(apply av;assumption)|(apply av;apply dc <;> assumption));(focus repeat (first|apply a8|(apply a9;rfl)|(apply ez;rfl;(apply tyT;rfl);(apply List.getElem?_set_self;assumption);rfl)));rfl)|(apply Vd;rfl;(apply cu;rfl;rfl);all_goals intro h_)|(apply ac;rfl)|apply ak|(apply al;rfl)|apply aj|apply ah|apply bd|apply ai|(apply ae;rfl)|(apply af;rfl)|apply ap|apply ey|apply cq|apply dm|apply aw|apply bo)
        all_goals first
          | exact ⟨_,_,_,rfl⟩
          | exact ⟨k2 + 1,_,_,by omega,⟨by omega,by simp only [List.length_append];omega,av hT3,aa d0,aa d1⟩,⟨rfl,rfl,rfl,di (by omega),trivial⟩,rfl⟩
          | skip
        try
          obtain ⟨d,hd⟩:∃ c,fit[j]? = some c:=⟨_,List.getElem?_eq_getElem (by omega)⟩
          repeat' (first|apply ab|(apply V;rfl;(first|(apply bl;rfl)|(apply bg;rfl)|(apply bj;(apply tyT;rfl);rfl;(first|(apply at_;rfl;rfl)|(apply aa;assumption));rfl)|(apply dp;(apply tyT;rfl);rfl;(first|rfl|apply ay|apply ba))|(apply ca;rfl;rfl)|(apply bu;rfl;rfl)|(apply eu;rfl;rfl)|(apply az;rfl;rfl;rfl;omega)|(apply bp (c:=d);apply elT;rfl;rfl;rfl;rfl;exact jq;omega;(first|exact hd|simpa using hd))))|apply nr|(apply de (nt:=92) (.take 0 (.take 1 (.take 2 (.take 3 (.take 4 (.fork 5 (.take 6 (.take 7 (.take 8 (.one 9 (.one 10 (.take 11 .nil)))))) 9 (.one 5 (.take 6 (.take 7 (.take 8 (.one 10 (.take 11 .nil)))))))))))) [S3.length + 0] [];exact co;rfl;decide +kernel)|(apply tV;rfl;rfl;(apply bj;(apply tyT;rfl);rfl;(apply aa;assumption);rfl);(apply ek;rfl;(simp;omega)))|(apply oS;rfl;rfl;(apply bw;rfl;(apply tyT;rfl);rfl;rfl;rfl;(apply e8;omega;(simp));rfl;rfl;(apply Nat.le_of_ble_eq_true;rfl)))|(apply oP;rfl;rfl;rfl;apply fnT;rfl;apply (jcy p d.own d.nth hp);rintro _ ⟨n_,b_,rfl,-,hn_⟩)|(apply Vp;rfl;rfl;apply fnT;rfl;apply (jux p m_ n_ hp hm_);rintro _ ⟨f_,rfl⟩)|(apply Vo;rfl)|(apply al;rfl)|apply ap|apply cq|apply dg|(apply tV;rfl;rfl;(first|(apply bl;rfl)|(apply bg;rfl)|(apply bj;(apply tyT;rfl);rfl;(first|(apply at_;rfl;rfl)|(apply aa;assumption));rfl)|(apply dp;(apply tyT;rfl);rfl;(first|rfl|apply ay|apply ba))|(apply ca;rfl;rfl)|(apply bu;rfl;rfl)|(apply eu;rfl;rfl)|(apply az;rfl;rfl;rfl;omega)|(apply bp (c:=d);apply elT;rfl;rfl;rfl;rfl;exact jq;omega;(first|exact hd|simpa using hd)));rfl)|(apply oW;rfl;rfl;(apply cd;rfl;(apply tyT;rfl))))
          all_goals exact ⟨(j + 1,_),_,_,by dsimp only;omega,⟨by dsimp only;omega,by simp only [List.length_append];omega,av hT3,aa d0,aa d1,aa d2⟩,⟨rfl,rfl,rfl,rfl,rfl,rfl,di (by omega),trivial⟩,rfl⟩
  all_goals exact ⟨_,_,_,rfl⟩
theorem ju0 (p:List Cl) (a:ByteArray) (hp:Sz p):PC 151 [vP p,vS a] (fun r=>∃ l:List Tw,r = .d (cy nj l) ∧ l.length ≤ 1000001):=by
  have h68:=jmv p a (ec hp)
  have hcs:=qy p a hp
  have hfl:=gd (dy p a)
  unfold jk5 at h68
  generalize dy p a = c at *
  obtain ⟨cn,csup,cf,cm⟩:=c
  dsimp only at *
  intro S T M
  refine am [] [] Tryz.func151 rfl Tryz.ntmps151 Tryz.results151 ?_
  repeat' (first|apply ab|(apply V;rfl;(first|(apply bl;rfl)|(apply bg;rfl)|(apply bj;(apply tyT;rfl);rfl;(apply at_;rfl;rfl);rfl)|(apply cg;rfl)|(apply jtz;rfl;exact juy;apply tyT;rfl;rfl)))|(apply Vp;rfl;rfl;apply fnT;rfl;apply (jel p a hp);rintro _ ⟨(_|_),rfl⟩)|(apply Vp;rfl;rfl;apply fnT;rfl;apply h68;rintro _ rfl)|(apply Vw;rfl;(apply cj;rfl;rfl;rfl))|(apply ac;rfl)|apply ak|apply aj|apply ah|apply ai|(apply ae;rfl)|(apply af;rfl)|(apply bf _ (.inr rfl);(exact List.prefix_append _ _);(focus repeat (first|apply a8|(apply a9;rfl)));rfl)|apply ap|apply aw)
  · exact ⟨[],rfl,Nat.zero_le _⟩
  refine gc 5 44 2 rfl rfl ?_
  refine cx (fun k:Nat × List Tw=>cm.length - k.1) (fun k=>[(1,vS a),(2,.ptr (S.length + 0) 0),(5,.own 44 2 (T.length + 0) (k.2.flatMap nj) k.2.length),(6,.d (cy j1 cm)),(7,vI k.1)]) (fun k S1 T1=>k.1 ≤ cm.length ∧ k.2.length ≤ k.1 ∧ S.length + 1 ≤ S1.length ∧ T <+: T1 ∧ T1[T.length + 0]? = some (k.2.flatMap nj).length) (0,[]) ⟨Nat.zero_le _,by simp,by simp,by simp,by simp⟩ ⟨rfl,rfl,rfl,rfl,rfl,trivial⟩ ?_
  rintro ⟨k,l⟩ S1 T1 ⟨hk,hlk,hS,hT,hTg⟩
  dsimp only at hk hlk hTg ⊢
  have h00:T.length ≤ T.length + 0:=Nat.le_refl _
  repeat' (first|apply ab|(apply V;rfl;(first|(apply bl;rfl)|(apply bg;rfl)|(apply bq;(apply elT;rfl);rfl;rfl)|(apply ed;(apply plT;rfl);rfl)))|(apply Vd;rfl;(first|(apply cu;rfl;rfl)|(apply dq;rfl;rfl));all_goals intro h_)|(apply Vw;rfl;(apply d8;rfl;(apply elT;rfl);(apply tyT;rfl);rfl;decide;rfl;rfl))|(apply ac;rfl)|apply ak|apply aj|apply ah|apply bd|apply ai|(apply ae;rfl)|(apply af;rfl)|(apply bf _ (.inr rfl);(apply av;assumption);(focus repeat (first|apply a8|(apply a9;rfl)));rfl)|apply ap|apply ey|apply aw|apply bo)
  · obtain ⟨m,hm⟩:∃ c,cm[k]? = some c:=⟨_,List.getElem?_eq_getElem (by omega)⟩
    obtain ⟨q1,q2,q3,q4,q5,q6⟩:=m
    cases q2
    all_goals
      repeat' (first|apply ab|(apply V;rfl;(first|(apply bl;rfl)|(apply bg;rfl)|(apply fz;(apply plT;rfl);rfl;rfl;decide)|(apply ef;(apply tyT;rfl);rfl;rfl)|(apply ed;(apply plT;rfl);rfl)|(apply az;rfl;rfl;rfl;omega)|(apply bp (c:=(⟨q1,_,q3,q4,q5,q6⟩:Me));apply elT;rfl;rfl;rfl;rfl;exact fu;omega;(first|exact hm|simpa using hm))))|(apply Vw;rfl;(first|(apply d8;rfl;(apply elT;rfl);(apply tyT;rfl);rfl;decide;rfl;rfl)|(apply mf;(apply elT;rfl);(apply tyT;rfl);(apply byT;rfl);rfl;rfl;rfl;decide;rfl;(apply ee (f:=nj) (c:=⟨a,k⟩);omega;omega;assumption))))|(apply al;rfl)|apply ah|(apply ae;rfl)|(apply af;rfl)|apply ap|apply cq)
      all_goals first
        | exact ⟨(k + 1,l ++ [⟨a,k⟩]),_,_,by dsimp only;omega,⟨by dsimp only;omega,by simp only [List.length_append,List.length_singleton];omega,by simp only [List.length_append];omega,av (dc hT h00),aq (List.getElem?_eq_some_iff.1 hTg).1⟩,⟨rfl,rfl,rfl,rfl,di (by omega),trivial⟩,rfl⟩
        | exact ⟨(k + 1,l),_,_,by dsimp only;omega,⟨by dsimp only;omega,by dsimp only;omega,by simp only [List.length_append];omega,av hT,aa hTg⟩,⟨rfl,rfl,rfl,rfl,di (by omega),trivial⟩,rfl⟩
  · exact ⟨[⟨a,-1⟩],rfl,Nat.le_of_ble_eq_true rfl⟩
  · exact ⟨l,rfl,by omega⟩
theorem jir (p:List Cl) (a:ByteArray) (args:List ByteArray) (hp:Sz p):PC 124 [vP p,vS a,.d (cy dw args)] juz:=by
  intro S T M
  refine am [] [] Tryz.func124 rfl Tryz.ntmps124 Tryz.results124 ?_
  repeat' (first|apply ab|(apply V;rfl;(first|(apply bl;rfl)|(apply bg;rfl)|(apply bj;(apply tyT;rfl);rfl;(apply at_;rfl;rfl);rfl)|(apply eu;rfl;rfl)|(apply cg;rfl)|(apply ed;(apply plT;rfl);rfl)))|(apply bt (nt:=21) (.take 0 (.take 1 (.take 2 (.take 4 (.one 3 (.one 5 (.take 6 (.take 7 (.one 8 (.take 9 .nil)))))))))) [] [8];exact co;rfl;decide +kernel)|(apply Vp;rfl;rfl;apply fnT;rfl;apply (jel p a hp);rintro _ ⟨(_|_),rfl⟩)|(apply oP;rfl;rfl;rfl;apply fnT;rfl;apply (ju0 p a hp);rintro _ ⟨l_,rfl,hl_⟩)|(apply oP;rfl;rfl;rfl;apply fnT;rfl;apply (jq5 p l_ args hp (by omega));rintro _ ⟨o_,n_,e_,rfl⟩)|(apply Vw;rfl;(first|(apply cd;rfl;(apply tyT;rfl))|(apply cj;rfl;rfl;rfl)))|(apply Vs;rfl;(apply bw;rfl;(apply tyT;rfl);rfl;rfl;rfl;(first|apply bc|(apply bh;omega));rfl;rfl;(first|decide|(apply Nat.le_of_ble_eq_true;rfl))))|(apply ac;rfl)|apply ak|apply ah|apply ai|(apply ae;rfl)|(apply af;rfl)|(apply bf _ (.inr rfl);(exact List.prefix_append _ _);(focus repeat (first|apply a8|(apply a9;rfl)|(apply cp;rfl;rfl;apply tyT;rfl;rfl;rfl)));rfl)|apply ap|apply aw|apply dg|(apply tV;rfl;rfl;(first|(apply bl;rfl)|(apply bg;rfl)|(apply bj;(apply tyT;rfl);rfl;(apply at_;rfl;rfl);rfl)|(apply eu;rfl;rfl)|(apply cg;rfl)|(apply ed;(apply plT;rfl);rfl));rfl)|(apply oS;rfl;rfl;(apply bw;rfl;(apply tyT;rfl);rfl;rfl;rfl;(first|(apply jl;rfl)|(apply mb;omega;rfl));rfl;rfl;(first|decide|(apply Nat.le_of_ble_eq_true;rfl)))))
  all_goals exact ⟨_,_,_,rfl⟩
theorem ju1 (p:List Cl) (a nm:ByteArray) (hp:Sz p):PC 164 [vP p,vS a,vS nm] (fun r=>∃ l:List Tw,r = .d (cy nj l) ∧ l.length ≤ 2000000000000):=by
  have h67:=jp6 p a (ec hp)
  have hcl:=sk p a
  have hpl:=ec hp
  generalize chC p a = ch at *
  intro S T M
  refine am [] [] Tryz.func164 rfl Tryz.ntmps164 Tryz.results164 ?_
  repeat' (first|apply ab|(apply V;rfl;(first|(apply bl;rfl)|(apply bg;rfl)|(apply bj;(apply tyT;rfl);rfl;(apply at_;rfl;rfl);rfl)))|(apply Vp;rfl;rfl;apply fnT;rfl;apply h67;rintro _ rfl)|(apply Vw;rfl;(apply cj;rfl;rfl;rfl))|(apply ac;rfl)|apply ak|apply aj)
  refine gc 7 44 2 rfl rfl ?_
  refine cx (fun k:Nat × List Tw=>ch.length - k.1) (fun k=>[(2,vS nm),(3,.ptr (S.length + 0) 0),(7,.own 44 2 (T.length + 0) (k.2.flatMap nj) k.2.length),(8,.d (cy dw ch)),(9,vI k.1)]) (fun k S1 T1=>k.1 ≤ ch.length ∧ k.2.length ≤ 1000000 * k.1 ∧ S.length + 1 ≤ S1.length ∧ T <+: T1 ∧ S1[S.length + 0]? = some ([.d (cy df p)],26) ∧ T1[T.length + 0]? = some (k.2.flatMap nj).length) (0,[]) ⟨Nat.zero_le _,by simp,by simp,by simp,at_ rfl rfl,by simp⟩ ⟨rfl,rfl,rfl,rfl,rfl,trivial⟩ ?_
  rintro ⟨k,l⟩ S1 T1 ⟨hk,hlk,hS,hT,hb0,hTg⟩
  dsimp only at hk hlk hTg ⊢
  have h00:T.length ≤ T.length + 0:=Nat.le_refl _
  repeat' (first|apply ab|(apply V;rfl;(first|(apply bl;rfl)|(apply bg;rfl)|(apply bq;(apply elT;rfl);rfl;rfl)))|(apply Vd;rfl;(apply cu;rfl;rfl);all_goals intro h_)|(apply ac;rfl)|apply ak|apply aj|apply ah|apply bd|apply ai|(apply ae;rfl)|(apply af;rfl)|(apply bf _ (.inr rfl);(apply av;assumption);(focus repeat (first|apply a8|(apply a9;rfl)));rfl)|apply ap|apply ey|apply bo)
  · obtain ⟨c,hc⟩:∃ c,ch[k]? = some c:=⟨_,List.getElem?_eq_getElem (by omega)⟩
    have h68:=jmv p c (ec hp)
    have hcs:=qy p c hp
    have hfl:=gd (dy p c)
    have hpar:∀(k:Nat) (m:Me),(dy p c).methods[k]? = some m → m.params.length ≤ 1000000:=fun k m h=>Nat.le_trans (jcx m) (Nat.le_trans (jiq h) hcs)
    unfold jk5 at h68
    generalize dy p c = cc at *
    obtain ⟨cn,csup,cf,cm⟩:=cc
    dsimp only at hcs hfl hpar h68
    repeat' (first|apply ab|(apply V;rfl;(first|(apply bl;rfl)|(apply bg;rfl)|(apply bj;(apply tyT;rfl);rfl;(apply aa;assumption);rfl)|(apply ef;(apply tyT;rfl);rfl;rfl)|(apply bp (c:=c);apply elT;rfl;rfl;rfl;rfl;exact cv;omega;(first|exact hc|simpa using hc))|(apply jtz;rfl;exact juy;apply tyT;rfl;rfl)))|(apply de (nt:=88) (.take 0 (.take 1 (.take 2 (.take 3 (.take 4 (.one 5 (.take 6 (.take 7 .nil)))))))) [] [];exact co;rfl;decide +kernel)|(apply oP;rfl;rfl;rfl;apply fnT;rfl;apply h68;rintro _ rfl)|(apply ac;rfl)|apply aj|apply ap|apply dg|(apply tV;rfl;rfl;(first|(apply bl;rfl)|(apply bg;rfl)|(apply bj;(apply tyT;rfl);rfl;(apply aa;assumption);rfl)|(apply ef;(apply tyT;rfl);rfl;rfl)|(apply bp (c:=c);apply elT;rfl;rfl;rfl;rfl;exact cv;omega;(first|exact hc|simpa using hc))|(apply jtz;rfl;exact juy;apply tyT;rfl;rfl));rfl))
    refine cx (fun j:Nat × List Tw=>cm.length - j.1) (fun j=>[(2,vS nm),(3,.ptr (S.length + 0) 0),(7,.own 44 2 (T.length + 0) (j.2.flatMap nj) j.2.length),(8,.d (cy dw ch)),(9,vI k),(10,.d (cy j1 cm)),(11,vI j.1)]) (fun j S2 T2=>j.1 ≤ cm.length ∧ j.2.length ≤ 1000000 * k + j.1 ∧ S.length + 1 ≤ S2.length ∧ T <+: T2 ∧ S2[S.length + 0]? = some ([.d (cy df p)],26) ∧ T2[T.length + 0]? = some (j.2.flatMap nj).length) (0,l) ⟨Nat.zero_le _,by dsimp only;omega,by simpa using hS,av hT,aa hb0,aa hTg⟩ ⟨rfl,rfl,rfl,rfl,rfl,rfl,rfl,trivial⟩ ?_
    rintro ⟨j,l2⟩ S2 T2 ⟨hj,hlj,hS2,hT2,c0,hTg2⟩
    dsimp only at hj hlj hTg2 ⊢
    repeat' (first|apply ab|(apply V;rfl;(first|(apply bl;rfl)|(apply bg;rfl)|(apply bq;(apply elT;rfl);rfl;rfl)|(apply az;rfl;rfl;rfl;omega)))|(apply Vd;rfl;(apply cu;rfl;rfl);all_goals intro h_)|(apply ac;rfl)|apply ak|(apply al;rfl)|apply aj|apply ah|apply bd|(apply ae;rfl)|(apply af;rfl)|apply ap|apply ey|apply cq|apply bo)
    · obtain ⟨m,hm⟩:∃ c,cm[j]? = some c:=⟨_,List.getElem?_eq_getElem (by omega)⟩
      have hpm:=hpar j m hm
      have skipped:∃(k':Nat × List Tw) (S3:List (List BV × Nat)) (T3:List Nat),True:=⟨(0,[]),[],[],trivial⟩
      obtain ⟨q1,q2,q3,q4,q5,q6⟩:=m
      cases q2
      all_goals
        repeat' (first|apply ab|(apply V;rfl;(first|(apply bl;rfl)|(apply bg;rfl)|(apply fz;(apply plT;rfl);rfl;rfl;decide)|(apply ef;(apply tyT;rfl);rfl;rfl)|(apply ca;rfl;rfl)|(apply bu;rfl;rfl)|(apply az;rfl;rfl;rfl;omega)|(apply bp (c:=(⟨q1,_,q3,q4,q5,q6⟩:Me));apply elT;rfl;rfl;rfl;rfl;exact fu;omega;(first|exact hm|simpa using hm))))|(apply Vd;rfl;(apply fy;rfl;rfl);all_goals intro h_)|(apply Vo;rfl)|(apply ac;rfl)|apply ak|(apply al;rfl)|apply aj|apply ah|apply bd|(apply ae;rfl)|(apply af;rfl)|apply ap|apply ey|apply bo)
        all_goals first
          | exact ⟨(j + 1,l2),_,_,by dsimp only;omega,⟨by dsimp only;omega,by dsimp only;omega,by simp only [List.length_append];omega,av hT2,aa c0,aa hTg2⟩,⟨rfl,rfl,rfl,rfl,rfl,rfl,di (by omega),trivial⟩,rfl⟩
          | skip
      refine cx (fun i:Nat × Bool=>l2.length - i.1) (fun i=>[(2,vS nm),(3,.ptr (S.length + 0) 0),(7,.own 44 2 (T.length + 0) (l2.flatMap nj) l2.length),(8,.d (cy dw ch)),(9,vI k),(10,.d (cy j1 cm)),(11,vI j),(12,vB i.2),(13,vI i.1)]) (fun i S3 T3=>i.1 ≤ l2.length ∧ S.length + 1 ≤ S3.length ∧ T <+: T3 ∧ S3[S.length + 0]? = some ([.d (cy df p)],26) ∧ T3[T.length + 0]? = some (l2.flatMap nj).length) (0,false) ⟨Nat.zero_le _,by simpa using hS2,av hT2,aa c0,aa hTg2⟩ ⟨rfl,rfl,rfl,rfl,rfl,rfl,rfl,rfl,rfl,trivial⟩ ?_
      rintro ⟨i,ok⟩ S3 T3 ⟨hi,hS3,hT3,d0,hTg3⟩
      dsimp only at hi ⊢
      cases ok
      all_goals
        repeat' (first|apply ab|(apply V;rfl;(first|(apply bl;rfl)|(apply bg;rfl)|(apply ef;(apply tyT;rfl);rfl;rfl)|(apply bq;(apply elT;rfl);rfl;rfl)|(apply cg;rfl)|(apply ed;(apply plT;rfl);rfl)|(apply az;rfl;rfl;rfl;omega)|(apply bp (c:=c);apply elT;rfl;rfl;rfl;rfl;exact cv;omega;(first|exact hc|simpa using hc))))|(apply Vd;rfl;(apply cu;rfl;rfl);all_goals intro h_)|(apply Vw;rfl;(first|(apply d8;rfl;(apply elT;rfl);(apply tyT;rfl);rfl;decide;rfl;rfl)|(apply mf;(apply elT;rfl);(apply tyT;rfl);(apply byT;rfl);rfl;rfl;rfl;decide;rfl;(apply ee (f:=nj) (c:=⟨c,j⟩);omega;omega;assumption))))|(apply ac;rfl)|apply ak|(apply al;rfl)|apply aj|apply ah|apply bd|(apply ae;rfl)|(apply af;rfl)|apply ap|apply ey|apply cq|apply bo)
        all_goals first
          | exact ⟨(j + 1,l2 ++ [⟨c,j⟩]),_,_,by dsimp only;omega,⟨by dsimp only;omega,by simp only [List.length_append,List.length_singleton];omega,by simp only [List.length_append];omega,av (dc hT3 h00),aa d0,aq (List.getElem?_eq_some_iff.1 hTg3).1⟩,⟨rfl,rfl,rfl,rfl,rfl,rfl,di (by omega),trivial⟩,rfl⟩
          | exact ⟨(j + 1,l2),_,_,by dsimp only;omega,⟨by dsimp only;omega,by dsimp only;omega,by simp only [List.length_append];omega,av hT3,aa d0,aa hTg3⟩,⟨rfl,rfl,rfl,rfl,rfl,rfl,di (by omega),trivial⟩,rfl⟩
          | skip
        try
          obtain ⟨d,hd⟩:∃ c,l2[i]? = some c:=⟨_,List.getElem?_eq_getElem (by omega)⟩
          repeat' (first|apply ab|(apply V;rfl;(first|(apply bl;rfl)|(apply bg;rfl)|(apply bj;(apply tyT;rfl);rfl;(apply at_;rfl;rfl);rfl)|(apply dp;(apply tyT;rfl);rfl;(first|rfl|apply ay|apply ba))|(apply ca;rfl;rfl)|(apply bu;rfl;rfl)|(apply eu;rfl;rfl)|(apply az;rfl;rfl;rfl;omega)|(apply bp (c:=d);apply elT;rfl;rfl;rfl;rfl;exact jq;omega;(first|exact hd|simpa using hd))|(apply bp (c:=(⟨q1,false,q3,q4,q5,q6⟩:Me));apply elT;rfl;rfl;rfl;rfl;exact fu;omega;(first|exact hm|simpa using hm))))|apply nr|(apply de (nt:=88) (.take 0 (.take 1 (.take 2 (.take 3 (.take 4 (.fork 5 (.take 6 (.take 7 (.take 8 (.one 9 (.one 10 (.take 11 .nil)))))) 9 (.one 5 (.take 6 (.take 7 (.take 8 (.one 10 (.take 11 .nil)))))))))))) [S3.length + 0] [];exact co;rfl;decide +kernel)|(apply tV;rfl;rfl;(apply bj;(apply tyT;rfl);rfl;(apply aa;assumption);rfl);(apply ek;rfl;(simp;omega)))|(apply oS;rfl;rfl;(apply bw;rfl;(apply tyT;rfl);rfl;rfl;rfl;(apply e8;omega;(simp));rfl;rfl;(apply Nat.le_of_ble_eq_true;rfl)))|(apply de (nt:=88) (.take 0 (.take 1 (.take 2 (.take 3 (.take 4 (.take 5 (.take 6 (.one 7 (.take 8 (.take 9 .nil)))))))))) [] [];exact co;rfl;decide +kernel)|(apply oP;rfl;rfl;rfl;apply fnT;rfl;apply (jcy p d.own d.nth hp);rintro _ ⟨m_,b_,rfl,-,hm_⟩)|(apply oP;rfl;rfl;rfl;apply fnT;rfl;apply (joe m_ (⟨q1,false,q3,q4,q5,q6⟩:Me) hm_);rintro _ ⟨f_,rfl⟩)|(apply al;rfl)|apply ap|apply cq|apply dg|(apply tV;rfl;rfl;(first|(apply bl;rfl)|(apply bg;rfl)|(apply bj;(apply tyT;rfl);rfl;(apply at_;rfl;rfl);rfl)|(apply dp;(apply tyT;rfl);rfl;(first|rfl|apply ay|apply ba))|(apply ca;rfl;rfl)|(apply bu;rfl;rfl)|(apply eu;rfl;rfl)|(apply az;rfl;rfl;rfl;omega)|(apply bp (c:=d);apply elT;rfl;rfl;rfl;rfl;exact jq;omega;(first|exact hd|simpa using hd))|(apply bp (c:=(⟨q1,false,q3,q4,q5,q6⟩:Me));apply elT;rfl;rfl;rfl;rfl;exact fu;omega;(first|exact hm|simpa using hm)));rfl)|(apply tVo;rfl;rfl)|(apply oVo;rfl;rfl)|(apply oW;rfl;rfl;(apply cd;rfl;(apply tyT;rfl))))
          all_goals exact ⟨(i + 1,_),_,_,by dsimp only;omega,⟨by dsimp only;omega,by simp only [List.length_append];omega,av hT3,aa d0,aa hTg3⟩,⟨rfl,rfl,rfl,rfl,rfl,rfl,rfl,rfl,di (by omega),trivial⟩,rfl⟩
    · exact ⟨(k + 1,l2),_,_,by dsimp only;omega,⟨by dsimp only;omega,by dsimp only;omega,by simp only [List.length_append];omega,av hT2,aa c0,aa hTg2⟩,⟨rfl,rfl,rfl,rfl,di (by omega),trivial⟩,rfl⟩
  · exact ⟨l,rfl,by omega⟩
theorem jq6 (p:List Cl) (a nm:ByteArray) (args:List ByteArray) (hp:Sz p):PC 158 [vP p,vS a,vS nm,.d (cy dw args)] juz:=by
  intro S T M
  refine am [] [] Tryz.func158 rfl Tryz.ntmps158 Tryz.results158 ?_
  repeat' (first|apply ab|(apply V;rfl;(first|(apply bl;rfl)|(apply bg;rfl)|(apply bj;(apply tyT;rfl);rfl;(apply at_;rfl;rfl);rfl)|(apply eu;rfl;rfl)))|(apply bt (nt:=19) (.take 0 (.take 1 (.take 2 (.take 3 (.take 5 (.one 4 (.one 6 (.take 7 (.take 8 (.one 9 (.take 10 .nil))))))))))) [] [9];exact co;rfl;decide +kernel)|(apply oP;rfl;rfl;rfl;apply fnT;rfl;apply (ju1 p a nm hp);rintro _ ⟨l_,rfl,hl_⟩)|(apply oP;rfl;rfl;rfl;apply fnT;rfl;apply (jq5 p l_ args hp hl_);rintro _ ⟨o_,n_,e_,rfl⟩)|(apply Vw;rfl;(first|(apply cd;rfl;(apply tyT;rfl))|(apply cj;rfl;rfl;rfl)))|(apply ac;rfl)|apply ai|(apply bf _ (.inr rfl);(exact List.prefix_append _ _);(focus repeat (first|apply a8|(apply a9;rfl)|(apply cp;rfl;rfl;apply tyT;rfl;rfl;rfl)));rfl)|apply dg|(apply tV;rfl;rfl;(first|(apply bl;rfl)|(apply bg;rfl)|(apply bj;(apply tyT;rfl);rfl;(apply at_;rfl;rfl);rfl)|(apply eu;rfl;rfl));rfl)|(apply oS;rfl;rfl;(apply bw;rfl;(apply tyT;rfl);rfl;rfl;rfl;(first|(apply jl;rfl)|(apply mb;omega;rfl));rfl;rfl;(first|decide|(apply Nat.le_of_ble_eq_true;rfl)))))
  all_goals exact ⟨_,_,_,rfl⟩
theorem ju2 (p:List Cl) (c:Cl) (k:Nat) (hp:Sz p) (hcs:vd c ≤ 1000000) (hk:k < c.methods.length):PC 120 [vP p,vCl c,vI k] (fun r=>∃ n,r = vI n):=by
  have hfl:=gd c
  have hpar:∀(k:Nat) (m:Me),c.methods[k]? = some m → m.params.length ≤ 1000000:=fun k m h=>Nat.le_trans (jcx m) (Nat.le_trans (jiq h) hcs)
  obtain ⟨cn,csup,cf,cm⟩:=c
  dsimp only at hk hpar hfl
  obtain ⟨m,hm⟩:∃ c,cm[k]? = some c:=⟨_,List.getElem?_eq_getElem (by omega)⟩
  have hpm:=hpar k m hm
  obtain ⟨q1,q2,q3,q4,ps,q6⟩:=m
  dsimp only at hpm
  intro S T M
  refine am [] [] Tryz.func120 rfl Tryz.ntmps120 Tryz.results120 ?_
  repeat' (first|apply ab|(apply V;rfl;(first|(apply bl;rfl)|(apply bg;rfl)|(apply cb;(apply plT;rfl);rfl;rfl;decide)|(apply bz;(apply tyT;rfl);rfl;(apply at_;rfl;rfl);rfl)|(apply dp;(apply tyT;rfl);rfl;(first|rfl|apply ay|apply ba))|(apply bp (c:=(⟨q1,q2,q3,q4,ps,q6⟩:Me));apply elT;rfl;rfl;rfl;rfl;exact fu;omega;(first|exact hm|simpa using hm))))|(apply Vw;rfl;(first|(apply cd;rfl;(apply tyT;rfl))|(apply cj;rfl;rfl;rfl)))|(apply Vs;rfl;(apply bw;rfl;(apply tyT;rfl);rfl;rfl;rfl;(first|apply bc|(apply bh;omega));rfl;rfl;(first|decide|(apply Nat.le_of_ble_eq_true;rfl))))|(apply ac;rfl)|apply ak|apply aj)
  refine eh (fun j:Nat=>k - j) (fun j=>[(2,vI k),(3,.ptr (S.length + 0) 0),(4,.ptr (S.length + 1) 0),(7,.ptr (S.length + 2) 0),(8,vI j)]) (fun j=>j ≤ k) 0 (Nat.zero_le _) ⟨rfl,rfl,rfl,rfl,rfl,trivial⟩ ?_
  rintro j hj
  repeat' (first|apply ab|(apply V;rfl;(first|(apply bl;rfl)|(apply bg;rfl)))|(apply Vd;rfl;(apply cu;rfl;rfl);all_goals intro h_)|(apply ac;rfl)|apply ak|apply aj|apply ah|apply bd|(apply ae;rfl)|(apply af;rfl)|apply ap|apply ey|apply bo)
  · obtain ⟨d,hd⟩:∃ c,cm[j]? = some c:=⟨_,List.getElem?_eq_getElem (by omega)⟩
    have hpd:=hpar j d hd
    have h140:=joe d (⟨q1,q2,q3,q4,ps,q6⟩:Me) hpd
    obtain ⟨u1,u2,u3,u4,us,u6⟩:=d
    cases u2 <;> cases q2
    all_goals
      repeat' (first|apply ab|(apply V;rfl;(first|(apply jmy;rfl;rfl)|(apply bl;rfl)|(apply bg;rfl)|(apply cb;(apply plT;rfl);rfl;rfl;decide)|(apply fz;(apply plT;rfl);rfl;rfl;decide)|(apply bj;(apply tyT;rfl);rfl;(apply at_;rfl;rfl);rfl)|(apply bz;(apply tyT;rfl);rfl;(apply at_;rfl;rfl);rfl)|(apply dp;(apply tyT;rfl);rfl;(first|rfl|apply ay|apply ba))|(apply ef;(apply tyT;rfl);rfl;rfl)|(apply ca;rfl;rfl)|(apply bu;rfl;rfl)|(apply az;rfl;rfl;rfl;omega)|(apply bp (c:=(⟨u1,_,u3,u4,us,u6⟩:Me));apply elT;rfl;rfl;rfl;rfl;exact fu;omega;(first|exact hd|simpa using hd))))|(apply de (nt:=128) (.take 0 (.take 1 (.take 2 (.take 3 (.take 4 (.take 5 (.take 6 (.take 7 (.take 8 (.take 9 (.take 10 (.take 11 (.take 12 (.take 13 (.take 14 (.take 15 (.one 16 (.take 17 .nil)))))))))))))))))) [] [];exact co;rfl;decide +kernel)|(apply oP;rfl;rfl;rfl;apply fnT;rfl;apply h140;rintro _ ⟨(_|_),rfl⟩)|(apply ac;rfl)|(apply al;rfl)|apply ah|apply ai|(apply ae;rfl)|(apply af;rfl)|(apply bf _ (.inr rfl);(exact List.prefix_append _ _);(focus repeat (first|apply a8|(apply a9;rfl)));rfl)|apply ap|apply cq|apply dm|apply aw|apply dg|(apply tV;rfl;rfl;(first|(apply jmy;rfl;rfl)|(apply bl;rfl)|(apply bg;rfl)|(apply cb;(apply plT;rfl);rfl;rfl;decide)|(apply fz;(apply plT;rfl);rfl;rfl;decide)|(apply bj;(apply tyT;rfl);rfl;(apply at_;rfl;rfl);rfl)|(apply bz;(apply tyT;rfl);rfl;(apply at_;rfl;rfl);rfl)|(apply dp;(apply tyT;rfl);rfl;(first|rfl|apply ay|apply ba))|(apply ef;(apply tyT;rfl);rfl;rfl)|(apply ca;rfl;rfl)|(apply bu;rfl;rfl)|(apply az;rfl;rfl;rfl;omega)|(apply bp (c:=(⟨u1,_,u3,u4,us,u6⟩:Me));apply elT;rfl;rfl;rfl;rfl;exact fu;omega;(first|exact hd|simpa using hd)));rfl)|(apply tVo;rfl;rfl)|(apply oVo;rfl;rfl))
      all_goals first|exact ⟨_,rfl⟩|exact ⟨j + 1,by omega,by omega,⟨rfl,rfl,rfl,rfl,di (by omega),trivial⟩,rfl⟩
  refine eh (fun j:Nat=>ps.length - j) (fun j=>[(2,vI k),(3,.ptr (S.length + 0) 0),(4,.ptr (S.length + 1) 0),(7,.ptr (S.length + 2) 0),(9,vI j)]) (fun j=>j ≤ ps.length) 0 (Nat.zero_le _) ⟨rfl,rfl,rfl,rfl,rfl,trivial⟩ ?_
  rintro j2 hj2
  repeat' (first|apply ab|(apply V;rfl;(first|(apply bl;rfl)|(apply bg;rfl)|(apply cb;(apply plT;rfl);rfl;rfl;decide)|(apply bz;(apply tyT;rfl);rfl;(apply at_;rfl;rfl);rfl)|(apply bq;(apply elT;rfl);rfl;rfl)|(apply cg;rfl)))|(apply Vd;rfl;(apply cu;rfl;rfl);all_goals intro h_)|(apply ac;rfl)|apply ak|apply aj|apply ah|apply bd|(apply ae;rfl)|(apply af;rfl)|apply ap|apply ey|apply bo)
  all_goals (try dsimp only at h_)
  · refine eh (fun i:Nat=>j2 - i) (fun i=>[(2,vI k),(3,.ptr (S.length + 0) 0),(4,.ptr (S.length + 1) 0),(7,.ptr (S.length + 2) 0),(9,vI j2),(10,vI i)]) (fun i=>i ≤ j2) 0 (Nat.zero_le _) ⟨rfl,rfl,rfl,rfl,rfl,rfl,trivial⟩ ?_
    rintro i hi
    repeat' (first|apply ab|(apply V;rfl;(first|(apply bl;rfl)|(apply bg;rfl)|(apply az;rfl;rfl;rfl;omega)))|(apply Vd;rfl;(apply cu;rfl;rfl);all_goals intro h_)|(apply ac;rfl)|apply ak|(apply al;rfl)|apply aj|apply ah|apply bd|(apply ae;rfl)|(apply af;rfl)|apply ap|apply ey|apply cq|apply bo)
    · obtain ⟨x,hx⟩:∃ c,ps[j2]? = some c:=⟨_,List.getElem?_eq_getElem (by omega)⟩
      obtain ⟨y,hy⟩:∃ c,ps[i]? = some c:=⟨_,List.getElem?_eq_getElem (by omega)⟩
      repeat' (first|apply ab|(apply V;rfl;(first|(apply bl;rfl)|(apply bg;rfl)|(apply cb;(apply plT;rfl);rfl;rfl;decide)|(apply fz;(apply plT;rfl);rfl;rfl;decide)|(apply bz;(apply tyT;rfl);rfl;(apply at_;rfl;rfl);rfl)|(apply ef;(apply tyT;rfl);rfl;rfl)|(apply az;rfl;rfl;rfl;omega)|(apply bp (c:=x);apply elT;rfl;rfl;rfl;rfl;exact dn;omega;(first|exact hx|simpa using hx))|(apply bp (c:=y);apply elT;rfl;rfl;rfl;rfl;exact dn;omega;(first|exact hy|simpa using hy))))|(apply de (nt:=128) (.take 0 (.take 1 (.take 2 (.take 3 (.take 4 (.take 5 (.take 6 (.take 7 (.take 8 (.take 9 (.take 10 (.take 11 (.take 12 .nil))))))))))))) [] [];exact co;rfl;decide +kernel)|(apply ac;rfl)|(apply al;rfl)|apply ah|apply ai|(apply ae;rfl)|(apply af;rfl)|(apply bf _ (.inr rfl);(exact List.prefix_append _ _);(focus repeat (first|apply a8|(apply a9;rfl)));rfl)|apply ap|apply cq|apply dm|apply aw|apply dg|(apply tV;rfl;rfl;(first|(apply bl;rfl)|(apply bg;rfl)|(apply cb;(apply plT;rfl);rfl;rfl;decide)|(apply fz;(apply plT;rfl);rfl;rfl;decide)|(apply bz;(apply tyT;rfl);rfl;(apply at_;rfl;rfl);rfl)|(apply ef;(apply tyT;rfl);rfl;rfl)|(apply az;rfl;rfl;rfl;omega)|(apply bp (c:=x);apply elT;rfl;rfl;rfl;rfl;exact dn;omega;(first|exact hx|simpa using hx))|(apply bp (c:=y);apply elT;rfl;rfl;rfl;rfl;exact dn;omega;(first|exact hy|simpa using hy)));rfl)|(apply tVd;rfl;rfl;(apply du;rfl;rfl);rfl;all_goals intro h_))
      all_goals first|exact ⟨_,rfl⟩|exact ⟨i + 1,by omega,by omega,⟨rfl,rfl,rfl,rfl,rfl,di (by omega),trivial⟩,rfl⟩
    · exact ⟨j2 + 1,by omega,by omega,⟨rfl,rfl,rfl,rfl,di (by omega),trivial⟩,rfl⟩
  have h141:=juv p cn k hp
  cases q2
  all_goals
    repeat' (first|apply ab|(apply V;rfl;(first|(apply bl;rfl)|(apply bg;rfl)|(apply cb;(apply plT;rfl);rfl;rfl;decide)|(apply bj;(apply tyT;rfl);rfl;(apply at_;rfl;rfl);rfl)|(apply bz;(apply tyT;rfl);rfl;(apply at_;rfl;rfl);rfl)|(apply ca;rfl;rfl)|(apply bu;rfl;rfl)|(apply cg;rfl)))|(apply Vp;rfl;rfl;apply fnT;rfl;apply (jof p q3 hp);rintro _ ⟨(_|_),rfl⟩)|(apply Vd;rfl;(apply fy;rfl;rfl);all_goals intro h_)|(apply Vo;rfl)|(apply ac;rfl)|apply ak|apply aj|apply ah|apply ai|(apply ae;rfl)|(apply af;rfl)|(apply bf _ (.inr rfl);(exact List.prefix_append _ _);(focus repeat (first|apply a8|(apply a9;rfl)));rfl)|apply ap|apply aw)
    all_goals first|exact ⟨_,rfl⟩|skip
  all_goals
    refine eh (fun j:Nat=>ps.length - j) (fun j=>[(2,vI k),(3,.ptr (S.length + 0) 0),(4,.ptr (S.length + 1) 0),(7,.ptr (S.length + 2) 0),(11,vI j)]) (fun j=>j ≤ ps.length) 0 (Nat.zero_le _) ⟨rfl,rfl,rfl,rfl,rfl,trivial⟩ ?_
    rintro j3 hj3
    repeat' (first|apply ab|(apply V;rfl;(first|(apply bl;rfl)|(apply cb;(apply plT;rfl);rfl;rfl;decide)|(apply bj;(apply tyT;rfl);rfl;(apply at_;rfl;rfl);rfl)|(apply bz;(apply tyT;rfl);rfl;(apply at_;rfl;rfl);rfl)|(apply bq;(apply elT;rfl);rfl;rfl)|(apply ed;(apply plT;rfl);rfl)))|(apply Vd;rfl;(apply cu;rfl;rfl);all_goals intro h_)|(apply ac;rfl)|apply ak|apply aj|apply ah|apply bd|(apply ae;rfl)|(apply af;rfl)|apply ap|apply ey|apply bo)
    all_goals (try dsimp only at h_)
    · obtain ⟨x,hx⟩:∃ c,ps[j3]? = some c:=⟨_,List.getElem?_eq_getElem (by omega)⟩
      repeat' (first|apply ab|(apply V;rfl;(first|(apply bl;rfl)|(apply bg;rfl)|(apply cb;(apply plT;rfl);rfl;rfl;decide)|(apply fz;(apply plT;rfl);rfl;rfl;decide)|(apply bj;(apply tyT;rfl);rfl;(apply at_;rfl;rfl);rfl)|(apply bz;(apply tyT;rfl);rfl;(apply at_;rfl;rfl);rfl)|(apply ef;(apply tyT;rfl);rfl;rfl)|(apply cg;rfl)|(apply az;rfl;rfl;rfl;omega)|(apply bp (c:=x);apply elT;rfl;rfl;rfl;rfl;exact dn;omega;(first|exact hx|simpa using hx))))|(apply de (nt:=128) (.take 0 (.take 1 (.take 2 (.take 3 (.take 4 (.take 5 (.take 6 (.one 7 (.take 8 .nil))))))))) [] [];exact co;rfl;decide +kernel)|(apply oP;rfl;rfl;rfl;apply fnT;rfl;apply (jof p x.typ hp);rintro _ ⟨(_|_),rfl⟩)|(apply ac;rfl)|(apply al;rfl)|apply ah|apply ai|(apply ae;rfl)|(apply af;rfl)|(apply bf _ (.inr rfl);(exact List.prefix_append _ _);(focus repeat (first|apply a8|(apply a9;rfl)));rfl)|apply ap|apply cq|apply dm|apply aw|apply dg|(apply tV;rfl;rfl;(first|(apply bl;rfl)|(apply bg;rfl)|(apply cb;(apply plT;rfl);rfl;rfl;decide)|(apply fz;(apply plT;rfl);rfl;rfl;decide)|(apply bj;(apply tyT;rfl);rfl;(apply at_;rfl;rfl);rfl)|(apply bz;(apply tyT;rfl);rfl;(apply at_;rfl;rfl);rfl)|(apply ef;(apply tyT;rfl);rfl;rfl)|(apply cg;rfl)|(apply az;rfl;rfl;rfl;omega)|(apply bp (c:=x);apply elT;rfl;rfl;rfl;rfl;exact dn;omega;(first|exact hx|simpa using hx)));rfl))
      all_goals first|exact ⟨_,rfl⟩|exact ⟨j3 + 1,by omega,by omega,⟨rfl,rfl,rfl,rfl,di (by omega),trivial⟩,rfl⟩
    cases q1
    all_goals
      repeat' (first|apply ab|(apply V;rfl;(first|(apply jq4;rfl;rfl)|(apply bl;rfl)|(apply bg;rfl)|(apply cb;(apply plT;rfl);rfl;rfl;decide)|(apply bj;(apply tyT;rfl);rfl;(apply at_;rfl;rfl);rfl)|(apply bz;(apply tyT;rfl);rfl;(apply at_;rfl;rfl);rfl)|(apply ca;rfl;rfl)|(apply bu;rfl;rfl)|(apply eu;rfl;rfl)))|(apply Vp;rfl;rfl;apply fnT;rfl;apply h141;rintro _ ⟨o_,i_,(_|_),rfl⟩)|(apply Vp;rfl;rfl;apply fnT;rfl;apply (jcy p o_ i_ hp);rintro _ ⟨⟨(_|_),x2,x3,x4,x5,x6⟩,b_,rfl,-,hm_⟩)|(apply Vd;rfl;(apply fy;rfl;rfl);all_goals intro h_)|(apply Vo;rfl)|(apply Vw;rfl;(apply cd;rfl;(apply tyT;rfl)))|(apply Vs;rfl;(apply bw;rfl;(apply tyT;rfl);rfl;rfl;rfl;(first|apply bc|(apply bh;omega));rfl;rfl;(first|decide|(apply Nat.le_of_ble_eq_true;rfl))))|(apply ac;rfl)|apply ah|apply ai|(apply ae;rfl)|(apply af;rfl)|(apply bf _ (.inr rfl);(exact List.prefix_append _ _);(focus repeat (first|apply a8|(apply a9;rfl)));rfl)|apply ap|apply aw)
      all_goals exact ⟨_,rfl⟩
theorem jyi (p:List Cl) (hp:Sz p) (hg:(eg p).1 = 0):PC 88 [vP p] (fun r=>∃ e i:Int,r = .tup [vI e,vI i] ∧(e ≠ 0 → 0 ≤ i ∧ i < p.length)):=by
  have h41:=jwz p (ec hp)
  rw [hg] at h41
  have hpl:=ec hp
  intro S T M
  refine am [] [] Tryz.func88 rfl Tryz.ntmps88 Tryz.results88 ?_
  repeat' (first|apply ab|(apply V;rfl;(first|(apply bg;rfl)|(apply bj;(apply tyT;rfl);rfl;(apply at_;rfl;rfl);rfl)|(apply cg;rfl)))|(apply Vp;rfl;rfl;apply fnT;rfl;apply h41;rintro _ rfl)|(apply Vw;rfl;(apply cj;rfl;rfl;rfl))|(apply ac;rfl)|apply ak|apply aj|apply ah|(apply af;rfl)|apply ap)
  refine eh (fun k:Nat=>p.length - k) (fun k=>[(1,.ptr (S.length + 0) 0),(4,vI k)]) (fun k=>k ≤ p.length) 0 (Nat.zero_le _) ⟨rfl,rfl,trivial⟩ ?_
  rintro k hk
  repeat' (first|apply ab|(apply V;rfl;(first|(apply bl;rfl)|(apply bg;rfl)|(apply cb;(apply plT;rfl);rfl;rfl;decide)|(apply bz;(apply tyT;rfl);rfl;(apply at_;rfl;rfl);rfl)|(apply bq;(apply elT;rfl);rfl;rfl)))|(apply Vd;rfl;(apply cu;rfl;rfl);all_goals intro h_)|(apply ac;rfl)|apply ak|apply aj|apply ah|apply bd|apply ai|(apply ae;rfl)|(apply af;rfl)|(apply bf _ (.inr rfl);(exact List.prefix_append _ _);(focus repeat (first|apply a8|(apply a9;rfl)));rfl)|apply ap|apply ey|apply bo)
  · obtain ⟨c,hc⟩:∃ c,p[k]? = some c:=⟨_,List.getElem?_eq_getElem (by omega)⟩
    have hcs:vd c ≤ 1000000:=Nat.le_trans (qh (f:=vd) hc) hp
    have hml:=gd c
    refine eh (fun j:Nat=>c.methods.length - j) (fun j=>[(1,.ptr (S.length + 0) 0),(4,vI k),(5,vI j)]) (fun j=>j ≤ c.methods.length) 0 (Nat.zero_le _) ⟨rfl,rfl,rfl,trivial⟩ ?_
    rintro j hj
    repeat' (first|apply ab|(apply V;rfl;(first|(apply bl;rfl)|(apply bg;rfl)|(apply cb;(apply plT;rfl);rfl;rfl;decide)|(apply fz;(apply plT;rfl);rfl;rfl;decide)|(apply bz;(apply tyT;rfl);rfl;(apply at_;rfl;rfl);rfl)|(apply ef;(apply tyT;rfl);rfl;rfl)|(apply bq;(apply elT;rfl);rfl;rfl)|(apply az;rfl;rfl;rfl;omega)|(apply bp (c:=c);apply elT;rfl;rfl;rfl;rfl;exact da;omega;(first|exact hc|simpa using hc))))|(apply Vd;rfl;(apply cu;rfl;rfl);all_goals intro h_)|(apply ac;rfl)|apply ak|(apply al;rfl)|apply aj|apply ah|apply bd|(apply ae;rfl)|(apply af;rfl)|apply ap|apply ey|apply cq|apply bo)
    · repeat' (first|apply ab|(apply V;rfl;(first|(apply bl;rfl)|(apply bg;rfl)|(apply cb;(apply plT;rfl);rfl;rfl;decide)|(apply bj;(apply tyT;rfl);rfl;(apply at_;rfl;rfl);rfl)|(apply bz;(apply tyT;rfl);rfl;(apply at_;rfl;rfl);rfl)|(apply dp;(apply tyT;rfl);rfl;(first|rfl|apply ay|apply ba))|(apply az;rfl;rfl;rfl;omega)|(apply bp (c:=c);apply elT;rfl;rfl;rfl;rfl;exact da;omega;(first|exact hc|simpa using hc))))|(apply de (nt:=40) (.take 0 (.take 1 (.take 2 (.take 3 (.take 4 (.take 5 (.take 6 (.one 7 (.take 8 .nil))))))))) [] [];exact co;rfl;decide +kernel)|(apply oP;rfl;rfl;rfl;apply fnT;rfl;apply (ju2 p c j hp hcs (by omega));rintro _ ⟨n_,rfl⟩)|(apply Vd;rfl;(apply fb;rfl;rfl);all_goals intro h_)|(apply ac;rfl)|(apply al;rfl)|apply ah|apply ai|(apply ae;rfl)|(apply af;rfl)|(apply bf _ (.inr rfl);(exact List.prefix_append _ _);(focus repeat (first|apply a8|(apply a9;rfl)));rfl)|apply ap|apply cq|apply dm|apply aw|apply dg|(apply tV;rfl;rfl;(first|(apply bl;rfl)|(apply bg;rfl)|(apply cb;(apply plT;rfl);rfl;rfl;decide)|(apply bj;(apply tyT;rfl);rfl;(apply at_;rfl;rfl);rfl)|(apply bz;(apply tyT;rfl);rfl;(apply at_;rfl;rfl);rfl)|(apply dp;(apply tyT;rfl);rfl;(first|rfl|apply ay|apply ba))|(apply az;rfl;rfl;rfl;omega)|(apply bp (c:=c);apply elT;rfl;rfl;rfl;rfl;exact da;omega;(first|exact hc|simpa using hc)));rfl))
      all_goals first
        | exact ⟨n_,k,rfl,fun _=>⟨by omega,by omega⟩⟩
        | exact ⟨j + 1,by omega,by omega,⟨rfl,rfl,di (by omega),trivial⟩,rfl⟩
    · exact ⟨k + 1,by omega,by omega,⟨rfl,di (by omega),trivial⟩,rfl⟩
  · exact ⟨0,0,rfl,fun h=>absurd rfl h⟩
end Go.Proofs.YtinffhimfoicdaaGreat
namespace Go.Proofs.YtinffhimfoicdaaGreat
open Go Go.RowKit Go.Proofs.YtinffhimfoicdaaGreat.Calc
set_option linter.unusedVariables false
set_option linter.unusedSimpArgs false
set_option maxRecDepth 100000
set_option maxHeartbeats 8000000
attribute [local irreducible] Tri ew er ci bn db d7 inQ jb
theorem ju3 (t:ByteArray):PC 21 [vS t] (fun r=>r = vVl (jv t)):=by
  intro S T M
  refine am [] [] Tryz.func21 rfl Tryz.ntmps21 Tryz.results21 ?_
  unfold jv
  by_cases h1:t = INT
  · subst h1
    repeat' (first|apply ab|(apply V;rfl;(first|(apply bl;rfl)|(apply bg;rfl)|(apply ed;(apply plT;rfl);rfl)))|(apply Vd;rfl;(apply du;rfl;rfl);all_goals intro h_)|(apply Vw;rfl;(apply cd;rfl;(apply tyT;rfl)))|(apply Vs;rfl;(apply bw;rfl;(apply tyT;rfl);rfl;rfl;rfl;(first|apply bc|(apply bh;omega));rfl;rfl;(first|decide|(apply Nat.le_of_ble_eq_true;rfl))))|(apply ac;rfl)|apply ak|apply aj|apply ah|apply ai|(apply ae;rfl)|(apply af;rfl)|(apply bf _ (.inr rfl);(exact List.prefix_append _ _);(focus repeat (first|apply a8|(apply cp;rfl;rfl;apply tyT;rfl;rfl;rfl)));rfl)|apply ap|apply cq|apply dm|apply aw)
    all_goals first|rfl|contradiction
  by_cases h2:t = BOO
  · subst h2
    repeat' (first|apply ab|(apply V;rfl;(first|(apply bl;rfl)|(apply bg;rfl)|(apply ed;(apply plT;rfl);rfl)))|(apply Vd;rfl;(apply du;rfl;rfl);all_goals intro h_)|(apply Vw;rfl;(apply cd;rfl;(apply tyT;rfl)))|(apply Vs;rfl;(apply bw;rfl;(apply tyT;rfl);rfl;rfl;rfl;(first|apply bc|(apply bh;omega));rfl;rfl;(first|decide|(apply Nat.le_of_ble_eq_true;rfl))))|(apply ac;rfl)|apply ak|apply aj|apply ah|apply ai|(apply ae;rfl)|(apply af;rfl)|(apply bf _ (.inr rfl);(exact List.prefix_append _ _);(focus repeat (first|apply a8|(apply cp;rfl;rfl;apply tyT;rfl;rfl;rfl)));rfl)|apply ap|apply cq|apply dm|apply aw)
    all_goals first|rfl|contradiction
  by_cases h3:t = STR
  · subst h3
    repeat' (first|apply ab|(apply V;rfl;(first|(apply bl;rfl)|(apply bg;rfl)|(apply ed;(apply plT;rfl);rfl)))|(apply Vd;rfl;(apply du;rfl;rfl);all_goals intro h_)|(apply Vw;rfl;(apply cd;rfl;(apply tyT;rfl)))|(apply Vs;rfl;(apply bw;rfl;(apply tyT;rfl);rfl;rfl;rfl;(first|apply bc|(apply bh;omega));rfl;rfl;(first|decide|(apply Nat.le_of_ble_eq_true;rfl))))|(apply ac;rfl)|apply ak|apply aj|apply ah|apply ai|(apply ae;rfl)|(apply af;rfl)|(apply bf _ (.inr rfl);(exact List.prefix_append _ _);(focus repeat (first|apply a8|(apply cp;rfl;rfl;apply tyT;rfl;rfl;rfl)));rfl)|apply ap|apply cq|apply dm|apply aw)
    all_goals first|rfl|contradiction
  rw [if_neg h1,if_neg h2,if_neg h3]
  repeat' (first|apply ab|(apply V;rfl;(first|(apply bl;rfl)|(apply bg;rfl)|(apply ed;(apply plT;rfl);rfl)))|(apply Vd;rfl;(apply du;rfl;rfl);all_goals intro h_)|(apply Vw;rfl;(apply cd;rfl;(apply tyT;rfl)))|(apply Vs;rfl;(apply bw;rfl;(apply tyT;rfl);rfl;rfl;rfl;(first|apply bc|(apply bh;omega));rfl;rfl;(first|decide|(apply Nat.le_of_ble_eq_true;rfl))))|(apply ac;rfl)|apply ak|apply aj|apply ah|apply ai|(apply ae;rfl)|(apply af;rfl)|(apply bf _ (.inr rfl);(exact List.prefix_append _ _);(focus repeat (first|apply a8|(apply cp;rfl;rfl;apply tyT;rfl;rfl;rfl)));rfl)|apply ap|apply cq|apply dm|apply aw)
  all_goals first|rfl|contradiction
def sy (p:List Cl) (k:Tg):Option Fi:=if k.nth < 0 then none else (dy p k.own).fields[k.nth.toNat]?
theorem jq7 (p:List Cl) (k:Tg) (hp:Sz p):PC 33 [vP p,vTg k] (fun r=>r = .tup [vFi ((sy p k).getD fi0),vB (sy p k).isSome]):=by
  obtain ⟨a,n⟩:=k
  have h68:=jmv p a (ec hp)
  have hcs:=qy p a hp
  have hfl:=k7 (dy p a)
  unfold jk5 at h68
  unfold sy vTg
  dsimp only
  generalize dy p a = c at *
  obtain ⟨cn,csup,cf,cm⟩:=c
  dsimp only at *
  intro S T M
  refine am [] [] Tryz.func33 rfl Tryz.ntmps33 Tryz.results33 ?_
  by_cases h0:n < 0
  · rw [if_pos h0]
    repeat' (first|apply ab|(apply V;rfl;(first|(apply bl;rfl)|(apply bg;rfl)|(apply cb;(apply plT;rfl);rfl;rfl;decide)|(apply bj;(apply tyT;rfl);rfl;(apply at_;rfl;rfl);rfl)|(apply bz;(apply tyT;rfl);rfl;(apply at_;rfl;rfl);rfl)|(apply bq;(apply elT;rfl);rfl;rfl)|(apply ca;rfl;rfl)|(apply bu;rfl;rfl)|(apply ed;(apply plT;rfl);rfl)))|(apply Vp;rfl;rfl;apply fnT;rfl;apply h68;rintro _ rfl)|(apply Vd;rfl;(first|(apply cu;rfl;rfl)|(apply ep;rfl;rfl));all_goals intro h_)|(apply Vo;rfl)|(apply Vw;rfl;(first|(apply cd;rfl;(apply tyT;rfl))|(apply cj;rfl;rfl;rfl)))|(apply Vs;rfl;(apply bw;rfl;(apply tyT;rfl);rfl;rfl;rfl;(first|apply bc|(apply bh;omega));rfl;rfl;(first|decide|(apply Nat.le_of_ble_eq_true;rfl))))|(apply ac;rfl)|apply ak|apply ah|apply ai|(apply ae;rfl)|(apply af;rfl)|(apply bf _ (.inr rfl);(exact List.prefix_append _ _);(focus repeat (first|apply a8|(apply a9;rfl)|(apply cp;rfl;rfl;apply tyT;rfl;rfl;rfl)));rfl)|apply ap|apply aw|(exfalso;omega))
    all_goals first|(rw [show (none:Option Fi).getD fi0 = fi0 from rfl,jq2];rfl)|(exfalso;omega)
  rw [if_neg h0]
  by_cases h1:n < cf.length
  · obtain ⟨m,hm⟩:∃ m,cf[n.toNat]? = some m:=⟨_,List.getElem?_eq_getElem (by omega)⟩
    rw [hm]
    repeat' (first|apply ab|(apply V;rfl;(first|(apply bl;rfl)|(apply bg;rfl)|(apply cb;(apply plT;rfl);rfl;rfl;decide)|(apply bj;(apply tyT;rfl);rfl;(apply at_;rfl;rfl);rfl)|(apply bz;(apply tyT;rfl);rfl;(apply at_;rfl;rfl);rfl)|(apply dp;(apply tyT;rfl);rfl;(first|rfl|apply ay|apply ba))|(apply bq;(apply elT;rfl);rfl;rfl)|(apply ca;rfl;rfl)|(apply bu;rfl;rfl)|(apply ed;(apply plT;rfl);rfl)|(apply bp (c:=m);apply elT;rfl;rfl;rfl;rfl;exact dx;omega;exact hm)))|(apply Vp;rfl;rfl;apply fnT;rfl;apply h68;rintro _ rfl)|(apply Vd;rfl;(first|(apply cu;rfl;rfl)|(apply ep;rfl;rfl));all_goals intro h_)|(apply Vo;rfl)|(apply Vw;rfl;(first|(apply cd;rfl;(apply tyT;rfl))|(apply cj;rfl;rfl;rfl)))|(apply Vs;rfl;(apply bw;rfl;(apply tyT;rfl);rfl;rfl;rfl;(first|apply bc|(apply bh;omega));rfl;rfl;(first|decide|(apply Nat.le_of_ble_eq_true;rfl))))|(apply ac;rfl)|apply ak|apply ah|apply ai|(apply ae;rfl)|(apply af;rfl)|(apply bf _ (.inr rfl);(exact List.prefix_append _ _);(focus repeat (first|apply a8|(apply a9;rfl)|(apply cp;rfl;rfl;apply tyT;rfl;rfl;rfl)));rfl)|apply ap|apply aw|(exfalso;omega))
    all_goals first|rfl|(exfalso;omega)
  · rw [List.getElem?_eq_none (by omega)]
    repeat' (first|apply ab|(apply V;rfl;(first|(apply bl;rfl)|(apply bg;rfl)|(apply cb;(apply plT;rfl);rfl;rfl;decide)|(apply bj;(apply tyT;rfl);rfl;(apply at_;rfl;rfl);rfl)|(apply bz;(apply tyT;rfl);rfl;(apply at_;rfl;rfl);rfl)|(apply bq;(apply elT;rfl);rfl;rfl)|(apply ca;rfl;rfl)|(apply bu;rfl;rfl)|(apply ed;(apply plT;rfl);rfl)))|(apply Vp;rfl;rfl;apply fnT;rfl;apply h68;rintro _ rfl)|(apply Vd;rfl;(first|(apply cu;rfl;rfl)|(apply ep;rfl;rfl));all_goals intro h_)|(apply Vo;rfl)|(apply Vw;rfl;(first|(apply cd;rfl;(apply tyT;rfl))|(apply cj;rfl;rfl;rfl)))|(apply Vs;rfl;(apply bw;rfl;(apply tyT;rfl);rfl;rfl;rfl;(first|apply bc|(apply bh;omega));rfl;rfl;(first|decide|(apply Nat.le_of_ble_eq_true;rfl))))|(apply ac;rfl)|apply ak|apply ah|apply ai|(apply ae;rfl)|(apply af;rfl)|(apply bf _ (.inr rfl);(exact List.prefix_append _ _);(focus repeat (first|apply a8|(apply a9;rfl)|(apply cp;rfl;rfl;apply tyT;rfl;rfl;rfl)));rfl)|apply ap|apply aw|(exfalso;omega))
    all_goals first|(rw [show (none:Option Fi).getD fi0 = fi0 from rfl,jq2];rfl)|(exfalso;omega)
theorem jq8:jmn Tryz.prog 37 2 = some (34,2):=by kernel_rfl
def mn (k:Tg):List DV:=[.flat (.string k.own),.flat (.int .i64 k.nth)]
theorem ny (k:Tg):(mn k).length = 2:=rfl
def ru (c:ByteArray):List Fi → Nat → List Tg
  | [],_=>[]
  | f :: l,k=>if f.static = false then ⟨c,(k:Int)⟩ :: ru c l (k + 1) else ru c l (k + 1)
def r7 (p:List Cl) (ch:List ByteArray):List Tg:=ch.reverse.flatMap fun c=>ru c (dy p c).fields 0
theorem jcz (c:ByteArray):∀(l:List Fi) (k:Nat),(ru c l k).length ≤ l.length
  | [],_=>Nat.le_refl _
  | f :: l,k=>by
    have:=jcz c l (k + 1)
    rw [ru]
    split <;> simp only [List.length_cons] <;> omega
theorem v9 {p:List Cl} (hp:rf p) (a:ByteArray):(dy p a).fields.length ≤ 1000000:=by
  rcases sp p a with ⟨j,c,hc,_,e⟩|⟨_,e⟩
  · rw [e]
    exact hp.2 c (List.mem_of_getElem? hc)
  · rw [e]
    decide
theorem wa {p:List Cl} (hp:rf p):∀ l:List ByteArray,(l.flatMap fun c=>ru c (dy p c).fields 0).length ≤ l.length * 1000000
  | []=>by simp
  | c :: l=>by
    have h1:=jcz c (dy p c).fields 0
    have h2:=v9 hp c
    have h3:=wa hp l
    rw [List.flatMap_cons,List.length_append,List.length_cons,Nat.add_mul]
    omega
theorem jis (p:List Cl) {L:List ByteArray} {k:Nat} {c:ByteArray} (h:L[k]? = some c):r7 p (L.drop k) = r7 p (L.drop (k + 1)) ++ ru c (dy p c).fields 0:=by
  unfold r7
  rw [jp h,List.reverse_cons,List.flatMap_append]
  simp
theorem jyj (p:List Cl) (a:ByteArray) (hp:rf p):PC 32 [vP p,vS a] (fun r=>r = .d (cy mn (r7 p (chC p a)))):=by
  have hp1:=hp.1
  have h67:=jp6 p a hp1
  have hcl:=sk p a
  intro S T M
  refine am [] [] Tryz.func32 rfl Tryz.ntmps32 Tryz.results32 ?_
  generalize hL:chC p a = L at *
  have hall:=wa hp
  repeat' (first|apply ab|(apply V;rfl;(first|(apply bl;rfl)|(apply bg;rfl)|(apply bj;(apply tyT;rfl);rfl;(apply at_;rfl;rfl);rfl)|(apply bq;(apply elT;rfl);rfl;rfl)|(apply ei;rfl;rfl;rfl;omega)))|(apply Vp;rfl;rfl;apply fnT;rfl;apply h67;rintro _ rfl)|(apply ac;rfl;apply V;rfl;(apply bg;rfl);apply ab;refine gc 5 44 2 rfl rfl ?_)|(apply Vw;rfl;(apply cj;rfl;rfl;rfl))|(apply ac;rfl)|apply ak|apply aj)
  refine cx (fun k:Nat=>k) (fun k=>[(2,.ptr (S.length + 0) 0),(5,.own 44 2 (T.length + 0) ((r7 p (L.drop k)).flatMap mn) (r7 p (L.drop k)).length),(6,.d (cy dw L)),(7,vI ((k:Int) - 1))]) (fun k S1 T1=>k ≤ L.length ∧ S.length ≤ S1.length ∧ T <+: T1 ∧ S1[S.length + 0]? = some ([.d (cy df p)],26) ∧ T1[T.length + 0]? = some ((r7 p (L.drop k)).flatMap mn).length) L.length ⟨Nat.le_refl _,by simp,by simp,at_ rfl rfl,by rw [List.drop_length];simp [r7]⟩ ⟨rfl,by rw [List.drop_length];rfl,rfl,di (by omega),trivial⟩ ?_
  rintro k S1 T1 ⟨hk,hS,hT,hb,hTg⟩
  by_cases h0:k = 0
  · subst h0
    repeat' (first|apply ab|(apply V;rfl;(first|(apply bl;rfl)|(apply bg;rfl)))|(apply Vd;rfl;(apply ep;rfl;rfl);all_goals intro h_)|(apply ac;rfl)|apply ak|apply aj|apply ah|apply bd|apply ai|(apply ae;rfl)|(apply af;rfl)|(apply bf _ (.inr rfl);(apply av;assumption);(focus repeat (first|apply a8|(apply a9;rfl)));rfl)|apply ap|apply ey|apply bo|(exfalso;omega))
    all_goals first|(rw [List.drop_zero];rfl)|(exfalso;omega)
  obtain ⟨k,rfl⟩:∃ k',k = k' + 1:=⟨k - 1,by omega⟩
  obtain ⟨c,hc⟩:∃ c,L[k]? = some c:=⟨_,List.getElem?_eq_getElem (by omega)⟩
  have h68:=jmv p c hp1
  have hfl:=v9 hp c
  have hst:=jis p hc
  have hAl:(r7 p (L.drop (k + 1))).length ≤(p.length + 6) * 1000000:=by
    have:=hall (L.drop (k + 1)).reverse
    rw [List.length_reverse,List.length_drop] at this
    refine Nat.le_trans this (Nat.mul_le_mul_right _ (by omega))
  have hpm:(p.length + 6) * 1000000 ≤ 1000006000000:=by omega
  unfold jk5 at h68
  generalize r7 p (L.drop (k + 1)) = A at *
  generalize dy p c = cc at *
  obtain ⟨cn,csup,fs,cm⟩:=cc
  dsimp only at *
  rw [show ((k + 1:Nat):Int) - 1 =(k:Int) by omega]
  repeat' (first|apply ab|(apply V;rfl;(first|(apply bl;rfl)|(apply bg;rfl)|(apply bj;(apply tyT;rfl);rfl;(apply aa;assumption);rfl)|(apply ef;(apply tyT;rfl);rfl;rfl)|(apply bp (c:=c);apply elT;rfl;rfl;rfl;rfl;exact cv;omega;simpa using hc)|(apply jod;rfl;exact jq8;apply tyT;rfl;rfl)))|(apply bt (nt:=49) (.take 0 (.take 1 (.take 2 (.take 3 (.take 4 (.one 5 (.take 6 (.take 7 .nil)))))))) [] [];exact co;rfl;decide +kernel)|(apply oP;rfl;rfl;rfl;apply fnT;rfl;apply h68;rintro _ rfl)|(apply Vd;rfl;(apply ep;rfl;rfl);all_goals intro h_)|(apply ac;rfl)|apply ak|apply aj|apply ah|apply bd|apply ai|(apply ae;rfl)|(apply af;rfl)|(apply bf _ (.inr rfl);(apply av;assumption);(focus repeat (first|apply a8|(apply a9;rfl)));rfl)|apply ap|apply ey|apply bo|apply dg|(apply tV;rfl;rfl;(first|(apply bl;rfl)|(apply bg;rfl)|(apply bj;(apply tyT;rfl);rfl;(apply aa;assumption);rfl)|(apply ef;(apply tyT;rfl);rfl;rfl)|(apply bp (c:=c);apply elT;rfl;rfl;rfl;rfl;exact cv;omega;simpa using hc)|(apply jod;rfl;exact jq8;apply tyT;rfl;rfl));rfl)|(exfalso;omega))
  refine cx (fun q:Nat × List Tg=>fs.length - q.1) (fun q=>[(2,.ptr (S.length + 0) 0),(5,.own 44 2 (T.length + 0) (q.2.flatMap mn) q.2.length),(6,.d (cy dw L)),(7,vI (k:Int)),(8,.d (cy je fs)),(9,vI q.1)]) (fun q S2 T2=>q.1 ≤ fs.length ∧ S.length ≤ S2.length ∧ T <+: T2 ∧ S2[S.length + 0]? = some ([.d (cy df p)],26) ∧ T2[T.length + 0]? = some (q.2.flatMap mn).length ∧ q.2.length ≤ A.length + q.1 ∧ A ++ ru c fs 0 = q.2 ++ ru c (fs.drop q.1) q.1) (0,A) ⟨Nat.zero_le _,by simp only [List.length_append];omega,av hT,aa hb,by (first|exact aa hTg|exact hTg),by simp,by rw [List.drop_zero]⟩ ⟨rfl,rfl,rfl,rfl,rfl,rfl,trivial⟩ ?_
  rintro ⟨j,B⟩ S2 T2 ⟨hj,hS2,hT2,hb2,hTg2,hBl,hB⟩
  dsimp only at *
  repeat' (first|apply ab|(apply V;rfl;(first|(apply bl;rfl)|(apply bg;rfl)|(apply bq;(apply elT;rfl);rfl;rfl)|(apply ei;rfl;rfl;rfl;omega)))|(apply Vd;rfl;(apply cu;rfl;rfl);all_goals intro h_)|(apply ac;rfl)|apply ak|(apply al;rfl)|apply aj|apply ah|apply bd|(apply ae;rfl)|(apply af;rfl)|apply ap|apply ey|apply cq|apply bo)
  · obtain ⟨f,hff⟩:∃ f,fs[j]? = some f:=⟨_,List.getElem?_eq_getElem (by omega)⟩
    rw [jp hff,ru] at hB
    obtain ⟨fst,fty,fnm,fin⟩:=f
    dsimp only at hB
    cases fst
    · rw [if_pos rfl] at hB
      repeat' (first|apply ab|(apply V;rfl;(first|(apply bl;rfl)|(apply bg;rfl)|(apply fz;(apply plT;rfl);rfl;rfl;decide)|(apply ef;(apply tyT;rfl);rfl;rfl)|(apply cg;rfl)|(apply ed;(apply plT;rfl);rfl)|(apply az;rfl;rfl;rfl;omega)|(apply bp (c:=(⟨_,fty,fnm,fin⟩:Fi));apply elT;rfl;rfl;rfl;rfl;exact dx;omega;simpa using hff)|(apply bp (c:=c);apply elT;rfl;rfl;rfl;rfl;exact cv;omega;simpa using hc)))|(apply Vw;rfl;(first|(apply d8;rfl;(apply elT;rfl);(apply tyT;rfl);rfl;decide;rfl;rfl)|(apply mf;(apply elT;rfl);(apply tyT;rfl);(apply byT;rfl);rfl;rfl;rfl;decide;rfl;(apply ee (f:=mn) (c:=(⟨c,(j:Int)⟩:Tg));omega;omega;assumption))))|(apply al;rfl)|(apply ae;rfl)|apply ap|apply cq)
      exact ⟨(j + 1,B ++ [⟨c,(j:Int)⟩]),_,_,by dsimp only;omega,⟨by dsimp only;omega,by simp only [List.length_append];omega,av (dc hT2 (by omega)),aa hb2,aq (List.getElem?_eq_some_iff.1 hTg2).1,by simp only [List.length_append,List.length_singleton];omega,by rw [hB];simp⟩,⟨rfl,rfl,rfl,rfl,rfl,di (by dsimp only;omega),trivial⟩,rfl⟩
    · rw [if_neg (by decide)] at hB
      repeat' (first|apply ab|(apply V;rfl;(first|(apply bl;rfl)|(apply bg;rfl)|(apply fz;(apply plT;rfl);rfl;rfl;decide)|(apply ef;(apply tyT;rfl);rfl;rfl)|(apply cg;rfl)|(apply az;rfl;rfl;rfl;omega)|(apply bp (c:=(⟨_,fty,fnm,fin⟩:Fi));apply elT;rfl;rfl;rfl;rfl;exact dx;omega;simpa using hff)))|(apply al;rfl)|apply ah|(apply af;rfl)|apply ap|apply cq)
      exact ⟨(j + 1,B),_,_,by dsimp only;omega,⟨by dsimp only;omega,by simp only [List.length_append];omega,av hT2,aa hb2,by (first|exact aa hTg2|exact hTg2),by dsimp only;omega,hB⟩,⟨rfl,rfl,rfl,rfl,rfl,di (by dsimp only;omega),trivial⟩,rfl⟩
  · rw [List.drop_of_length_le (by omega),ru,List.append_nil] at hB
    rw [hB] at hst
    exact ⟨k,_,_,by omega,⟨by omega,by simp only [List.length_append];omega,av hT2,aa hb2,by rw [hst];(first|exact aa hTg2|exact hTg2)⟩,⟨rfl,by rw [hst];rfl,rfl,di (by omega),trivial⟩,rfl⟩
end Go.Proofs.YtinffhimfoicdaaGreat
namespace Go.Proofs.YtinffhimfoicdaaGreat.Calc
open Go Go.RowKit
set_option linter.unusedVariables false
theorem nz {C:Cx} {c:Code} {ρ:Rg} {S:List (List BV × Nat)} {T:List Nat} {M:List (List (Value × DV))} {Q:nl} {id ty:Nat} {cs:List BV} (hid:S[id]? = some (cs,ty)) (h:Tri C c ρ ⟨S.set id (wks cs,ty),T,M⟩ Q):Tri C c ρ ⟨S,T,M⟩ Q:=by
  intro x y a h1 h1m h2 h3 h4 h5 K hK
  have hS:y.st.S = S:=by rw [h3]
  have hT:y.st.T = T:=by rw [h3]
  have hM:y.st.M = M:=by rw [h3]
  have hid1:y.st.S[id]? = some (cs,ty):=by
    rw [hS]
    exact hid
  have g2:Good (ka y id (wks cs,ty)):=rr h4 hid1 fun vs hvs=>ue hvs
  have hst:=me y id (wks cs,ty)
  refine h x _ a h1 h1m (h2.trans' hst (fun i hi _=>by cases hi) (fun i hi _=>by cases hi)) ?_ g2 ⟨h5.defers,h5.size,fun t v ht=>(h5.reg t v ht).mono hst⟩ K hK
  show (⟨y.st.S.set id _,y.st.T,y.st.M⟩:St) = _
  rw [hS,hT,hM]
theorem jit {C:Cx} {c:Code} {ρ:Rg} {S L:List (List BV × Nat)} {T:List Nat} {M:List (List (Value × DV))} {Q:nl} {k ty:Nat} {cs:List BV} (hk:L[k]? = some (cs,ty)) (h:Tri C c ρ ⟨S ++ L.set k (wks cs,ty),T,M⟩ Q):Tri C c ρ ⟨S ++ L,T,M⟩ Q:=by
  refine nz (id:=S.length + k) (at_ rfl hk) ?_
  rw [wy rfl]
  exact h
theorem jog {S:List (List BV × Nat)} {T X:List Nat} {M:List (List (Value × DV))} {e sz by' k n m nt:Nat} {cs ys:List DV} (hT:T.length = nt) (hX:X[k]? = some cs.length) (hy:ys.length = m * sz) (h1:(n + m) * by' ≤ 140737488355328) (h2:n + m ≤ 9223372036854775807) :
    jb4 e sz by' (.own e sz (nt + k) cs n) ys m ⟨S,T ++ X,M⟩ = some (⟨S,T ++ X.set k (cs ++ ys).length,M⟩,.own e sz (nt + k) (cs ++ ys) (n + m)):=by
  by_cases hm:m = 0
  · subst hm
    rw [Nat.zero_mul] at hy
    obtain rfl:=List.eq_nil_of_length_eq_zero hy
    have hs:X.set k cs.length = X:=by
      apply List.ext_getElem?
      intro i
      by_cases hi:k = i
      · subst hi
        rw [List.getElem?_set_self (List.getElem?_eq_some_iff.1 hX).1,hX]
      · rw [List.getElem?_set_ne hi]
    rw [List.append_nil,hs]
    simp [jb4]
  · exact jmq hT hm h1 h2 hX
end Go.Proofs.YtinffhimfoicdaaGreat.Calc
namespace Go.Proofs.YtinffhimfoicdaaGreat.Calc
open Go Go.RowKit
set_option linter.unusedVariables false
section
variable {P:Program} {ok okm:Nat → Bool} {o:Oper} {ρ:Rg} {Q:Rg → St → Prop} {x y i:Operand}
end
end Go.Proofs.YtinffhimfoicdaaGreat.Calc
namespace Go.Proofs.YtinffhimfoicdaaGreat.Calc
open Go Go.RowKit
set_option linter.unusedVariables false
def jem (ds:List DV):List (Value × DV):=ds.map fun d=>(.tuple #[],d)
theorem wb (ds:List DV):(jem ds).map (·.2) = ds:=by
  induction ds with
  | nil=>rfl
  | cons d l ih=>simpa [jem] using ih
theorem wc:∀ {ds:List DV},ds ≠ [] → jhb (jem ds) = true
  | [],h=>absurd rfl h
  | d :: l,_=>rfl
theorem jgc {a b:List DV} (h1:a.all jb9 = true) (h2:b.all jb9 = true):(a ++ b).all jb9 = true:=by
  rw [List.all_append,h1,h2];rfl
def kg (x:Full) (w':World) (t k:Nat):Full:=⟨⟨x.st.S,x.st.T.set t k,x.st.M⟩,x.pb,x.pt,x.pm,x.F,w'⟩
theorem vh {x:Full} {w':World} {t g k n e:Nat} {cur:Array Value} (hg:Good x) (ht:x.st.T[t]? = some n) (hp:x.pt t = some g) (hn:n < k) (hF:x.F g = 0) (h:Turned x.w w' g cur e):Step [] [] x (kg x w' t k) where
  os:=h.os
  tape:=h.tape
  output:=h.output
  size:=Nat.le_of_eq h.size.symm
  frame:=fun b _ _ _ h3=>h.old b (fun e=>h3 t (List.getElem?_eq_some_iff.1 ht).1 (e ▸ hp))
  keep:=fun b i u hi hcc=>by
    by_cases hb:b = g
    · subst hb
      omega
    · exact ⟨hi,(kz (h.old b hb) i).trans hcc⟩
  slen:=Nat.le_refl _
  ids:=fun _ _=>rfl
  fresh:=fun i h1 h2=>by simp only [kg] at h2;omega
  mlen:=Nat.le_refl _
  mids:=fun _ _=>rfl
  mfresh:=fun i h1 h2=>by simp only [kg] at h2;omega
  tags:=fun u m hu=>by
    have hu':=(List.getElem?_eq_some_iff.1 hu).1
    by_cases hut:u = t
    · subst hut
      have:m = n:=Option.some.inj (hu.symm.trans ht)
      subst this
      exact ⟨k,by simp [kg,hu'],Nat.le_of_lt hn,fun e=>by omega,.inl rfl⟩
    · exact ⟨m,by simp only [kg];rw [List.getElem?_set_ne (fun e=>hut e.symm)];exact hu,Nat.le_refl _,fun _=>⟨rfl,fun b hb=>⟨h.old b (fun e=>hut (((hg.tag t n g ht hp).2.2.2 u hu' (e ▸ hb)))),rfl⟩⟩,.inl rfl⟩
  tfresh:=fun u b h1 h2=>by simp only [kg,List.length_set] at h2;omega
  fro:=fun b _ h3=>rfl
theorem jc0 {x:Full} {w':World} {t g k n e:Nat} {cur:Array Value} (hg:Good x) (ht:x.st.T[t]? = some n) (hp:x.pt t = some g) (hn:n < k) (hF:x.F g = 0) (h:Turned x.w w' g cur e):Good (kg x w' t k):=by
  have hs:=vh hg ht hp hn hF h
  have ht':=(List.getElem?_eq_some_iff.1 ht).1
  obtain ⟨g1,g2,g3,g4⟩:=hg.tag t n g ht hp
  constructor
  · intro i cs' t' hi
    obtain ⟨us,h1,h2,h3⟩:=hg.box i cs' t' hi
    exact ⟨us,(h.old _ (g3 i (List.getElem?_eq_some_iff.1 hi).1)).trans h1,h2.mono hs,h3⟩
  · exact hg.inj
  · intro u m b hu hb
    simp only [kg,List.length_set] at hu hb ⊢
    by_cases hut:u = t
    · subst hut
      obtain rfl:g = b:=Option.some.inj (hp.symm.trans hb)
      simp only [List.getElem?_set_self ht',Option.some.injEq] at hu
      exact ⟨by rw [h.size];exact g1,by omega,g3,g4⟩
    · rw [List.getElem?_set_ne (fun e=>hut e.symm)] at hu
      obtain ⟨h1,h2,h3,h4⟩:=hg.tag u m b hu hb
      exact ⟨by rw [h.size];exact h1,h2,h3,h4⟩
  · intro i es hi
    exact (hg.map i es hi).le (h.old _ (hg.tmap t g i ht' hp (List.getElem?_eq_some_iff.1 hi).1)) hs.le
  · exact hg.mapinj
  · intro u b i hu hb hi
    simp only [kg,List.length_set] at hu
    exact hg.tmap u b i hu hb hi
  · exact hg.mp
def f8 (x:Full) (w':World) (t k:Nat):Full :=
  ⟨⟨x.st.S,x.st.T.set t k,x.st.M⟩,x.pb,fun u=>if u = t then some x.w.heap.size else x.pt u,x.pm,fun b=>if b = x.w.heap.size then 0 else x.F b,w'⟩
theorem um {x:Full} {w':World} {t k n:Nat} {o:Obj} (hg:Good x) (ht:x.st.T[t]? = some n) (hn:n < k) (h:Grown x.w w' o):Step [] [] x (f8 x w' t k) where
  os:=h.os
  tape:=h.tape
  output:=h.output
  size:=h.size
  frame:=fun b hb _ _ _=>h.old hb
  keep:=h.keep 0
  slen:=Nat.le_refl _
  ids:=fun _ _=>rfl
  fresh:=fun i h1 h2=>by simp only [f8] at h2;omega
  mlen:=Nat.le_refl _
  mids:=fun _ _=>rfl
  mfresh:=fun i h1 h2=>by simp only [f8] at h2;omega
  tags:=fun u m hu=>by
    have hu':=(List.getElem?_eq_some_iff.1 hu).1
    by_cases hut:u = t
    · subst hut
      have:m = n:=Option.some.inj (hu.symm.trans ht)
      subst this
      exact ⟨k,by simp [f8,hu'],Nat.le_of_lt hn,fun e=>by omega,.inr (.inr ⟨_,by simp [f8],Nat.le_refl _⟩)⟩
    · exact ⟨m,by simp only [f8];rw [List.getElem?_set_ne (fun e=>hut e.symm)];exact hu,Nat.le_refl _,fun _=>⟨by simp only [f8,if_neg hut],fun b hb=>⟨h.old (hg.tag_lt hu' hb),if_neg (Nat.ne_of_lt (hg.tag_lt hu' hb))⟩⟩,.inl (by simp only [f8,if_neg hut])⟩
  tfresh:=fun u b h1 h2=>by simp only [f8,List.length_set] at h2;omega
  fro:=fun b hb _=>if_neg (Nat.ne_of_lt hb)
theorem zx {x:Full} {w':World} {t k n e:Nat} {cur:Array Value} (hg:Good x) (ht:x.st.T[t]? = some n) (hn:n < k) (h:Grown x.w w' (.cells cur e (0,0))):Good (f8 x w' t k):=by
  have hs:=um hg ht hn h
  have ht':=(List.getElem?_eq_some_iff.1 ht).1
  constructor
  · intro i cs' t' hi
    obtain ⟨us,h1,h2,h3⟩:=hg.box i cs' t' hi
    have hb:=(Array.getElem?_eq_some_iff.1 h1).1
    refine ⟨us,(h.old hb).trans h1,h2.mono hs,?_⟩
    simp only [f8,if_neg (Nat.ne_of_lt hb)]
    exact h3
  · exact hg.inj
  · intro u m b hu hb
    simp only [f8,List.length_set] at hu hb ⊢
    by_cases hut:u = t
    · subst hut
      rw [if_pos rfl] at hb
      injection hb with hb
      subst hb
      refine ⟨by rw [h.heap];simp,by rw [if_pos rfl];exact Nat.zero_le _,fun i hi=>Nat.ne_of_lt (hg.box_lt hi),fun v hv he=>?_⟩
      split at he
      · assumption
      · have:=hg.tag_lt hv he
        omega
    · rw [List.getElem?_set_ne (fun e=>hut e.symm)] at hu
      rw [if_neg hut] at hb
      obtain ⟨h1,h2,h3,h4⟩:=hg.tag u m b hu hb
      refine ⟨Nat.lt_of_lt_of_le h1 h.size,by rw [if_neg (Nat.ne_of_lt h1)];exact h2,h3,fun v hv he=>?_⟩
      split at he
      · injection he with he
        omega
      · exact h4 v hv he
  · intro i es hi
    exact (hg.map i es hi).le (h.old (hg.map i es hi).lt) hs.le
  · exact hg.mapinj
  · intro u b i hu hb hi
    simp only [f8,List.length_set] at hu hb
    split at hb
    · injection hb with hb
      have:=hg.map_lt (show i < x.st.M.length from hi)
      simp only [f8]
      omega
    · exact hg.tmap u b i hu hb hi
  · intro i hi
    exact ⟨by simp only [f8,if_neg (Nat.ne_of_lt (hg.map_lt hi))];exact (hg.mp i hi).1,(hg.mp i hi).2⟩
theorem yh {z:Full} {g e sz n cap t k:Nat} {cur:Array Value} {ds:List DV} {vs:List Value} (hb:z.w.heap[g]? = some (.cells cur e (0,0))) (hp:ds.all jb9 = true) (hr:RepDs z ds vs) (hv:cur.toList.take (n * sz) = vs) (hl:vs.length = n * sz) (hn:n ≤ cap) (hc:cap ≤ maxLen) (hs:cur.size = cap * sz)
    (hF:z.F g = 0) (ht:z.st.T[t]? = some k) (hk:k = ds.length) (hpt:z.pt t = some g):RepB z (.fresh e sz t ds n) (.slice (some ⟨g,0,none⟩) n cap):=by
  subst hk
  refine .fresh e sz _ ds n ds.length _ ⟨_,_,rfl,hn⟩ hp ht (Nat.le_refl _) (fun _=>.inl ⟨hpt.symm,fun b hb'=>?_,vs,⟨hl,.inr ⟨_,cap,cur,rfl,Nat.zero_le _,hb,hn,hc,hs,hv⟩⟩,hr⟩)
  rw [hpt] at hb'
  rw [← Option.some.inj hb']
  exact hF
theorem jen {P:Program} {x:Full} (hg:Good x) {t e ty sz by' m:Nat} {i:TypeInfo} {zv:Value} (ht:P.underlying t = some (.slice e)) (hi:P.info? e = some i) (hz:i.zero = some zv) (hsz:i.size = sz) (hby:i.bytes = by') (hzs:zv.cells.size = sz) (hpos:0 < sz)
    {tg k:Nat} {cs:List DV} {v u:Value} {ys:List DV} (hb:RepB x (.fresh e sz tg cs k) v) (hy:RepD x (.sl ys m) u) (hys:ys.length = m * sz) (hm:m ≠ 0) (hyf:ys.all jb9 = true) (c1:(k + m) * by' ≤ 140737488355328) (c2:k + m ≤ maxLen) (c3:x.st.T[tg]? = some cs.length) :
    ∃ v' z,(Builtin.append_ #[t,t] ty #[v,u]).run P x.w = .ok v' z.w ∧ z.st = ⟨x.st.S,x.st.T.set tg (cs ++ ys).length,x.st.M⟩ ∧ Good z ∧ Step [] [] x z ∧ RepB z (.fresh e sz tg (cs ++ ys) (k + m)) v':=by
  subst hsz hby
  obtain ⟨a,c,us,rfl,l1,l2,l3,l4⟩:∃ a c us,u = .slice (some a) m c ∧ us.length = m * i.size ∧(∀ j q,us[j]? = some q → x.w.cell? (a.add j) = some q) ∧(∀ q ∈ us,q.oneCell' = true) ∧ RepDs x ys us:=by
    cases hy with
    | nil=>exact absurd rfl hm
    | emp=>exact absurd rfl hm
    | sl bb off _ cap _ us h1 h2 h3 h4 h5=>exact ⟨⟨bb,off,none⟩,cap,us,rfl,by rw [← h5.length,hys],fun j q hq=>by rw [sf];exact (h4 j q hq).2,ua h5 h3,h5⟩
  have hsmall:k + m ≤ 9223372036854775807:=by simp only [maxLen] at c2;omega
  have hgrows:cs.length <(cs ++ ys).length:=by
    rw [List.length_append,hys]
    have:0 < m * i.size:=Nat.mul_pos (by omega) hpos
    omega
  have htl:=(List.getElem?_eq_some_iff.1 c3).1
  cases hb with
  | fresh _ _ _ _ _ kk _ hv hp hk hle ho =>
  have hkk:kk = cs.length:=Option.some.inj (hk.symm.trans c3)
  have first:∀ base,cs = [] → k = 0 → v = .slice base 0 0 → ∃ v' z,(Builtin.append_ #[t,t] ty #[v,.slice (some a) m c]).run P x.w = .ok v' z.w ∧ z.st = ⟨x.st.S,x.st.T.set tg (cs ++ ys).length,x.st.M⟩ ∧ Good z ∧ Step [] [] x z ∧ RepB z (.fresh e i.size tg (cs ++ ys) (k + m)) v':=by
    intro base e1 e2 e3
    subst e1 e2 e3
    have hgrows':(([]:List DV).length) < ys.length:=by simpa using hgrows
    have fin:∀ w',(Builtin.append_ #[t,t] ty #[.slice base 0 0,.slice (some a) m c]).run P x.w = .ok (.slice (some ⟨x.w.heap.size,0,none⟩) m (grownCap x.w m 0 e)) w' → w' = x.w.drew.alloc (.cells (us.toArray ++ Builtin.zeroCells zv.cells (grownCap x.w m 0 e - m)) e) →
        ∃ v' z,(Builtin.append_ #[t,t] ty #[.slice base 0 0,.slice (some a) m c]).run P x.w = .ok v' z.w ∧ z.st = ⟨x.st.S,x.st.T.set tg ([] ++ ys).length,x.st.M⟩ ∧ Good z ∧ Step [] [] x z ∧ RepB z (.fresh e i.size tg ([] ++ ys) (0 + m)) v':=by
      intro w' hr hw
      subst hw
      have hge:=grownCap_ge x.w m 0 e
      have hgr:=jh x.w (.cells (us.toArray ++ Builtin.zeroCells zv.cells (grownCap x.w m 0 e - m)) e)
      have hst:=um (k:=ys.length) hg c3 hgrows' hgr
      refine ⟨_,f8 x _ tg ys.length,hr,by simp [f8],zx hg c3 hgrows' hgr,hst,?_⟩
      have hrep:=yh (z:=f8 x _ tg ys.length) (t:=tg) (sz:=i.size) (n:=m) (cap:=grownCap x.w m 0 e) (ds:=ys) (vs:=us) (k:=ys.length) hgr.new hyf (l4.mono hst.le) (by have:=mw (olds:=[]) (news:=us) (z:=zv.cells) (n:=0) (m:=m) (sz:=i.size) (k:=grownCap x.w m 0 e - m) (by simp) l1;simpa using this) l1 hge (grownCap_le_maxLen x.w m 0 e (by simpa using c2))
        (by have:=mu (olds:=[]) (news:=us) (z:=zv.cells) (n:=0) (m:=m) (sz:=i.size) (cap:=grownCap x.w m 0 e) (by simp) l1 hzs (by omega);simpa using this)
        (by simp [f8]) (by simp [f8,htl]) rfl (by simp [f8])
      rw [List.nil_append,Nat.zero_add]
      exact hrep
    cases base with
    | none=>exact fin _ (run_append_nil (P:=P) x.w t ty e i zv ht hi hz a m c us l1 l2 (by omega) (by omega) (by simp only [Nat.zero_add] at c1;omega)) rfl
    | some b0 =>
      have hr:=run_append_grow (P:=P) x.w t ty e i zv ht hi hz b0 0 0 [] (by simp) (fun j q hq=>by simp at hq) a m c us l1 l2 (by omega) (by omega) (growslice_fits (by omega) c1)
      refine fin _ ?_ rfl
      simpa using hr
  rcases ho hkk with ⟨o1,o0,vs,o2,o3⟩|⟨o1,e1,e2,base,e3⟩
  case inr=>exact first base e1 e2 e3
  have hl:=o2.1
  rcases o2.2 with ⟨e3,hk0⟩|⟨g,cap,cur,e3,_,hgg,hnc,hcm,hcs',htake⟩
  · refine first none ?_ hk0 e3
    have hvs:vs = []:=List.eq_nil_of_length_eq_zero (by rw [hl,hk0,Nat.zero_mul])
    subst hvs
    exact List.eq_nil_of_length_eq_zero (by simpa using o3.length)
  · subst e3
    have hpt:x.pt tg = some g:=by rw [← o1];rfl
    by_cases hroom:k + m ≤ cap
    · have hfit:k * i.size + us.length ≤ cur.size:=by rw [l1,hcs',← Nat.add_mul];exact Nat.mul_le_mul_right _ hroom
      have hr:=run_append_room (P:=P) x.w t ty e i ht hi g k cap cur hgg a m c us l1 l2 l3 hroom hfit
      have htn:=kq (w:=x.w) (cur:=(cur.toList.take (k * i.size) ++ us ++ cur.toList.drop (k * i.size + us.length)).toArray) hgg
      have hst:=vh hg c3 hpt hgrows (o0 g hpt) htn
      refine ⟨_,kg x _ tg (cs ++ ys).length,hr,rfl,jc0 hg c3 hpt hgrows (o0 g hpt) htn,hst,?_⟩
      refine yh (z:=kg x _ tg (cs ++ ys).length) (vs:=vs ++ us) (k:=(cs ++ ys).length) htn.new (jgc hp hyf) ((o3.append l4).mono hst.le) ?_ (by rw [List.length_append,hl,l1,Nat.add_mul]) hroom hcm ?_ (o0 g hpt) (by simp [kg,htl]) rfl hpt
      · rw [List.toList_toArray,htake,Nat.add_mul,← hl,← l1,← List.length_append]
        exact List.take_left
      · simp only [List.size_toArray,List.length_append,List.length_take,List.length_drop,Array.length_toList]
        omega
    · have hr:=run_append_grow (P:=P) x.w t ty e i zv ht hi hz ⟨g,0,none⟩ k cap vs hl (fun j q hq=>by rw [sf,Nat.zero_add];exact sd hgg htake hq) a m c us l1 l2 (by omega) (by omega) (growslice_fits (by omega) c1)
      have hge:=grownCap_ge x.w (k + m) cap e
      have hgr:=jh x.w (.cells (vs.toArray ++ us.toArray ++ Builtin.zeroCells zv.cells (grownCap x.w (k + m) cap e - (k + m))) e)
      have hst:=um (k:=(cs ++ ys).length) hg c3 hgrows hgr
      refine ⟨_,f8 x _ tg (cs ++ ys).length,hr,rfl,zx hg c3 hgrows hgr,hst,?_⟩
      exact yh (z:=f8 x _ tg (cs ++ ys).length) (vs:=vs ++ us) (k:=(cs ++ ys).length) hgr.new (jgc hp hyf) ((o3.append l4).mono hst.le) (mw hl l1) (by rw [List.length_append,hl,l1,Nat.add_mul]) hge (grownCap_le_maxLen x.w (k + m) cap e c2)
        (mu hl l1 hzs hge) (by simp [f8]) (by simp [f8,htl]) rfl (by simp [f8])
section
variable {P:Program} {ok okm:Nat → Bool} {o:Oper} {ρ:Rg} {st:St} {Q:Rg → St → Prop} {x y i:Operand} {t:Nat}
theorem jiu {ag:Bool} {e sz by' tg n m:Nat} {zs:List BV} {cs ys:List DV} (ho:o.op = .call { callee:=.builtin .append,args:=#[x,y],argTypes:=#[t,t] }) (he:u9 P t = some (e,sz)) (ht:pi P e = some (ag,sz,zs)) (hb:jsw P e = some by')
    (hx:evB ρ x = some (.fresh e sz tg cs n)) (hy:(evB ρ y).bind mg = some (ys,m)) (hz:zs.length = sz) (h0:0 < sz) (hys:ys.length = m * sz) (hm:m ≠ 0) (hyf:ys.all jb9 = true) (h1:(n + m) * by' ≤ 140737488355328) (h2:n + m ≤ maxLen) (hT:st.T[tg]? = some cs.length)
    (hq:Q (ke ρ o.dst (.fresh e sz tg (cs ++ ys) (n + m))) ⟨st.S,st.T.set tg (cs ++ ys).length,st.M⟩):OpR P ok okm o ρ st Q:=by
  intro nt z a Kx e0 hg hr h4
  subst e0
  obtain ⟨g1,ti,g2,g3⟩:=jk he
  obtain ⟨d,i,zz,k1,k2,k3,_,k5,k6,_⟩:=gg ht
  obtain rfl:ti = i:=Option.some.inj (g2.symm.trans k2)
  subst g3
  have hzr:=gi (x:=z) k6
  have hzl:zz.cells.size = ti.size:=by rw [← Array.length_toList,← hzr.length,hz]
  obtain ⟨ti',g4,g5⟩:=Option.map_eq_some_iff.1 hb
  obtain rfl:ti = ti':=Option.some.inj (g2.symm.trans g4)
  obtain ⟨by0,hy1,hy2⟩:=Option.bind_eq_some_iff.1 hy
  obtain ⟨v',zf,r1,r2,r3,r4,r5⟩:=jen (ty:=o.type) hg g1 g2 k3 rfl g5 hzl h0 (hr.ev hx) (po hy2 (hr.ev hy1)) hys hm hyf h1 h2 hT
  have hrun:(execOp a.eval o).run P z.w = .ok (.value v') zf.w:=by
    obtain ⟨dst,op,type,pos,after,guard⟩:=o
    subst ho
    simp [execOp,resolve,invoke,builtin,r1]
  unfold Oper.wp
  rw [hrun]
  exact ⟨_,zf,[],[],rfl,r2 ▸ hq,r3,r4,by simp,by simp,(hr.step r4).put h4 r5⟩
theorem jaw {e sz id n:Nat} {j:Int} {k:IntKind} (ho:o.op = .indexAddr t x i) (he:u9 P t = some (e,sz)) (hx:evB ρ x = some (.d (.row id n))) (hi:fl ρ i = some (.int k j)) (h:0 ≤ j ∧ j < n) (hq:Q (ke ρ o.dst (.mp id (j.toNat * sz))) st):OpR P ok okm o ρ st Q:=by
  intro nt z c Kx h1 h2 h3 h4
  subst h1
  obtain ⟨g1,ti,g2,rfl⟩:=jk he
  have hv:=h3.ev hx
  generalize hw:c.eval x = v at hv
  have hiv:=mq h3 hi
  cases hv with
  | d _ _ hv=>cases hv with
    | row _ _ cap hid hc hm =>
      have hrun:(execOp c.eval o).run P z.w = .ok (.value (.pointer (some ⟨z.pm id,j.toNat * ti.size,none⟩))) z.w:=by
        obtain ⟨dst,op,type,pos,after,guard⟩:=o
        subst ho
        simp [execOp,hw,hiv,Instr.indexAt,asIntOf,fo g1,gp g2,h,u7]
      unfold Oper.wp
      rw [hrun]
      exact ⟨_,z,[],[],rfl,hq,h2,Step.refl _ _ _,by simp,by simp,h3.put h4 (.mp id _ hid)⟩
theorem jiv {ag:Bool} {sz id off:Nat} {z:List BV} {ds:List DV} {b:BV} (ho:o.op = .load t x) (ht:pi P t = some (ag,sz,z)) (hx:evB ρ x = some (.mp id off)) (hM:st.M[id]? = some (jem ds)) (hne:ds ≠ []) (hp:part ag sz off (ds.map .d) = some b) (hq:Q (ke ρ o.dst b) st):OpR P ok okm o ρ st Q:=by
  intro nt y c Kx h1 h2 h3 h4
  subst h1
  have hv:=h3.ev hx
  generalize hw:c.eval x = v at hv
  obtain ⟨vs,rest,tt,q1,q2⟩:=(h2.map id _ hM).2 (wc hne)
  rw [wb] at q2
  cases hv with
  | mp _ _ hid =>
    obtain ⟨u,hu,hub⟩:=v7 (x:=y) ht hp (RepBs.ofD q2) (y.pm id) 0
    have hu:=hu y.w (fun j u hu=>by
      have hj:=(List.getElem?_eq_some_iff.1 hu).1
      rw [Nat.zero_add]
      simp only [World.cell?,q1]
      simp [List.getElem?_append_left hj,hu])
    rw [Nat.zero_add] at hu
    have hrun:(execOp c.eval o).run P y.w = .ok (.value u) y.w:=by
      obtain ⟨dst,op,type,pos,after,guard⟩:=o
      subst ho
      simp [execOp,hw,hu]
    unfold Oper.wp
    rw [hrun]
    exact ⟨_,y,[],[],rfl,hq,h2,Step.refl _ _ _,by simp,by simp,h3.put h4 hub⟩
end
theorem yi {x:Full} {w':World} {id e:Nat} {es:List (Value × DV)} {cur:Array Value} (hg:Good x) (hid:id < x.st.M.length) (h:Turned x.w w' (x.pm id) cur e):Step [] [id] x (gh x w' id es) where
  os:=h.os
  tape:=h.tape
  output:=h.output
  size:=Nat.le_of_eq h.size.symm
  frame:=fun b _ _ h1 _=>h.old b (fun e=>h1 id (by simp) hid e.symm)
  keep:=fun b i u hi hc=>by
    refine ⟨hi,(kz (h.old b (fun e=>?_)) i).trans hc⟩
    subst e
    rw [(hg.mp id hid).1] at hi
    omega
  slen:=Nat.le_refl _
  ids:=fun _ _=>rfl
  fresh:=fun i h1 h2=>by simp only [gh] at h2;omega
  mlen:=by simp [gh]
  mids:=fun _ _=>rfl
  mfresh:=fun i h1 h2=>by simp only [gh,List.length_set] at h2;omega
  tags:=fun u k hu=>⟨k,hu,Nat.le_refl _,fun _=>⟨rfl,fun b hb=>⟨h.old b (fun e=>hg.tmap u b id (List.getElem?_eq_some_iff.1 hu).1 hb hid e.symm),rfl⟩⟩,.inl rfl⟩
  tfresh:=fun u b h1 h2=>by simp only [gh] at h2;omega
  fro:=fun _ _ _=>rfl
theorem jeo {x:Full} {w':World} {id e:Nat} {ds:List DV} {vs rest:List Value} (hg:Good x) (hid:id < x.st.M.length) (h:Turned x.w w' (x.pm id) (vs ++ rest).toArray e) (hne:ds ≠ []) (hr:RepDs x ds vs):Good (gh x w' id (jem ds)):=by
  have hs:=yi (es:=jem ds) hg hid h
  constructor
  · intro i cs t hi
    obtain ⟨us,h1,h2,h3⟩:=hg.box i cs t hi
    have hi':=(List.getElem?_eq_some_iff.1 hi).1
    exact ⟨us,(h.old _ (fun he=>hg.map_ne hid hi' he.symm)).trans h1,h2.mono hs,h3⟩
  · exact hg.inj
  · intro u k b hu hb
    obtain ⟨h1,h2,h3,h4⟩:=hg.tag u k b hu hb
    exact ⟨by simp only [gh];rw [h.size];exact h1,h2,h3,h4⟩
  · intro i es' hi
    simp only [gh,List.getElem?_set] at hi
    split at hi
    · rename_i e
      subst e
      obtain rfl:=Option.some.inj hi
      refine ⟨fun q=>absurd ((wc hne).symm.trans q) (by decide),fun _=>⟨vs,rest,_,h.new,?_⟩⟩
      rw [wb]
      exact hr.mono hs.le
    · rename_i e
      exact (hg.map i es' hi).le (h.old _ (fun he=>e (hg.mapinj i id (List.getElem?_eq_some_iff.1 hi).1 hid he).symm)) hs.le
  · intro i j hi hj e
    simp only [gh,List.length_set] at hi hj e
    exact hg.mapinj i j hi hj e
  · intro t b i ht hb hi
    simp only [gh,List.length_set] at hi
    exact hg.tmap t b i ht hb hi
  · intro i hi
    simp only [gh,List.length_set] at hi
    exact hg.mp i hi
theorem jgd {x:Full}:∀ {l:List DV} {vs:List Value},RepDs x l vs → ∀(i:Nat) {b:DV} {v:Value},RepD x b v → RepDs x (l.set i b) (vs.set i v)
  | _,_,.nil,i,_,_,_=>by simp;exact .nil
  | _,_,.cons y v l vs h hs,0,_,_,hb=>by simp only [List.set_cons_zero];exact .cons _ _ _ _ hb hs
  | _,_,.cons y v l vs h hs,i + 1,_,_,hb=>by simp only [List.set_cons_succ];exact .cons _ _ _ _ h (jgd hs i hb)
theorem jc1 {x:Full}:∀ {bs:List DV} {us:List Value},RepDs x bs us → ∀(off:Nat) {cs:List DV} {vs:List Value},RepDs x cs vs → RepDs x (mi off bs cs) (mi off us vs)
  | _,_,.nil,_,_,_,h=>h
  | _,_,.cons y v l vs h hs,off,cs,ws,hc=>by
    rw [mi,mi]
    exact jc1 hs (off + 1) (jgd hc off h)
theorem jax {α:Type}:∀(us:List α) (off:Nat) (vs rest:List α),off + us.length ≤ vs.length → mi off us (vs ++ rest) = mi off us vs ++ rest
  | [],_,_,_,_=>rfl
  | u :: us,off,vs,rest,h=>by
    simp only [List.length_cons] at h
    rw [mi,mi,List.set_append_left _ _ (by omega)]
    exact jax us (off + 1) _ rest (by rw [List.length_set];omega)
section
variable {P:Program} {ok okm:Nat → Bool} {o:Oper} {ρ:Rg} {st:St} {Q:Rg → St → Prop} {x v:Operand} {t:Nat}
theorem jiw {ag:Bool} {sz id off:Nat} {z:List BV} {ds ys:List DV} {b:BV} (ho:o.op = .store t x v) (ht:pi P t = some (ag,sz,z)) (hx:evB ρ x = some (.mp id off)) (hv:evB ρ v = some b) (hc:f6 b = true) (hd:jhc (dh b) = some ys) (hl:ys.length = sz)
    (hM:st.M[id]? = some (jem ds)) (hne:ds ≠ []) (hf:off + sz ≤ ds.length) (hok:okm id = true) (hq:Q (ke ρ o.dst (.tup [])) ⟨st.S,st.T,st.M.set id (jem (mi off ys ds))⟩):OpR P ok okm o ρ st Q:=by
  intro nt y a Kx h1 h2 h3 h4
  subst h1
  obtain ⟨d,i,zz,k1,k2,k3,_,k5,k6,_⟩:=gg ht
  subst k5
  have hrx:=h3.ev hx
  generalize hw:a.eval x = vx at hrx
  obtain ⟨vs,rest,tt,q1,q2⟩:=(h2.map id _ hM).2 (wc hne)
  rw [wb] at q2
  have hcell:=qv hc (h3.ev hv)
  have hcd:=v6 hd hcell
  cases hrx with
  | mp _ _ hid =>
    have hlen:=hcell.length
    have hl2:=hcd.length
    have hl3:=q2.length
    have hrun:=wt (P:=P) (t:=t) (off:=off) (v:=a.eval v) k2 q1 (by rw [← Array.length_toList];omega) (by rw [List.length_append];omega) (ub hcell (zk hc))
    have htn:=kq (w:=y.w) (cur:=(mi off (a.eval v).cells.toList (vs ++ rest)).toArray) q1
    rw [jax _ _ _ _ (by omega)] at htn
    have hne':mi off ys ds ≠ []:=fun e=>hne (List.eq_nil_of_length_eq_zero (by rw [← ri ys off ds,e];rfl))
    have hstep:=yi (es:=jem (mi off ys ds)) h2 hid htn
    have hrun':(execOp a.eval o).run P y.w = .ok .skip (y.w.setRow (y.pm id) (mi off (a.eval v).cells.toList vs ++ rest).toArray):=by
      obtain ⟨dst,op,type,pos,after,guard⟩:=o
      subst ho
      rw [← jax _ _ _ _ (by omega)]
      simp only [execOp,hw,Sem.run_bind,hrun,Result.andThen_ok,Sem.run_pure]
    unfold Oper.wp
    rw [hrun']
    exact ⟨_,gh y _ id _,[],[id],rfl,hq,jeo h2 hid htn hne' (jc1 hcd off q2),hstep,by simp,by simpa using fun _=>hok,(h3.step hstep).putW h4⟩
end
def em (y:Full) (t:Nat) (cs:List DV):Full :=
  ⟨⟨y.st.S,y.st.T.set t (cs.length + 1),y.st.M ++ [jem cs]⟩,y.pb,fun u=>if u = t then none else y.pt u,fun i=>if i = y.st.M.length then (y.pt t).getD 0 else y.pm i,y.F,y.w⟩
theorem jc2 {y:Full} {t g:Nat} {cs:List DV} (hT:y.st.T[t]? = some cs.length) (hp:y.pt t = some g):Step [] [] y (em y t cs) where
  os:=rfl
  tape:=rfl
  output:=rfl
  size:=Nat.le_refl _
  frame:=fun _ _ _ _ _=>rfl
  keep:=jfm.refl _ _
  slen:=Nat.le_refl _
  ids:=fun _ _=>rfl
  fresh:=fun i h1 h2=>by simp only [em] at h2;omega
  mlen:=by simp [em]
  mids:=fun i hi=>if_neg (Nat.ne_of_lt hi)
  mfresh:=fun i h1 h2=>by
    simp only [em,List.length_append,List.length_singleton] at h2 ⊢
    rw [if_pos (by omega)]
    exact .inr ⟨t,(List.getElem?_eq_some_iff.1 hT).1,by rw [hp];rfl⟩
  tags:=fun u m hu=>by
    have hu':=(List.getElem?_eq_some_iff.1 hu).1
    by_cases hut:u = t
    · subst hut
      have:m = cs.length:=Option.some.inj (hu.symm.trans hT)
      subst this
      exact ⟨cs.length + 1,by simp [em,hu'],Nat.le_succ _,fun e=>by omega,.inr (.inl (by simp [em]))⟩
    · exact ⟨m,by simp only [em];rw [List.getElem?_set_ne (fun e=>hut e.symm)];exact hu,Nat.le_refl _,fun _=>⟨by simp only [em,if_neg hut],fun b hb=>⟨rfl,rfl⟩⟩,.inl (by simp only [em,if_neg hut])⟩
  tfresh:=fun u b h1 h2=>by simp only [em,List.length_set] at h2;omega
  fro:=fun _ _ _=>rfl
theorem yj {y:Full} {e sz t n:Nat} {cs:List DV} {v:Value} (h:RepB y (.fresh e sz t cs n) v) (hT:y.st.T[t]? = some cs.length) (hne:cs ≠ []) :
    ∃ g cap cur vs,v = .slice (some ⟨g,0,none⟩) n cap ∧ y.pt t = some g ∧ y.F g = 0 ∧ n ≤ cap ∧ cap ≤ maxLen ∧ y.w.heap[g]? = some (.cells cur e (0,0)) ∧ RepDs y cs vs ∧ cur.toList.take (n * sz) = vs:=by
  cases h with
  | fresh _ _ _ _ _ k _ hv hp hk hle ho =>
    rcases ho (Option.some.inj (hk.symm.trans hT)) with ⟨o1,o0,vs,o2,o3⟩|⟨_,e1,_⟩
    case inr=>exact absurd e1 hne
    obtain ⟨hl,o2⟩:=o2
    rcases o2 with ⟨e3,hk0⟩|⟨g,cap,cur,e3,_,hgg,hnc,hcm,hcs',htake⟩
    · refine absurd (List.eq_nil_of_length_eq_zero ?_) hne
      rw [o3.length,hl,hk0,Nat.zero_mul]
    · subst e3
      have hpt:y.pt t = some g:=by rw [← o1];rfl
      exact ⟨g,cap,cur,vs,rfl,hpt,o0 g hpt,hnc,hcm,hgg,o3,htake⟩
theorem jc3 {y:Full} {e sz t n:Nat} {cs:List DV} {v:Value} (hg:Good y) (h:RepB y (.fresh e sz t cs n) v) (hT:y.st.T[t]? = some cs.length) (hne:cs ≠ []):Good (em y t cs) ∧ Step [] [] y (em y t cs):=by
  obtain ⟨g,cap,cur,vs,_,hp,hF,_,_,hh,hr,htk⟩:=yj h hT hne
  have hs:=jc2 (cs:=cs) hT hp
  have htl:=(List.getElem?_eq_some_iff.1 hT).1
  obtain ⟨g1,_,g3,g4⟩:=hg.tag t _ g hT hp
  have hD:(y.pt t).getD 0 = g:=by rw [hp];rfl
  refine ⟨?_,hs⟩
  constructor
  · intro i cs' t' hi
    obtain ⟨us,h1,h2,h3⟩:=hg.box i cs' t' hi
    exact ⟨us,h1,h2.mono hs,h3⟩
  · exact hg.inj
  · intro u m b hu hb
    simp only [em] at hu hb ⊢
    split at hb
    · cases hb
    · rename_i hut
      rw [List.getElem?_set_ne (fun e=>hut e.symm)] at hu
      obtain ⟨h1,h2,h3,h4⟩:=hg.tag u m b hu hb
      refine ⟨h1,h2,h3,fun w hw he=>?_⟩
      simp only [List.length_set] at hw
      split at he
      · cases he
      · exact h4 w hw he
  · intro id es hid
    simp only [em,List.getElem?_append] at hid
    split at hid
    · rename_i hlt
      simp only [em,if_neg (Nat.ne_of_lt hlt)]
      exact (hg.map id es hid).le rfl hs.le
    · rename_i hlt
      have hid0:id = y.st.M.length:=by
        have:=(List.getElem?_eq_some_iff.1 hid).1
        simp at this
        omega
      subst hid0
      simp only [Nat.sub_self,List.getElem?_cons_zero,Option.some.injEq] at hid
      subst hid
      refine ⟨fun q=>absurd ((wc hne).symm.trans q) (by decide),fun _=>⟨vs,cur.toList.drop (n * sz),e,?_,?_⟩⟩
      · simp only [em,if_pos,hD]
        rw [hh,← htk,List.take_append_drop]
      · rw [wb]
        exact hr.mono hs.le
  · intro i j hi hj e
    simp only [em,List.length_append,List.length_singleton] at hi hj e
    split at e <;> split at e
    · omega
    · rw [hD] at e
      exact absurd e.symm (hg.tmap t g j htl hp (by omega))
    · rw [hD] at e
      exact absurd e (hg.tmap t g i htl hp (by omega))
    · exact hg.mapinj i j (by omega) (by omega) e
  · intro u b i hu hb hi
    simp only [em,List.length_set,List.length_append,List.length_singleton] at hu hb hi ⊢
    split at hb
    · cases hb
    · rename_i hut
      split
      · rw [hD]
        exact fun e=>hut (g4 u hu (e ▸ hb))
      · exact hg.tmap u b i hu hb (by omega)
  · intro i hi
    simp only [em,List.length_append,List.length_singleton] at hi ⊢
    split
    · rw [hD]
      exact ⟨hF,g3⟩
    · exact hg.mp i (by omega)
theorem jep {y:Full} {e sz t n:Nat} {cs:List DV} {v:Value} (h:RepB y (.fresh e sz t cs n) v) (hT:y.st.T[t]? = some cs.length) (hne:cs ≠ []):RepB (em y t cs) (.d (.row y.st.M.length n)) v:=by
  obtain ⟨g,cap,cur,vs,rfl,hp,hF,hc,hm,hh,hr,htk⟩:=yj h hT hne
  have:=RepD.row (x:=em y t cs) y.st.M.length n cap (by simp [em]) hc hm
  have hD:(y.pt t).getD 0 = g:=by rw [hp];rfl
  have e1:(em y t cs).pm y.st.M.length = g:=by simp only [em,if_pos,hD]
  rw [e1] at this
  exact .d _ _ this
theorem zy {y:Full} {e sz t n:Nat} {v:Value} (h:RepB y (.fresh e sz t [] n) v) (hT:y.st.T[t]? = some 0) (hsz:0 < sz):n = 0 ∧ RepB y (.d (.sl [] 0)) v:=by
  cases h with
  | fresh _ _ _ _ _ k _ hv hp hk hle ho =>
    rcases ho (Option.some.inj (hk.symm.trans hT)) with ⟨o1,o0,vs,o2,o3⟩|⟨_,_,e2,base,e3⟩
    · obtain ⟨hl,o2⟩:=o2
      have hn:n = 0:=by
        have:=o3.length
        rw [hl,List.length_nil] at this
        rcases Nat.mul_eq_zero.1 this.symm with h|h <;> omega
      subst hn
      refine ⟨rfl,?_⟩
      rcases o2 with ⟨rfl,_⟩|⟨g,cap,cur,rfl,_,hgg,hnc,hcm,_⟩
      · exact .d _ _ .nil
      · exact .d _ _ (.emp _ _ hcm)
    · subst e2 e3
      refine ⟨rfl,?_⟩
      cases base with
      | none=>exact .d _ _ .nil
      | some a=>exact .d _ _ (.emp _ _ (Nat.zero_le _))
def jay (T:List Nat) (M:List (List (Value × DV))) (tg:Nat) (cs:List DV) (n:Nat) (T':List Nat) (M':List (List (Value × DV))) (dv:DV):Prop :=
  (cs = [] ∧ n = 0 ∧ T' = T ∧ M' = M ∧ dv = .sl [] 0) ∨(cs ≠ [] ∧ T' = T.set tg (cs.length + 1) ∧ M' = M ++ [jem cs] ∧ dv = .row M.length n)
section
variable {C:Cx} {c:Code} {ρ:Rg} {S:List (List BV × Nat)} {T X:List Nat} {M:List (List (Value × DV))} {Q:nl}
theorem jmz {y:Full} {e sz tg n:Nat} {cs:List DV} {v:Value} (hy:y.st = ⟨S,T,M⟩) (hg:Good y) (h:RepB y (.fresh e sz tg cs n) v) (hT:T[tg]? = some cs.length) (hsz:0 < sz) :
    ∃ z T' M' dv,jay T M tg cs n T' M' dv ∧ z.w = y.w ∧ z.st = ⟨S,T',M'⟩ ∧ Good z ∧ Step [] [] y z ∧ ∀ v,RepB y (.fresh e sz tg cs n) v → RepB z (.d dv) v:=by
  have eT:y.st.T = T:=by rw [hy]
  have eM:y.st.M = M:=by rw [hy]
  have eS:y.st.S = S:=by rw [hy]
  by_cases hne:cs = []
  · subst hne
    have hn:=(zy h (by rw [eT];exact hT) hsz).1
    exact ⟨y,T,M,_,.inl ⟨rfl,hn,rfl,rfl,rfl⟩,rfl,hy,hg,Step.refl _ _ _,fun v hv=>(zy hv (by rw [eT];exact hT) hsz).2⟩
  · obtain ⟨g1,g2⟩:=jc3 hg h (by rw [eT];exact hT) hne
    refine ⟨em y tg cs,_,_,_,.inr ⟨hne,rfl,rfl,rfl⟩,rfl,?_,g1,g2,fun v hv=>?_⟩
    · simp only [em,eT,eM,eS]
    · rw [← eM]
      exact jep hv (by rw [eT];exact hT) hne
theorem jho {e sz tg n:Nat} {cs:List DV} (d:Nat) (hd:ρ d = some (.fresh e sz tg cs n)) (hT:T[tg]? = some cs.length) (hsz:0 < sz)
    (h:∀ T' M' dv,jay T M tg cs n T' M' dv → Tri C c (upd ρ d (.d dv)) ⟨S,T',M'⟩ Q):Tri C c ρ ⟨S,T,M⟩ Q:=by
  intro x y a h1 h1m h2 h3 h4 h5 K hK
  obtain ⟨z,T',M',dv,q1,q2,q3,q4,q5,q6⟩:=jmz h3 h4 (h5.reg _ _ hd) hT hsz
  have:=h T' M' dv q1 x z a h1 h1m (h2.trans' q5 (fun i hi _=>by cases hi) (fun i hi _=>by cases hi)) q3 q4 ⟨h5.defers,h5.size,fun t v ht=>?_⟩ K hK
  · rw [q2] at this
    exact this
  · simp only [upd] at ht
    split at ht
    · rename_i e0
      subst e0
      obtain rfl:=Option.some.inj ht
      exact q6 _ (h5.reg _ _ hd)
    · exact (h5.reg t v ht).mono q5
theorem jaz {e sz tg n id j ty:Nat} {cs:List DV} {bs:List BV} (hid:S[id]? = some (bs,ty)) (hj:bs[j]? = some (.fresh e sz tg cs n)) (hT:T[tg]? = some cs.length) (hsz:0 < sz)
    (h:∀ T' M' dv,jay T M tg cs n T' M' dv → Tri C c ρ ⟨S.set id (bs.set j (.d dv),ty),T',M'⟩ Q):Tri C c ρ ⟨S,T,M⟩ Q:=by
  intro x y a h1 h1m h2 h3 h4 h5 K hK
  have hS:y.st.S = S:=by rw [h3]
  obtain ⟨us,u1,u2,_⟩:=h4.box id bs ty (by rw [hS];exact hid)
  obtain ⟨v,v1,v2⟩:=u2.get hj
  obtain ⟨z,T',M',dv,q1,q2,q3,q4,q5,q6⟩:=jmz h3 h4 v2 hT hsz
  have eS:z.st.S = S:=by rw [q3]
  have hid1:z.st.S[id]? = some (bs,ty):=by rw [eS];exact hid
  obtain ⟨us',u1',u2',u3'⟩:=q4.box id bs ty hid1
  have hus:us' = us:=by
    have:z.pb id = y.pb id:=q5.ids id (by rw [hS];exact (List.getElem?_eq_some_iff.1 hid).1)
    rw [q2,this,u1] at u1'
    simpa using u1'.symm
  have g2:Good (ka z id (bs.set j (.d dv),ty)):=by
    have hs:=me z id (bs.set j (.d dv),ty)
    have hset:RepBs z (bs.set j (.d dv)) us':=by
      subst hus
      exact u2'.setAt fun v' hv'=>by
        obtain rfl:=Option.some.inj (hv'.symm.trans v1)
        exact q6 _ v2
    exact ql q4 hid1 fun ws hw _=>by
      rw [u1'] at hw
      have:us' = ws:=by simpa using hw
      exact this ▸ hset
  have hst:=q5.trans (me z id (bs.set j (.d dv),ty))
  have:=h T' M' dv q1 x _ a h1 h1m (h2.trans' hst (fun i hi _=>by cases hi) (fun i hi _=>by cases hi)) ?_ g2 ⟨h5.defers,h5.size,fun t v ht=>(h5.reg t v ht).mono hst⟩ K hK
  · show c.wp C.P K a y.w
    have e:(ka z id (bs.set j (.d dv),ty)).w = y.w:=q2
    rw [e] at this
    exact this
  · show (⟨z.st.S.set id _,z.st.T,z.st.M⟩:St) = _
    rw [q3]
theorem vi {x:Full} (e sz:Nat) {v:Value} (h:RepB x (.tight [] 0) v):RepB (et x) (.fresh e sz x.st.T.length [] 0) v:=by
  cases h with
  | tight _ _ base h=>exact .fresh e sz _ [] 0 0 _ ⟨base,0,rfl,Nat.le_refl _⟩ rfl (by simp [et]) (Nat.le_refl _) (fun _=>.inr ⟨by simp [et],rfl,rfl,base,rfl⟩)
theorem jix (d e sz:Nat) {nt:Nat} (hT:T.length = nt) (hd:ρ d = some (.tight [] 0)) (h:Tri C c (upd ρ d (.fresh e sz (nt + X.length) [] 0)) ⟨S,T ++(X ++ [0]),M⟩ Q):Tri C c ρ ⟨S,T ++ X,M⟩ Q:=by
  intro x y a h1 h1m h2 h3 h4 h5 K hK
  have hT':y.st.T.length = nt + X.length:=by rw [h3,← hT];exact List.length_append
  refine h x (et y) a h1 h1m (h2.trans' (fw y) (fun i hi _=>by cases hi) (fun i hi _=>by cases hi)) (by simp only [et];rw [h3,List.append_assoc]) (k8 h4) ⟨h5.defers,h5.size,fun t v ht=>?_⟩ K hK
  simp only [upd] at ht
  split at ht
  · rename_i e0
    subst e0
    obtain rfl:=Option.some.inj ht
    rw [← hT']
    exact vi e sz (h5.reg _ _ hd)
  · exact (h5.reg t v ht).mono (fw y)
theorem jc4 {id ty j:Nat} {cs:List BV} (e sz:Nat) (hid:S[id]? = some (cs,ty)) (hj:cs[j]? = some (.tight [] 0))
    (h:Tri C c ρ ⟨S.set id (cs.set j (.fresh e sz T.length [] 0),ty),T ++ [0],M⟩ Q):Tri C c ρ ⟨S,T,M⟩ Q:=by
  intro x y a h1 h1m h2 h3 h4 h5 K hK
  have hS:y.st.S = S:=by rw [h3]
  have hT:y.st.T = T:=by rw [h3]
  have hM:y.st.M = M:=by rw [h3]
  have g1:=k8 h4
  have hid1:(et y).st.S[id]? = some (cs,ty):=by
    show y.st.S[id]? = _
    rw [hS]
    exact hid
  obtain ⟨us,u1,u2,_⟩:=h4.box id cs ty (by rw [hS];exact hid)
  have g2:Good (ka (et y) id (cs.set j (.fresh e sz T.length [] 0),ty)):=ql g1 hid1 fun ws hw _=>by
    have hw':y.w.heap[y.pb id]? = some (.cells ws.toArray ty (0,0)):=hw
    rw [u1] at hw'
    have:us = ws:=by simpa using hw'
    subst this
    refine (u2.mono (fw y)).setAt fun v hv=>?_
    obtain ⟨w,hw1,hw2⟩:=u2.get hj
    obtain rfl:=Option.some.inj (hv.symm.trans hw1)
    rw [← hT]
    exact vi e sz hw2
  have hst:=(fw y).trans (me (et y) id (cs.set j (.fresh e sz T.length [] 0),ty))
  refine h x _ a h1 h1m (h2.trans' hst (fun i hi _=>by cases hi) (fun i hi _=>by cases hi)) ?_ g2 ⟨h5.defers,h5.size,fun t v ht=>(h5.reg t v ht).mono hst⟩ K hK
  show (⟨y.st.S.set id _,y.st.T ++ [0],y.st.M⟩:St) = _
  rw [hS,hT,hM]
end
end Go.Proofs.YtinffhimfoicdaaGreat.Calc
