/- Texts of the claim, merged: SA, SB, SD, SC, SE, SF, Calc12. No conditions. -/
import Derived.Test.YtinffhimfoicdaaGreatPq7
import Derived.Test.YtinffhimfoicdaaGreatPq3
import Derived.Test.YtinffhimfoicdaaGreatPq4
import Derived.Test.YtinffhimfoicdaaGreatPq1
namespace Go.Proofs.YtinffhimfoicdaaGreat
open Go Go.RowKit Go.Proofs.YtinffhimfoicdaaGreat.Calc
set_option linter.unusedVariables false
set_option linter.unusedSimpArgs false
set_option maxRecDepth 100000
set_option maxHeartbeats 8000000
attribute [local irreducible] Tri ew er ci bn db d7 inQ jb
def StR (L:List Wd) (s s':Ws) (r:BV):Prop:=GW L s s' ∧(s'.bad = 0 → s.loc < s'.loc) ∧ ∃ x,r = vSm x ∧ BSm x ∧(s'.bad = 0 → gm x ≤ 2 *(s'.loc - s.loc))
def BlR (L:List Wd) (s s':Ws) (r:BV):Prop:=GW L s s' ∧(s'.bad = 0 → s.loc < s'.loc) ∧ ∃ l,r = .d (eq l) ∧ vu l ∧(s'.bad = 0 → d5 l ≤ 2 *(s'.loc - s.loc))
def jv1 (L:List Wd) (N:Int) (D:Int):Prop:=∀(s:Ws) (c:Bool),s.deep = D → s.loc ≤ L.length → WC L N s 105 [vB c] (StR L s)
def jtd (L:List Wd) (N:Int) (D:Int):Prop:=∀(s:Ws) (c:Bool),s.deep = D → s.loc ≤ L.length → WC L N s 78 [vB c] (BlR L s)
theorem z6 (e:Sm):∀ l:List Sm,d5 (l ++ [e]) = d5 l + gm e
  | []=>by simp only [List.nil_append,d5];omega
  | x :: l=>by rw [List.cons_append,d5,d5,z6 e l];omega
theorem jdf {e:Sm} (he:BSm e):∀ {l:List Sm},vu l → vu (l ++ [e])
  | [],h=>by rw [List.nil_append,vu];exact ⟨he,h⟩
  | x :: l,h=>by
    rw [vu] at h
    rw [List.cons_append,vu]
    exact ⟨h.1,jdf he h.2⟩
theorem jrp (l:List Sm):jb5 [BV.d (DV.sl (l.flatMap nh) l.length)] = .d (eq l):=by rw [← g8];rfl
theorem dk:vu []:=by rw [vu];trivial
def muW (L:List Wd) (s:Ws):Nat:=if s.bad = 0 then L.length + 2 - s.loc else 0
theorem jov {L:List Wd} {s s':Ws} (h0:s.bad = 0) (h1:s.loc ≤ L.length) (h:s'.bad = 0 → s.loc < s'.loc):muW L s' < muW L s:=by
  unfold muW
  rw [if_pos h0]
  split
  · rename_i hb
    have:=h hb
    omega
  · omega
theorem jgn (L:List Wd) (N:Int) (hL:L.length ≤ 8000) (hW:∀ w ∈ L,w.text.size ≤ 1000000) (D:Int) (hD0:0 ≤ D) (hD1:D ≤ 41) (hs:D ≤ 40 → jv1 L N (D + 1)):jtd L N D:=by
  intro s c hsd hl
  have hd0:0 ≤ s.deep:=by omega
  have hd1:s.deep ≤ 41:=by omega
  intro S T M id hid
  have hlt:=(List.getElem?_eq_some_iff.1 hid).1
  refine am [id] [] Tryz.func78 rfl Tryz.ntmps78 Tryz.results78 ?_
  repeat' (first|apply ab|(apply V;rfl;(first|(apply bl;rfl)|(apply bg;rfl)|(apply cb;(apply plT;rfl);rfl;rfl;decide)|(apply bz;(apply tyT;rfl);rfl;(apply aq;assumption);rfl)|(apply ck;rfl)|(apply cg;rfl)|(apply az;rfl;rfl;rfl;omega)))|(apply Vp;rfl;rfl;apply fnT;rfl;apply (jdd (L:=L) (s:=s) (text:=⟨#[123]⟩));assumption;omega;(first|(apply aa;assumption)|(apply aq;assumption));rintro _ ⟨(_|_),rfl,hi_⟩)|(apply Vc;rfl;rfl;apply fnT;rfl;apply (jjg (L:=L) (s:=s));decide;assumption;assumption;(first|(apply aa;assumption)|(apply aq;assumption));(intro i_ hi_ _;obtain rfl:=List.mem_singleton.1 hi_;(apply bm;simp));(intro i_ hi_;cases hi_);rintro _ _ ⟨s2,rfl,hd2,hb2,hz2,rfl⟩ <;>(first|rw [au (by assumption)]|rw [ax (by assumption)]|skip))|(apply Vc;rfl;rfl;apply fnT;rfl;apply (jll (L:=L) (s:=s));assumption;assumption;assumption;assumption;(first|(apply aa;assumption)|(apply aq;assumption));(intro i_ hi_ _;obtain rfl:=List.mem_singleton.1 hi_;(apply bm;simp));(intro i_ hi_;cases hi_);rintro _ _ ⟨s3,rfl,ho1,(⟨rfl,ho2,ho3,ho4⟩|⟨rfl,ho2,ho3⟩)⟩ <;>(first|rw [au (by assumption)]|rw [ax (by assumption)]|skip))|(apply Vs;rfl;(apply jm;(apply tyT;rfl);rfl;rfl;assumption;(apply bm;simp);rfl;rfl;(first|decide|(apply Nat.le_of_ble_eq_true;rfl))))|(apply ac;rfl)|apply ak|apply aj|apply ah|apply ai|(apply ae;rfl)|(apply af;rfl)|(apply fm _ (.inr rfl);(exact List.prefix_append _ _);(focus repeat (first|apply a8|(apply a9;rfl)));rfl;(first|(apply aq;assumption)|(apply aa;assumption));rfl;rfl)|apply ap|apply aw)
  · exact ⟨s2,rfl,⟨by omega,by omega,by omega,fun h=>absurd h hz2⟩,fun h=>absurd h hz2,[],rfl,dk,fun h=>absurd h hz2⟩
  · have hb0:=(ki (hi_.1 rfl)).2
    have hlx:=(ki (hi_.1 rfl)).1
    refine gc 5 126 9 rfl rfl ?_
    refine cx (fun k:Ws × List Sm=>muW L k.1) (fun k=>[(0,.ptr id 0),(1,vB c),(5,.own 126 9 (T.length + 0) (k.2.flatMap nh) k.2.length)]) (fun k S1 T1=>S1[id]? = some (jet L N k.1,105) ∧ S.length ≤ S1.length ∧ T <+: T1 ∧ T1[T.length + 0]? = some (k.2.flatMap nh).length ∧ k.1.loc ≤ L.length ∧ k.2.length ≤ 8001 ∧(k.1.bad = 0 → s.loc + 1 + k.2.length ≤ k.1.loc) ∧ s.loc + 1 ≤ k.1.loc ∧ k.1.deep = D + 1 ∧ vu k.2 ∧(k.1.bad = 0 → d5 k.2 + 2 *(s.loc + 1) ≤ 2 * k.1.loc)) (⟨s3.loc + 1,s3.bad,s3.whr,s3.deep,s3.late,s3.lateAt⟩,[]) ⟨aq hlt,by simp,by simp,at_ rfl rfl,by dsimp only;omega,Nat.zero_le _,fun _=>by dsimp only [List.length_nil];omega,by dsimp only;omega,by dsimp only;omega,dk,fun _=>by rw [d5];dsimp only;omega⟩ ⟨rfl,rfl,rfl,trivial⟩ ?_
    rintro ⟨s4,l⟩ S1 T1 ⟨hb,hS,hT,hTg,hl4,hn4,hl5,hl6,hd4,hB,hz⟩
    dsimp only at hb hTg hl4 hn4 hl5 hl6 hd4 hB hz ⊢
    have hlt1:id < S1.length:=by omega
    have h00:T.length ≤ T.length + 0:=Nat.le_refl _
    cases c
    all_goals
      repeat' (first|apply ab|(apply V;rfl;(first|(apply bl;rfl)|(apply bg;rfl)|(apply cb;(apply plT;rfl);rfl;rfl;decide)|(apply bz;(apply tyT;rfl);rfl;(first|(apply aa;assumption)|(apply aq;assumption));rfl)|(apply bq;(apply elT;rfl);rfl;rfl)|(apply ck;rfl)|(apply ca;rfl;rfl)|(apply bu;rfl;rfl)|(apply cg;rfl)|(apply ei;rfl;rfl;rfl;omega)))|(apply Vp;rfl;rfl;apply fnT;rfl;apply (jdd (L:=L) (s:=s4) (text:=⟨#[125]⟩));assumption;omega;(first|(apply aa;assumption)|(apply aq;assumption));rintro _ ⟨(_|_),rfl,hj_⟩)|(apply Vc;rfl;rfl;apply fnT;rfl;apply (hs (by omega) s4 _ (by omega) (by omega));(first|(apply aa;assumption)|(apply aq;assumption));(intro i_ hi_ _;obtain rfl:=List.mem_singleton.1 hi_;(apply bm;simp));(intro i_ hi_;cases hi_);rintro _ _ ⟨s5,rfl,⟨hg1,hg2,hg3,hg4⟩,hpr,⟨k_,n_,ty_,na_,e_,a_,b_,c_,nth_⟩,rfl,hBe,hze⟩ <;>(first|rw [au (by assumption)]|rw [ax (by assumption)]|skip))|(apply Vc;rfl;rfl;apply fnT;rfl;apply (rh (L:=L) (s:=s4) (text:=⟨#[125]⟩));assumption;omega;(first|(apply aa;assumption)|(apply aq;assumption));(intro i_ hi_ _;obtain rfl:=List.mem_singleton.1 hi_;(apply bm;simp));(intro i_ hi_;cases hi_);rintro _ _ ⟨s7,rfl,hls7,hds7,rfl,hcs7⟩ <;>(first|rw [au (by assumption)]|rw [ax (by assumption)]|skip))|(apply Vd;rfl;(apply dq;rfl;rfl);all_goals intro h_)|(apply Vo;rfl)|(apply Vw;rfl;(first|(apply d8;rfl;(apply elT;rfl);(apply tyT;rfl);rfl;decide;rfl;rfl)|(apply mf;(apply elT;rfl);(apply tyT;rfl);(apply byT;rfl);rfl;rfl;rfl;decide;rfl;(apply ee (f:=nh) (c:=Sm.mk k_ n_ ty_ na_ e_ a_ b_ c_ nth_);omega;omega;assumption))))|(apply Vs;rfl;(apply jm;(apply tyT;rfl);rfl;rfl;assumption;(apply bm;simp);rfl;rfl;(first|decide|(apply Nat.le_of_ble_eq_true;rfl))))|(apply ac;rfl)|apply ak|(apply al;rfl)|apply aj|apply ah|apply bd|apply ai|(apply ae;rfl)|(apply af;rfl)|(apply fm _ (.inr rfl);(apply av;assumption);(focus repeat (first|apply a8|(apply a9;rfl)));rfl;(first|(apply aq;assumption)|(apply aa;assumption));rfl;rfl)|apply ap|apply ey|apply cq|apply bo)
      all_goals first
        |(refine ⟨(s5,l ++ [Sm.mk k_ n_ ty_ na_ e_ a_ b_ c_ nth_]),_,_,jov (by assumption) hl4 hpr,⟨aq hlt1,by simpa using hS,av (dc hT h00),aq (List.getElem?_eq_some_iff.1 hTg).1,hg2,?_,?_,?_,by dsimp only;omega,jdf hBe hB,?_⟩,⟨rfl,rfl,rfl,trivial⟩,rfl⟩;(simp only [List.length_append,List.length_singleton];have:=hl5 (by assumption);omega);(intro h;simp only [List.length_append,List.length_singleton];have h1:=hl5 (by assumption);have h2:=hpr h;omega);(dsimp only;omega);(intro h;rw [z6];have h1:=hz (by assumption);have h2:=hze h;have h3:=hpr h;dsimp only;omega))
        | exact ⟨⟨s7.loc,s7.bad,s7.whr,s7.deep - 1,s7.late,s7.lateAt⟩,rfl,⟨by dsimp only;omega,by dsimp only;omega,by dsimp only;omega,fun _=>hb0⟩,fun _=>by dsimp only;omega,l,jrp l,hB,fun h=>by dsimp only at h ⊢;have h4:s4.bad = 0:=(by omega);have:=hz h4;omega⟩
        | skip
  · exact ⟨s3,rfl,⟨by omega,by omega,by omega,fun h=>absurd h ho3⟩,fun h=>absurd h ho3,[],rfl,dk,fun h=>absurd h ho3⟩
end Go.Proofs.YtinffhimfoicdaaGreat
namespace Go.Proofs.YtinffhimfoicdaaGreat
open Go Go.RowKit Go.Proofs.YtinffhimfoicdaaGreat.Calc
set_option linter.unusedVariables false
set_option linter.unusedSimpArgs false
set_option maxRecDepth 100000
set_option maxHeartbeats 8000000
attribute [local irreducible] Tri ew er ci bn db d7 inQ jb
def AsR (L:List Wd) (s s':Ws) (r:BV):Prop:=GW L s s' ∧(s'.bad = 0 → s.loc < s'.loc) ∧ ∃ l,r = .d (qg l) ∧ rz l ∧(s'.bad = 0 → jf l + 1 ≤ 2 *(s'.loc - s.loc))
def jxg (L:List Wd) (N:Int) (D:Int):Prop:=∀ s:Ws,s.deep = D → s.loc ≤ L.length → WC L N s 129 [] (AsR L s)
theorem jgo (L:List Wd) (N:Int) (hL:L.length ≤ 8000) (D:Int) (hx:jou L N D):jxg L N D:=by
  intro s hsd hl
  intro S T M id hid
  have hlt:=(List.getElem?_eq_some_iff.1 hid).1
  refine am [id] [] Tryz.func129 rfl Tryz.ntmps129 Tryz.results129 ?_
  repeat' (first|apply ab|(apply V;rfl;(first|(apply bj;(apply tyT;rfl);rfl;(apply at_;exact List.length_set;rfl);rfl)|(apply bl;rfl)|(apply bg;rfl)))|(apply Vw;rfl;(apply cd;exact List.length_set;(apply tyT;rfl)))|(apply Vs;rfl;(apply bw;exact List.length_set;(apply tyT;rfl);rfl;rfl;rfl;(first|apply bc|(apply bh;omega));rfl;rfl;(first|decide|(apply Nat.le_of_ble_eq_true;rfl))))|(apply fm _ (.inr rfl);(exact List.prefix_append _ _);(focus repeat (first|apply a8|(apply a9;rfl)|(apply cp;exact List.length_set;rfl;apply tyT;rfl;rfl;rfl)));rfl;(first|(apply aq;assumption)|(apply aa;assumption));rfl;rfl)|(apply Vc;rfl;rfl;apply fnT;rfl;apply (rh (L:=L) (s:=s) (text:=⟨#[40]⟩));assumption;omega;(first|(apply aa;assumption)|(apply aq;assumption));(intro i_ hi_ _;obtain rfl:=List.mem_singleton.1 hi_;(apply bm;simp));(intro i_ hi_;cases hi_);rintro _ _ ⟨s1,rfl,hls1,hds1,rfl,hcs1⟩ <;>(first|rw [au (by assumption)]|rw [ax (by assumption)]|skip))|(apply Vc;rfl;rfl;apply fnT;rfl;apply (hx s1 (by omega) (by omega));(first|(apply aa;assumption)|(apply aq;assumption));(intro i_ hi_ _;obtain rfl:=List.mem_singleton.1 hi_;(apply bm;simp));(intro i_ hi_;cases hi_);rintro _ _ ⟨s2,rfl,⟨hgs2,hls2,hds2,hbs2⟩,hps2,⟨ks2,ns2,ts2,nas2,tys2,ls2,os2,nths2⟩,rfl,hBs2,hzs2⟩ <;>(first|rw [au (by assumption)]|rw [ax (by assumption)]|skip))|(apply Vc;rfl;rfl;apply fnT;rfl;apply (rh (L:=L) (s:=s2) (text:=⟨#[41]⟩));assumption;omega;(first|(apply aa;assumption)|(apply aq;assumption));(intro i_ hi_ _;obtain rfl:=List.mem_singleton.1 hi_;(apply bm;simp));(intro i_ hi_;cases hi_);rintro _ _ ⟨s3,rfl,hls3,hds3,rfl,hcs3⟩ <;>(first|rw [au (by assumption)]|rw [ax (by assumption)]|skip))|(apply Vw;rfl;(apply d8;rfl;(apply elT;rfl);(apply tyT;rfl);rfl;decide;rfl;rfl))|(apply ac;rfl)|apply ai)
  exact ⟨s3,rfl,⟨by omega,by omega,by omega,fun h=>by omega⟩,fun h=>by omega,[(.mk ks2 ns2 ts2 nas2 tys2 ls2 os2 nths2)],rfl,kj hBs2,fun h=>by have h2:s2.bad = 0:=(by omega);have:=hzs2 h2;have:=hps2 h2;rw [gv];omega⟩
theorem gt {k n:Int} {ty nm:ByteArray} {e:List Ex} {a b c:List Sm} {nth:Int}:gm (.mk k n ty nm e a b c nth) = 1 + jf e + d5 a + d5 b + d5 c:=by rw [gm]
theorem kc {k n:Int} {ty nm:ByteArray} {e:List Ex} {a b c:List Sm} {nth:Int} (h1:ty.size ≤ 1000000) (h2:nm.size ≤ 1000000) (h3:rz e) (h4:vu a) (h5:vu b) (h6:vu c):BSm (.mk k n ty nm e a b c nth):=by
  rw [BSm]
  exact ⟨h1,h2,h3,h4,h5,h6⟩
theorem fv:d5 [] = 0:=by rw [d5]
theorem jjm (L:List Wd) (N:Int) (hL:L.length ≤ 8000) (hW:∀ w ∈ L,w.text.size ≤ 1000000) (D:Int) (hD0:1 ≤ D) (hD1:D ≤ 41) (hx:jou L N D) (hq:jxg L N D) (ha:jqa L N (D - 1)) (hb:jtd L N D):jv1 L N D:=by
  intro s c hsd hl
  intro S T M id hid
  have hlt:=(List.getElem?_eq_some_iff.1 hid).1
  refine am [id] [] Tryz.func105 rfl Tryz.ntmps105 Tryz.results105 ?_
  repeat' (first|apply ab|(apply V;rfl;(first|(apply bl;rfl)|(apply bg;rfl)|(apply ca;rfl;rfl)|(apply bu;rfl;rfl)))|(apply Vp;rfl;rfl;apply fnT;rfl;apply (jrj (L:=L) (s:=s));assumption;omega;(first|(apply aa;assumption)|(apply aq;assumption));rintro _ ⟨wh_,rfl⟩)|(show Tri _ (.seq (.region 11 _ _) _) _ _ _;apply ju (fun ρ st=>st = ⟨S ++ [([.d (dI 0),.d (dN 0),.d (dS ⟨#[]⟩),.d (dS ⟨#[]⟩),.tight [] 0,.tight [] 0,.tight [] 0,.tight [] 0,.d (dI 0)],126),([.d (dI 0),.d (dN 0),.d (dS ⟨#[]⟩),.d (dS ⟨#[]⟩),.tight [] 0,.tight [] 0,.tight [] 0,.tight [] 0,.d (dI 0)],126)],T ++ [],M⟩ ∧ ∃ b,ng ρ [(0,.ptr id 0),(1,vB c),(4,.ptr (S.length + 0) 0),(5,vI wh_),(6,.ptr (S.length + 1) 0),(36,vB b)]))|(apply Vp;rfl;rfl;apply fnT;rfl;apply (jd1 (L:=L) (s:=s) (more:=0) (kind:=1));assumption;omega;omega;(first|(apply aa;assumption)|(apply aq;assumption));rintro _ ⟨(_|_),rfl,hi_⟩)|(apply Vp;rfl;rfl;apply fnT;rfl;apply (jri (L:=L) (s:=s) (more:=0));assumption;assumption;omega;omega;(first|(apply aa;assumption)|(apply aq;assumption));rintro _ ⟨(_|_),rfl,hj_⟩)|(apply Vp;rfl;rfl;apply fnT;rfl;apply (jd1 (L:=L) (s:=s) (more:=1) (kind:=1));assumption;omega;omega;(first|(apply aa;assumption)|(apply aq;assumption));rintro _ ⟨(_|_),rfl,hk_⟩)|(apply Vo;rfl)|(apply Vw;rfl;(apply cd;rfl;(apply tyT;rfl)))|(apply ac;rfl)|apply ak|(apply al;rfl)|apply aj|apply ap)
  all_goals first
    | exact ⟨rfl,true,rfl,rfl,rfl,rfl,rfl,rfl,trivial⟩
    | exact ⟨rfl,false,rfl,rfl,rfl,rfl,rfl,rfl,trivial⟩
    | skip
  rintro ρ st ⟨rfl,b,hR⟩
  refine c9 (dt hR) ?_
  clear hR
  cases b
  case true =>
    repeat' (first|apply ab|(apply V;rfl;(first|(apply bj;(apply tyT;rfl);rfl;(apply at_;exact List.length_set;rfl);rfl)|(apply bl;rfl)|(apply cb;(apply plT;rfl);rfl;rfl;decide)|(apply ed;(apply plT;rfl);rfl)))|(apply Vs;rfl;(apply bw;exact List.length_set;(apply tyT;rfl);rfl;rfl;rfl;(first|apply bc|(apply bh;omega));rfl;rfl;(first|decide|(apply Nat.le_of_ble_eq_true;rfl))))|(apply fm _ (.inr rfl);(exact List.prefix_append _ _);(focus repeat (first|apply a8|(apply a9;rfl)|(apply cp;exact List.length_set;rfl;apply tyT;rfl;rfl;rfl)));rfl;(first|(apply aq;assumption)|(apply aa;assumption));rfl;rfl)|(apply Vc;rfl;rfl;apply fnT;rfl;apply (jvz (L:=L) (s:=s));assumption;assumption;omega;(first|(apply aa;assumption)|(apply aq;assumption));(intro i_ hi_ _;obtain rfl:=List.mem_singleton.1 hi_;(apply bm;simp));(intro i_ hi_;cases hi_);rintro _ _ ⟨s1,rfl,⟨hls1,hds1,hcs1⟩,ts1,rfl,hts1⟩ <;>(first|rw [au (by assumption)]|rw [ax (by assumption)]|skip))|(apply Vc;rfl;rfl;apply fnT;rfl;apply (jlm (L:=L) (s:=s1));assumption;assumption;omega;(first|(apply aa;assumption)|(apply aq;assumption));(intro i_ hi_ _;obtain rfl:=List.mem_singleton.1 hi_;(apply bm;simp));(intro i_ hi_;cases hi_);rintro _ _ ⟨s2,rfl,⟨hls2,hds2,hcs2⟩,ts2,rfl,hts2⟩ <;>(first|rw [au (by assumption)]|rw [ax (by assumption)]|skip))|(apply Vc;rfl;rfl;apply fnT;rfl;apply (rh (L:=L) (s:=s2) (text:=⟨#[61]⟩));assumption;omega;(first|(apply aa;assumption)|(apply aq;assumption));(intro i_ hi_ _;obtain rfl:=List.mem_singleton.1 hi_;(apply bm;simp));(intro i_ hi_;cases hi_);rintro _ _ ⟨s3,rfl,hls3,hds3,rfl,hcs3⟩ <;>(first|rw [au (by assumption)]|rw [ax (by assumption)]|skip))|(apply Vc;rfl;rfl;apply fnT;rfl;apply (hx s3 (by omega) (by omega));(first|(apply aa;assumption)|(apply aq;assumption));(intro i_ hi_ _;obtain rfl:=List.mem_singleton.1 hi_;(apply bm;simp));(intro i_ hi_;cases hi_);rintro _ _ ⟨s4,rfl,⟨hgs4,hls4,hds4,hbs4⟩,hps4,⟨ks4,ns4,ts4,nas4,tys4,ls4,os4,nths4⟩,rfl,hBs4,hzs4⟩ <;>(first|rw [au (by assumption)]|rw [ax (by assumption)]|skip))|(apply Vc;rfl;rfl;apply fnT;rfl;apply (rh (L:=L) (s:=s4) (text:=⟨#[59]⟩));assumption;omega;(first|(apply aa;assumption)|(apply aq;assumption));(intro i_ hi_ _;obtain rfl:=List.mem_singleton.1 hi_;(apply bm;simp));(intro i_ hi_;cases hi_);rintro _ _ ⟨s5,rfl,hls5,hds5,rfl,hcs5⟩ <;>(first|rw [au (by assumption)]|rw [ax (by assumption)]|skip))|(apply Vw;rfl;(apply d8;rfl;(apply elT;rfl);(apply tyT;rfl);rfl;decide;rfl;rfl))|(apply ac;rfl)|(apply al;rfl)|apply ai|(apply ae;rfl)|apply ap|apply cq)
    all_goals exact ⟨s5,rfl,⟨by omega,by omega,by omega,fun h=>by omega⟩,fun h=>by omega,.mk 1 0 ts1 ts2 [(.mk ks4 ns4 ts4 nas4 tys4 ls4 os4 nths4)] [] [] [] 0,rfl,kc (hts1) (hts2) (kj hBs4) (dk) (dk) (dk),fun h=>by rw [gt];simp only [fv,f9,gv,jz];have hs4:s4.bad = 0:=(by omega);have:=hzs4 hs4;have:=hps4 hs4;omega⟩
  repeat' (first|apply ab|(apply V;rfl;(first|(apply bj;(apply tyT;rfl);rfl;(apply at_;exact List.length_set;rfl);rfl)|(apply bz;(apply tyT;rfl);rfl;(apply at_;exact List.length_set;rfl);rfl)|(apply az;rfl;rfl;rfl;omega)|(apply bl;rfl)|(apply bg;rfl)|(apply cb;(apply plT;rfl);rfl;rfl;decide)|(apply bz;(apply tyT;rfl);rfl;(apply aq;assumption);rfl)|(apply ck;rfl)|(apply ca;rfl;rfl)|(apply bu;rfl;rfl)|(apply cg;rfl)|(apply ed;(apply plT;rfl);rfl)|(apply az;rfl;rfl;rfl;omega)|(apply ei;rfl;rfl;rfl;omega)))|(show Tri _ (.seq (.region 50 _ _) _) _ _ _;cases c)|(show Tri _ (.seq (.region 21 _ _) _) _ _ _;refine c9 (ρ':=rg [(0,.ptr id 0),(1,vB c),(4,.ptr (S.length + 0) 0),(5,vI wh_),(6,.ptr (S.length + 1) 0)]) (dt ⟨rfl,rfl,rfl,rfl,rfl,trivial⟩) ?_;apply ac;rfl)|(show Tri _ (.seq (.region 23 _ _) _) _ _ _;refine c9 (ρ':=rg [(0,.ptr id 0),(1,vB c),(4,.ptr (S.length + 0) 0),(5,vI wh_),(6,.ptr (S.length + 1) 0)]) (dt ⟨rfl,rfl,rfl,rfl,rfl,trivial⟩) ?_;apply ac;rfl)|(show Tri _ (.seq (.region 27 _ _) _) _ _ _;refine c9 (ρ':=rg [(0,.ptr id 0),(1,vB c),(4,.ptr (S.length + 0) 0),(5,vI wh_),(6,.ptr (S.length + 1) 0)]) (dt ⟨rfl,rfl,rfl,rfl,rfl,trivial⟩) ?_;apply ac;rfl)|(show Tri _ (.seq (.region 29 _ _) _) _ _ _;refine c9 (ρ':=rg [(0,.ptr id 0),(1,vB c),(4,.ptr (S.length + 0) 0),(5,vI wh_),(6,.ptr (S.length + 1) 0)]) (dt ⟨rfl,rfl,rfl,rfl,rfl,trivial⟩) ?_;apply ac;rfl)|(show Tri _ (.seq (.region 32 _ _) _) _ _ _;refine c9 (ρ':=rg [(0,.ptr id 0),(1,vB c),(4,.ptr (S.length + 0) 0),(5,vI wh_),(6,.ptr (S.length + 1) 0)]) (dt ⟨rfl,rfl,rfl,rfl,rfl,trivial⟩) ?_;apply ac;rfl)|(show Tri _ (.seq (.region 34 _ _) _) _ _ _;refine c9 (ρ':=rg [(0,.ptr id 0),(1,vB c),(4,.ptr (S.length + 0) 0),(5,vI wh_),(6,.ptr (S.length + 1) 0)]) (dt ⟨rfl,rfl,rfl,rfl,rfl,trivial⟩) ?_;apply ac;rfl)|(show Tri _ (.seq (.region 45 _ _) _) _ _ _;refine c9 (ρ':=rg [(0,.ptr id 0),(1,vB c),(4,.ptr (S.length + 0) 0),(5,vI wh_),(6,.ptr (S.length + 1) 0)]) (dt ⟨rfl,rfl,rfl,rfl,rfl,trivial⟩) ?_;apply ac;rfl)|(show Tri _ (.seq (.region 3 _ _) _) _ _ _;refine c9 (ρ':=rg [(0,.ptr id 0),(1,vB c),(4,.ptr (S.length + 0) 0),(5,vI wh_),(6,.ptr (S.length + 1) 0)]) (dt ⟨rfl,rfl,rfl,rfl,rfl,trivial⟩) ?_;apply ac;rfl)|(show Tri _ (.seq (.region 52 _ _) _) _ _ _;refine c9 (ρ':=rg [(0,.ptr id 0),(1,vB c),(4,.ptr (S.length + 0) 0),(5,vI wh_),(6,.ptr (S.length + 1) 0)]) (dt ⟨rfl,rfl,rfl,rfl,rfl,trivial⟩) ?_;apply ac;rfl)|(apply Vw;rfl;(apply cd;exact List.length_set;(apply tyT;rfl)))|(apply Vs;rfl;(apply bw;exact List.length_set;(apply tyT;rfl);rfl;rfl;rfl;(first|apply bc|(apply bh;omega));rfl;rfl;(first|decide|(apply Nat.le_of_ble_eq_true;rfl))))|(apply oS;rfl;rfl;(apply bw;exact List.length_set;(apply tyT;rfl);rfl;rfl;rfl;(first|(apply jl;rfl)|(apply mb;omega;rfl));rfl;rfl;(first|decide|(apply Nat.le_of_ble_eq_true;rfl))))|(apply fm _ (.inr rfl);(exact List.prefix_append _ _);(focus repeat (first|apply a8|(apply a9;rfl)|(apply cp;exact List.length_set;rfl;apply tyT;rfl;rfl;rfl)));rfl;(first|(apply aq;assumption)|(apply aa;assumption));rfl;rfl)|(apply Vc;rfl;rfl;apply fnT;rfl;apply (vm (L:=L) (s:=s) (text:=⟨#[105,102]⟩));assumption;omega;(first|(apply aa;assumption)|(apply aq;assumption));(intro i_ hi_ _;obtain rfl:=List.mem_singleton.1 hi_;(apply bm;simp));(intro i_ hi_;cases hi_);rintro _ _ ⟨s1,rfl,hds1,hbs1,hls1,(⟨rfl,hcs1,hzs1⟩|⟨rfl,hcs1⟩)⟩ <;>(first|rw [au (by assumption)]|rw [ax (by assumption)]|skip))|(apply Vc;rfl;rfl;apply fnT;rfl;apply (hq s1 (by omega) (by omega));(first|(apply aa;assumption)|(apply aq;assumption));(intro i_ hi_ _;obtain rfl:=List.mem_singleton.1 hi_;(apply bm;simp));(intro i_ hi_;cases hi_);rintro _ _ ⟨s2,rfl,⟨hgs2,hls2,hds2,hbs2⟩,hps2,ls2,rfl,hBs2,hzs2⟩ <;>(first|rw [au (by assumption)]|rw [ax (by assumption)]|skip))|(apply Vc;rfl;rfl;apply fnT;rfl;apply (hb s2 false (by omega) (by omega));(first|(apply aa;assumption)|(apply aq;assumption));(intro i_ hi_ _;obtain rfl:=List.mem_singleton.1 hi_;(apply bm;simp));(intro i_ hi_;cases hi_);rintro _ _ ⟨s3,rfl,⟨hgs3,hls3,hds3,hbs3⟩,hps3,ls3,rfl,hBs3,hzs3⟩ <;>(first|rw [au (by assumption)]|rw [ax (by assumption)]|skip))|(apply Vc;rfl;rfl;apply fnT;rfl;apply (vm (L:=L) (s:=s3) (text:=⟨#[101,108,115,101]⟩));assumption;omega;(first|(apply aa;assumption)|(apply aq;assumption));(intro i_ hi_ _;obtain rfl:=List.mem_singleton.1 hi_;(apply bm;simp));(intro i_ hi_;cases hi_);rintro _ _ ⟨s4,rfl,hds4,hbs4,hls4,(⟨rfl,hcs4,hzs4⟩|⟨rfl,hcs4⟩)⟩ <;>(first|rw [au (by assumption)]|rw [ax (by assumption)]|skip))|(apply Vc;rfl;rfl;apply fnT;rfl;apply (hb s4 false (by omega) (by omega));(first|(apply aa;assumption)|(apply aq;assumption));(intro i_ hi_ _;obtain rfl:=List.mem_singleton.1 hi_;(apply bm;simp));(intro i_ hi_;cases hi_);rintro _ _ ⟨s5,rfl,⟨hgs5,hls5,hds5,hbs5⟩,hps5,ls5,rfl,hBs5,hzs5⟩ <;>(first|rw [au (by assumption)]|rw [ax (by assumption)]|skip))|(apply Vc;rfl;rfl;apply fnT;rfl;apply (vm (L:=L) (s:=s1) (text:=⟨#[119,104,105,108,101]⟩));assumption;omega;(first|(apply aa;assumption)|(apply aq;assumption));(intro i_ hi_ _;obtain rfl:=List.mem_singleton.1 hi_;(apply bm;simp));(intro i_ hi_;cases hi_);rintro _ _ ⟨s6,rfl,hds6,hbs6,hls6,(⟨rfl,hcs6,hzs6⟩|⟨rfl,hcs6⟩)⟩ <;>(first|rw [au (by assumption)]|rw [ax (by assumption)]|skip))|(apply Vc;rfl;rfl;apply fnT;rfl;apply (hq s6 (by omega) (by omega));(first|(apply aa;assumption)|(apply aq;assumption));(intro i_ hi_ _;obtain rfl:=List.mem_singleton.1 hi_;(apply bm;simp));(intro i_ hi_;cases hi_);rintro _ _ ⟨s7,rfl,⟨hgs7,hls7,hds7,hbs7⟩,hps7,ls7,rfl,hBs7,hzs7⟩ <;>(first|rw [au (by assumption)]|rw [ax (by assumption)]|skip))|(apply Vc;rfl;rfl;apply fnT;rfl;apply (hb s7 false (by omega) (by omega));(first|(apply aa;assumption)|(apply aq;assumption));(intro i_ hi_ _;obtain rfl:=List.mem_singleton.1 hi_;(apply bm;simp));(intro i_ hi_;cases hi_);rintro _ _ ⟨s8,rfl,⟨hgs8,hls8,hds8,hbs8⟩,hps8,ls8,rfl,hBs8,hzs8⟩ <;>(first|rw [au (by assumption)]|rw [ax (by assumption)]|skip))|(apply Vc;rfl;rfl;apply fnT;rfl;apply (vm (L:=L) (s:=s6) (text:=⟨#[114,101,116,117,114,110]⟩));assumption;omega;(first|(apply aa;assumption)|(apply aq;assumption));(intro i_ hi_ _;obtain rfl:=List.mem_singleton.1 hi_;(apply bm;simp));(intro i_ hi_;cases hi_);rintro _ _ ⟨s9,rfl,hds9,hbs9,hls9,(⟨rfl,hcs9,hzs9⟩|⟨rfl,hcs9⟩)⟩ <;>(first|rw [au (by assumption)]|rw [ax (by assumption)]|skip))|(apply Vp;rfl;rfl;apply fnT;rfl;apply (jdd (L:=L) (s:=s9) (text:=⟨#[59]⟩));assumption;omega;(first|(apply aa;assumption)|(apply aq;assumption));rintro _ ⟨(_|_),rfl,hr9⟩)|(apply Vc;rfl;rfl;apply fnT;rfl;apply (hx s9 (by omega) (by omega));(first|(apply aa;assumption)|(apply aq;assumption));(intro i_ hi_ _;obtain rfl:=List.mem_singleton.1 hi_;(apply bm;simp));(intro i_ hi_;cases hi_);rintro _ _ ⟨s10,rfl,⟨hgs10,hls10,hds10,hbs10⟩,hps10,⟨ks10,ns10,ts10,nas10,tys10,ls10,os10,nths10⟩,rfl,hBs10,hzs10⟩ <;>(first|rw [au (by assumption)]|rw [ax (by assumption)]|skip))|(apply Vc;rfl;rfl;apply fnT;rfl;apply (rh (L:=L) (s:=s10) (text:=⟨#[59]⟩));assumption;omega;(first|(apply aa;assumption)|(apply aq;assumption));(intro i_ hi_ _;obtain rfl:=List.mem_singleton.1 hi_;(apply bm;simp));(intro i_ hi_;cases hi_);rintro _ _ ⟨s11,rfl,hls11,hds11,rfl,hcs11⟩ <;>(first|rw [au (by assumption)]|rw [ax (by assumption)]|skip))|(apply Vc;rfl;rfl;apply fnT;rfl;apply (rh (L:=L) (s:=s9) (text:=⟨#[59]⟩));assumption;omega;(first|(apply aa;assumption)|(apply aq;assumption));(intro i_ hi_ _;obtain rfl:=List.mem_singleton.1 hi_;(apply bm;simp));(intro i_ hi_;cases hi_);rintro _ _ ⟨s12,rfl,hls12,hds12,rfl,hcs12⟩ <;>(first|rw [au (by assumption)]|rw [ax (by assumption)]|skip))|(apply Vc;rfl;rfl;apply fnT;rfl;apply (vm (L:=L) (s:=s9) (text:=⟨#[112,114,105,110,116]⟩));assumption;omega;(first|(apply aa;assumption)|(apply aq;assumption));(intro i_ hi_ _;obtain rfl:=List.mem_singleton.1 hi_;(apply bm;simp));(intro i_ hi_;cases hi_);rintro _ _ ⟨s13,rfl,hds13,hbs13,hls13,(⟨rfl,hcs13,hzs13⟩|⟨rfl,hcs13⟩)⟩ <;>(first|rw [au (by assumption)]|rw [ax (by assumption)]|skip))|(apply Vc;rfl;rfl;apply fnT;rfl;apply (hx s13 (by omega) (by omega));(first|(apply aa;assumption)|(apply aq;assumption));(intro i_ hi_ _;obtain rfl:=List.mem_singleton.1 hi_;(apply bm;simp));(intro i_ hi_;cases hi_);rintro _ _ ⟨s14,rfl,⟨hgs14,hls14,hds14,hbs14⟩,hps14,⟨ks14,ns14,ts14,nas14,tys14,ls14,os14,nths14⟩,rfl,hBs14,hzs14⟩ <;>(first|rw [au (by assumption)]|rw [ax (by assumption)]|skip))|(apply Vc;rfl;rfl;apply fnT;rfl;apply (rh (L:=L) (s:=s14) (text:=⟨#[59]⟩));assumption;omega;(first|(apply aa;assumption)|(apply aq;assumption));(intro i_ hi_ _;obtain rfl:=List.mem_singleton.1 hi_;(apply bm;simp));(intro i_ hi_;cases hi_);rintro _ _ ⟨s15,rfl,hls15,hds15,rfl,hcs15⟩ <;>(first|rw [au (by assumption)]|rw [ax (by assumption)]|skip))|(apply Vc;rfl;rfl;apply fnT;rfl;apply (vm (L:=L) (s:=s13) (text:=⟨#[97,115,115,101,114,116]⟩));assumption;omega;(first|(apply aa;assumption)|(apply aq;assumption));(intro i_ hi_ _;obtain rfl:=List.mem_singleton.1 hi_;(apply bm;simp));(intro i_ hi_;cases hi_);rintro _ _ ⟨s16,rfl,hds16,hbs16,hls16,(⟨rfl,hcs16,hzs16⟩|⟨rfl,hcs16⟩)⟩ <;>(first|rw [au (by assumption)]|rw [ax (by assumption)]|skip))|(apply Vc;rfl;rfl;apply fnT;rfl;apply (jrn (L:=L) (s:=s16));assumption;assumption;omega;(first|(apply aa;assumption)|(apply aq;assumption));(intro i_ hi_ _;obtain rfl:=List.mem_singleton.1 hi_;(apply bm;simp));(intro i_ hi_;cases hi_);rintro _ _ ⟨s17,rfl,⟨hls17,hds17,hcs17⟩,n17,rfl⟩ <;>(first|rw [au (by assumption)]|rw [ax (by assumption)]|skip))|(apply Vc;rfl;rfl;apply fnT;rfl;apply (hx s17 (by omega) (by omega));(first|(apply aa;assumption)|(apply aq;assumption));(intro i_ hi_ _;obtain rfl:=List.mem_singleton.1 hi_;(apply bm;simp));(intro i_ hi_;cases hi_);rintro _ _ ⟨s18,rfl,⟨hgs18,hls18,hds18,hbs18⟩,hps18,⟨ks18,ns18,ts18,nas18,tys18,ls18,os18,nths18⟩,rfl,hBs18,hzs18⟩ <;>(first|rw [au (by assumption)]|rw [ax (by assumption)]|skip))|(apply Vc;rfl;rfl;apply fnT;rfl;apply (rh (L:=L) (s:=s18) (text:=⟨#[59]⟩));assumption;omega;(first|(apply aa;assumption)|(apply aq;assumption));(intro i_ hi_ _;obtain rfl:=List.mem_singleton.1 hi_;(apply bm;simp));(intro i_ hi_;cases hi_);rintro _ _ ⟨s19,rfl,hls19,hds19,rfl,hcs19⟩ <;>(first|rw [au (by assumption)]|rw [ax (by assumption)]|skip))|(apply Vc;rfl;rfl;apply fnT;rfl;apply (vm (L:=L) (s:=s16) (text:=⟨#[116,104,114,111,119]⟩));assumption;omega;(first|(apply aa;assumption)|(apply aq;assumption));(intro i_ hi_ _;obtain rfl:=List.mem_singleton.1 hi_;(apply bm;simp));(intro i_ hi_;cases hi_);rintro _ _ ⟨s20,rfl,hds20,hbs20,hls20,(⟨rfl,hcs20,hzs20⟩|⟨rfl,hcs20⟩)⟩ <;>(first|rw [au (by assumption)]|rw [ax (by assumption)]|skip))|(apply Vc;rfl;rfl;apply fnT;rfl;apply (hx s20 (by omega) (by omega));(first|(apply aa;assumption)|(apply aq;assumption));(intro i_ hi_ _;obtain rfl:=List.mem_singleton.1 hi_;(apply bm;simp));(intro i_ hi_;cases hi_);rintro _ _ ⟨s21,rfl,⟨hgs21,hls21,hds21,hbs21⟩,hps21,⟨ks21,ns21,ts21,nas21,tys21,ls21,os21,nths21⟩,rfl,hBs21,hzs21⟩ <;>(first|rw [au (by assumption)]|rw [ax (by assumption)]|skip))|(apply Vc;rfl;rfl;apply fnT;rfl;apply (rh (L:=L) (s:=s21) (text:=⟨#[59]⟩));assumption;omega;(first|(apply aa;assumption)|(apply aq;assumption));(intro i_ hi_ _;obtain rfl:=List.mem_singleton.1 hi_;(apply bm;simp));(intro i_ hi_;cases hi_);rintro _ _ ⟨s22,rfl,hls22,hds22,rfl,hcs22⟩ <;>(first|rw [au (by assumption)]|rw [ax (by assumption)]|skip))|(apply Vc;rfl;rfl;apply fnT;rfl;apply (vm (L:=L) (s:=s20) (text:=⟨#[116,114,121]⟩));assumption;omega;(first|(apply aa;assumption)|(apply aq;assumption));(intro i_ hi_ _;obtain rfl:=List.mem_singleton.1 hi_;(apply bm;simp));(intro i_ hi_;cases hi_);rintro _ _ ⟨s23,rfl,hds23,hbs23,hls23,(⟨rfl,hcs23,hzs23⟩|⟨rfl,hcs23⟩)⟩ <;>(first|rw [au (by assumption)]|rw [ax (by assumption)]|skip))|(apply Vc;rfl;rfl;apply fnT;rfl;apply (hb s23 false (by omega) (by omega));(first|(apply aa;assumption)|(apply aq;assumption));(intro i_ hi_ _;obtain rfl:=List.mem_singleton.1 hi_;(apply bm;simp));(intro i_ hi_;cases hi_);rintro _ _ ⟨s24,rfl,⟨hgs24,hls24,hds24,hbs24⟩,hps24,ls24,rfl,hBs24,hzs24⟩ <;>(first|rw [au (by assumption)]|rw [ax (by assumption)]|skip))|(apply Vc;rfl;rfl;apply fnT;rfl;apply (rh (L:=L) (s:=s24) (text:=⟨#[99,97,116,99,104]⟩));assumption;omega;(first|(apply aa;assumption)|(apply aq;assumption));(intro i_ hi_ _;obtain rfl:=List.mem_singleton.1 hi_;(apply bm;simp));(intro i_ hi_;cases hi_);rintro _ _ ⟨s25,rfl,hls25,hds25,rfl,hcs25⟩ <;>(first|rw [au (by assumption)]|rw [ax (by assumption)]|skip))|(apply Vc;rfl;rfl;apply fnT;rfl;apply (rh (L:=L) (s:=s25) (text:=⟨#[40]⟩));assumption;omega;(first|(apply aa;assumption)|(apply aq;assumption));(intro i_ hi_ _;obtain rfl:=List.mem_singleton.1 hi_;(apply bm;simp));(intro i_ hi_;cases hi_);rintro _ _ ⟨s26,rfl,hls26,hds26,rfl,hcs26⟩ <;>(first|rw [au (by assumption)]|rw [ax (by assumption)]|skip))|(apply Vc;rfl;rfl;apply fnT;rfl;apply (jp9 (L:=L) (s:=s26));assumption;assumption;omega;(first|(apply aa;assumption)|(apply aq;assumption));(intro i_ hi_ _;obtain rfl:=List.mem_singleton.1 hi_;(apply bm;simp));(intro i_ hi_;cases hi_);rintro _ _ ⟨s27,rfl,⟨hls27,hds27,hcs27⟩,ts27,rfl,hts27⟩ <;>(first|rw [au (by assumption)]|rw [ax (by assumption)]|skip))|(apply Vc;rfl;rfl;apply fnT;rfl;apply (jlm (L:=L) (s:=s27));assumption;assumption;omega;(first|(apply aa;assumption)|(apply aq;assumption));(intro i_ hi_ _;obtain rfl:=List.mem_singleton.1 hi_;(apply bm;simp));(intro i_ hi_;cases hi_);rintro _ _ ⟨s28,rfl,⟨hls28,hds28,hcs28⟩,ts28,rfl,hts28⟩ <;>(first|rw [au (by assumption)]|rw [ax (by assumption)]|skip))|(apply Vc;rfl;rfl;apply fnT;rfl;apply (rh (L:=L) (s:=s28) (text:=⟨#[41]⟩));assumption;omega;(first|(apply aa;assumption)|(apply aq;assumption));(intro i_ hi_ _;obtain rfl:=List.mem_singleton.1 hi_;(apply bm;simp));(intro i_ hi_;cases hi_);rintro _ _ ⟨s29,rfl,hls29,hds29,rfl,hcs29⟩ <;>(first|rw [au (by assumption)]|rw [ax (by assumption)]|skip))|(apply Vc;rfl;rfl;apply fnT;rfl;apply (hb s29 false (by omega) (by omega));(first|(apply aa;assumption)|(apply aq;assumption));(intro i_ hi_ _;obtain rfl:=List.mem_singleton.1 hi_;(apply bm;simp));(intro i_ hi_;cases hi_);rintro _ _ ⟨s30,rfl,⟨hgs30,hls30,hds30,hbs30⟩,hps30,ls30,rfl,hBs30,hzs30⟩ <;>(first|rw [au (by assumption)]|rw [ax (by assumption)]|skip))|(apply Vc;rfl;rfl;apply fnT;rfl;apply (vm (L:=L) (s:=s30) (text:=⟨#[102,105,110,97,108,108,121]⟩));assumption;omega;(first|(apply aa;assumption)|(apply aq;assumption));(intro i_ hi_ _;obtain rfl:=List.mem_singleton.1 hi_;(apply bm;simp));(intro i_ hi_;cases hi_);rintro _ _ ⟨s31,rfl,hds31,hbs31,hls31,(⟨rfl,hcs31,hzs31⟩|⟨rfl,hcs31⟩)⟩ <;>(first|rw [au (by assumption)]|rw [ax (by assumption)]|skip))|(apply Vc;rfl;rfl;apply fnT;rfl;apply (hb s31 false (by omega) (by omega));(first|(apply aa;assumption)|(apply aq;assumption));(intro i_ hi_ _;obtain rfl:=List.mem_singleton.1 hi_;(apply bm;simp));(intro i_ hi_;cases hi_);rintro _ _ ⟨s32,rfl,⟨hgs32,hls32,hds32,hbs32⟩,hps32,ls32,rfl,hBs32,hzs32⟩ <;>(first|rw [au (by assumption)]|rw [ax (by assumption)]|skip))|(apply Vp;rfl;rfl;apply fnT;rfl;apply (jxb (L:=L) (s:=s23));assumption;omega;(first|(apply aa;assumption)|(apply aq;assumption));rintro _ ⟨(_|_),rfl,hu_⟩)|(apply Vp;rfl;rfl;apply fnT;rfl;apply (jd1 (L:=L) (s:=s23) (more:=1) (kind:=4));assumption;omega;omega;(first|(apply aa;assumption)|(apply aq;assumption));rintro _ ⟨(_|_),rfl,hv_⟩)|(apply Vc;rfl;rfl;apply fnT;rfl;apply (ha ⟨s23.loc + 1,s23.bad,s23.whr,s23.deep - 1,s23.late,s23.lateAt⟩ (by dsimp only;omega) (by dsimp only;have:=(ki (hv_.1 rfl)).1;omega));(first|(apply aa;assumption)|(apply aq;assumption));(intro i_ hi_ _;obtain rfl:=List.mem_singleton.1 hi_;(apply bm;simp));(intro i_ hi_;cases hi_);rintro _ _ ⟨s33,rfl,⟨hgs33,hls33,hds33,hbs33⟩,hps33,ls33,rfl,hBs33,hzs33,hns33⟩;dsimp only at hgs33 hds33 hbs33 hps33 hzs33 <;>(first|rw [au (by assumption)]|rw [ax (by assumption)]|skip))|(apply Vc;rfl;rfl;apply fnT;rfl;apply (jor (L:=L) (s:=⟨s33.loc,s33.bad,s33.whr,s33.deep + 1,s33.late,s33.lateAt⟩));(first|(apply aa;assumption)|(apply aq;assumption));(intro i_ hi_ _;obtain rfl:=List.mem_singleton.1 hi_;(apply bm;simp));(intro i_ hi_;cases hi_);rintro _ _ ⟨s34,rfl,hls34,hds34,hbs34,rfl⟩;dsimp only at hls34 hds34 hbs34 <;>(first|rw [au (by assumption)]|rw [ax (by assumption)]|skip))|(apply Vc;rfl;rfl;apply fnT;rfl;apply (rh (L:=L) (s:=s34) (text:=⟨#[59]⟩));assumption;omega;(first|(apply aa;assumption)|(apply aq;assumption));(intro i_ hi_ _;obtain rfl:=List.mem_singleton.1 hi_;(apply bm;simp));(intro i_ hi_;cases hi_);rintro _ _ ⟨s35,rfl,hls35,hds35,rfl,hcs35⟩ <;>(first|rw [au (by assumption)]|rw [ax (by assumption)]|skip))|(apply Vc;rfl;rfl;apply fnT;rfl;apply (rh (L:=L) (s:=⟨s33.loc,s33.bad,s33.whr,s33.deep + 1,s33.late,s33.lateAt⟩) (text:=⟨#[59]⟩));assumption;(dsimp only;omega);(first|(apply aa;assumption)|(apply aq;assumption));(intro i_ hi_ _;obtain rfl:=List.mem_singleton.1 hi_;(apply bm;simp));(intro i_ hi_;cases hi_);rintro _ _ ⟨s36,rfl,hls36,hds36,rfl,hcs36⟩;dsimp only at hds36 hcs36 <;>(first|rw [au (by assumption)]|rw [ax (by assumption)]|skip))|(apply Vc;rfl;rfl;apply fnT;rfl;apply (hx s23 (by omega) (by omega));(first|(apply aa;assumption)|(apply aq;assumption));(intro i_ hi_ _;obtain rfl:=List.mem_singleton.1 hi_;(apply bm;simp));(intro i_ hi_;cases hi_);rintro _ _ ⟨s37,rfl,⟨hgs37,hls37,hds37,hbs37⟩,hps37,⟨ks37,ns37,ts37,nas37,tys37,ls37,os37,nths37⟩,rfl,hBs37,hzs37⟩ <;>(first|rw [au (by assumption)]|rw [ax (by assumption)]|skip))|(apply Vc;rfl;rfl;apply fnT;rfl;apply (vm (L:=L) (s:=s37) (text:=⟨#[61]⟩));assumption;omega;(first|(apply aa;assumption)|(apply aq;assumption));(intro i_ hi_ _;obtain rfl:=List.mem_singleton.1 hi_;(apply bm;simp));(intro i_ hi_;cases hi_);rintro _ _ ⟨s38,rfl,hds38,hbs38,hls38,(⟨rfl,hcs38,hzs38⟩|⟨rfl,hcs38⟩)⟩ <;>(first|rw [au (by assumption)]|rw [ax (by assumption)]|skip))|(apply bt (nt:=190) (.take 0 (.take 1 (.one 2 (.one 3 (.take 4 (.one 5 .nil)))))) [id] [5];exact co;rfl;decide +kernel)|(apply tV;rfl;rfl;(apply bj;(apply tyT;rfl);rfl;(apply at_;exact List.length_set;rfl);rfl);(apply ek;rfl;(simp;omega)))|(apply oC;rfl;rfl;rfl;apply fnT;rfl;apply (hx s38 (by omega) (by omega));(first|(apply aa;assumption)|(apply aq;assumption));(intro i_ hi_ _;obtain rfl:=List.mem_singleton.1 hi_;(apply mz <;> simp));(intro i_ hi_;cases hi_);rintro _ _ ⟨s39,rfl,⟨hgs39,hls39,hds39,hbs39⟩,hps39,⟨ks39,ns39,ts39,nas39,tys39,ls39,os39,nths39⟩,rfl,hBs39,hzs39⟩ <;>(first|rw [au (by assumption)]|rw [ax (by assumption)]|skip))|(apply Vp;rfl;rfl;apply fnT;rfl;apply jqn;rintro _ ⟨(_|_),rfl⟩)|(apply Vp;rfl;rfl;apply fnT;rfl;apply jqo;rintro _ ⟨(_|_),rfl⟩)|(apply Vc;rfl;rfl;apply fnT;rfl;apply (jor (L:=L) (s:=s39));(first|(apply aa;assumption)|(apply aq;assumption));(intro i_ hi_ _;obtain rfl:=List.mem_singleton.1 hi_;(apply bm;simp));(intro i_ hi_;cases hi_);rintro _ _ ⟨s40,rfl,hls40,hds40,hbs40,rfl⟩ <;>(first|rw [au (by assumption)]|rw [ax (by assumption)]|skip))|(apply Vc;rfl;rfl;apply fnT;rfl;apply (rh (L:=L) (s:=s40) (text:=⟨#[59]⟩));assumption;omega;(first|(apply aa;assumption)|(apply aq;assumption));(intro i_ hi_ _;obtain rfl:=List.mem_singleton.1 hi_;(apply bm;simp));(intro i_ hi_;cases hi_);rintro _ _ ⟨s41,rfl,hls41,hds41,rfl,hcs41⟩ <;>(first|rw [au (by assumption)]|rw [ax (by assumption)]|skip))|(apply Vc;rfl;rfl;apply fnT;rfl;apply (rh (L:=L) (s:=s39) (text:=⟨#[59]⟩));assumption;omega;(first|(apply aa;assumption)|(apply aq;assumption));(intro i_ hi_ _;obtain rfl:=List.mem_singleton.1 hi_;(apply bm;simp));(intro i_ hi_;cases hi_);rintro _ _ ⟨s44,rfl,hls44,hds44,rfl,hcs44⟩ <;>(first|rw [au (by assumption)]|rw [ax (by assumption)]|skip))|(apply Vc;rfl;rfl;apply fnT;rfl;apply (jor (L:=L) (s:=s38));(first|(apply aa;assumption)|(apply aq;assumption));(intro i_ hi_ _;obtain rfl:=List.mem_singleton.1 hi_;(apply bm;simp));(intro i_ hi_;cases hi_);rintro _ _ ⟨s42,rfl,hls42,hds42,hbs42,rfl⟩ <;>(first|rw [au (by assumption)]|rw [ax (by assumption)]|skip))|(apply Vc;rfl;rfl;apply fnT;rfl;apply (rh (L:=L) (s:=s42) (text:=⟨#[59]⟩));assumption;omega;(first|(apply aa;assumption)|(apply aq;assumption));(intro i_ hi_ _;obtain rfl:=List.mem_singleton.1 hi_;(apply bm;simp));(intro i_ hi_;cases hi_);rintro _ _ ⟨s43,rfl,hls43,hds43,rfl,hcs43⟩ <;>(first|rw [au (by assumption)]|rw [ax (by assumption)]|skip))|(apply Vc;rfl;rfl;apply fnT;rfl;apply (rh (L:=L) (s:=s38) (text:=⟨#[59]⟩));assumption;omega;(first|(apply aa;assumption)|(apply aq;assumption));(intro i_ hi_ _;obtain rfl:=List.mem_singleton.1 hi_;(apply bm;simp));(intro i_ hi_;cases hi_);rintro _ _ ⟨s45,rfl,hls45,hds45,rfl,hcs45⟩ <;>(first|rw [au (by assumption)]|rw [ax (by assumption)]|skip))|(apply Vo;rfl)|(apply Vw;rfl;(apply d8;rfl;(apply elT;rfl);(apply tyT;rfl);rfl;decide;rfl;rfl))|(apply Vs;rfl;(apply jm;(apply tyT;rfl);rfl;rfl;assumption;(apply bm;simp);rfl;rfl;(first|decide|(apply Nat.le_of_ble_eq_true;rfl))))|(apply ac;rfl)|apply ak|(apply al;rfl)|apply ah|apply ai|(apply ae;rfl)|(apply af;rfl)|apply ap|apply cq|apply dm|apply aw|apply dg|(apply tV;rfl;rfl;(first|(apply bj;(apply tyT;rfl);rfl;(apply at_;exact List.length_set;rfl);rfl)|(apply bz;(apply tyT;rfl);rfl;(apply at_;exact List.length_set;rfl);rfl)|(apply az;rfl;rfl;rfl;omega)|(apply bl;rfl)|(apply bg;rfl)|(apply cb;(apply plT;rfl);rfl;rfl;decide)|(apply bz;(apply tyT;rfl);rfl;(apply aq;assumption);rfl)|(apply ck;rfl)|(apply ca;rfl;rfl)|(apply bu;rfl;rfl)|(apply cg;rfl)|(apply ed;(apply plT;rfl);rfl)|(apply az;rfl;rfl;rfl;omega)|(apply ei;rfl;rfl;rfl;omega));rfl)|(apply oW;rfl;rfl;(apply d8;rfl;(apply elT;rfl);(apply tyT;rfl);rfl;decide;rfl;rfl)))
  all_goals first
      | exact ⟨s5,rfl,⟨by omega,by omega,by omega,fun h=>by omega⟩,fun h=>by omega,.mk 4 0 ⟨#[]⟩ ⟨#[]⟩ ls2 ls3 ls5 [] 0,rfl,kc (by decide) (by decide) (hBs2) (hBs3) (hBs5) (dk),fun h=>by rw [gt];simp only [fv,f9,gv,jz];have hs5:s5.bad = 0:=(by omega);have:=hzs5 hs5;have:=hps5 hs5;have hs3:s3.bad = 0:=(by omega);have:=hzs3 hs3;have:=hps3 hs3;have hs2:s2.bad = 0:=(by omega);have:=hzs2 hs2;have:=hps2 hs2;omega⟩
      | exact ⟨s4,rfl,⟨by omega,by omega,by omega,fun h=>by omega⟩,fun h=>by omega,.mk 4 0 ⟨#[]⟩ ⟨#[]⟩ ls2 ls3 [] [] 0,rfl,kc (by decide) (by decide) (hBs2) (hBs3) (dk) (dk),fun h=>by rw [gt];simp only [fv,f9,gv,jz];have hs3:s3.bad = 0:=(by omega);have:=hzs3 hs3;have:=hps3 hs3;have hs2:s2.bad = 0:=(by omega);have:=hzs2 hs2;have:=hps2 hs2;omega⟩
      | exact ⟨s8,rfl,⟨by omega,by omega,by omega,fun h=>by omega⟩,fun h=>by omega,.mk 5 0 ⟨#[]⟩ ⟨#[]⟩ ls7 ls8 [] [] 0,rfl,kc (by decide) (by decide) (hBs7) (hBs8) (dk) (dk),fun h=>by rw [gt];simp only [fv,f9,gv,jz];have hs8:s8.bad = 0:=(by omega);have:=hzs8 hs8;have:=hps8 hs8;have hs7:s7.bad = 0:=(by omega);have:=hzs7 hs7;have:=hps7 hs7;omega⟩
      | exact ⟨s11,rfl,⟨by omega,by omega,by omega,fun h=>by omega⟩,fun h=>by omega,.mk 6 0 ⟨#[]⟩ ⟨#[]⟩ [(.mk ks10 ns10 ts10 nas10 tys10 ls10 os10 nths10)] [] [] [] 0,rfl,kc (by decide) (by decide) (kj hBs10) (dk) (dk) (dk),fun h=>by rw [gt];simp only [fv,f9,gv,jz];have hs10:s10.bad = 0:=(by omega);have:=hzs10 hs10;have:=hps10 hs10;omega⟩
      | exact ⟨s12,rfl,⟨by omega,by omega,by omega,fun h=>by omega⟩,fun h=>by omega,.mk 6 0 ⟨#[]⟩ ⟨#[]⟩ [] [] [] [] 0,rfl,kc (by decide) (by decide) (jg) (dk) (dk) (dk),fun h=>by rw [gt];simp only [fv,f9,gv,jz];omega⟩
      | exact ⟨s15,rfl,⟨by omega,by omega,by omega,fun h=>by omega⟩,fun h=>by omega,.mk 7 0 ⟨#[]⟩ ⟨#[]⟩ [(.mk ks14 ns14 ts14 nas14 tys14 ls14 os14 nths14)] [] [] [] 0,rfl,kc (by decide) (by decide) (kj hBs14) (dk) (dk) (dk),fun h=>by rw [gt];simp only [fv,f9,gv,jz];have hs14:s14.bad = 0:=(by omega);have:=hzs14 hs14;have:=hps14 hs14;omega⟩
      | exact ⟨s19,rfl,⟨by omega,by omega,by omega,fun h=>by omega⟩,fun h=>by omega,.mk 8 n17 ⟨#[]⟩ ⟨#[]⟩ [(.mk ks18 ns18 ts18 nas18 tys18 ls18 os18 nths18)] [] [] [] 0,rfl,kc (by decide) (by decide) (kj hBs18) (dk) (dk) (dk),fun h=>by rw [gt];simp only [fv,f9,gv,jz];have hs18:s18.bad = 0:=(by omega);have:=hzs18 hs18;have:=hps18 hs18;omega⟩
      | exact ⟨s22,rfl,⟨by omega,by omega,by omega,fun h=>by omega⟩,fun h=>by omega,.mk 9 0 ⟨#[]⟩ ⟨#[]⟩ [(.mk ks21 ns21 ts21 nas21 tys21 ls21 os21 nths21)] [] [] [] 0,rfl,kc (by decide) (by decide) (kj hBs21) (dk) (dk) (dk),fun h=>by rw [gt];simp only [fv,f9,gv,jz];have hs21:s21.bad = 0:=(by omega);have:=hzs21 hs21;have:=hps21 hs21;omega⟩
      | exact ⟨s32,rfl,⟨by omega,by omega,by omega,fun h=>by omega⟩,fun h=>by omega,.mk 10 0 ts27 ts28 [] ls24 ls30 ls32 0,rfl,kc (hts27) (hts28) (jg) (hBs24) (hBs30) (hBs32),fun h=>by rw [gt];simp only [fv,f9,gv,jz];have hs32:s32.bad = 0:=(by omega);have:=hzs32 hs32;have:=hps32 hs32;have hs30:s30.bad = 0:=(by omega);have:=hzs30 hs30;have:=hps30 hs30;have hs24:s24.bad = 0:=(by omega);have:=hzs24 hs24;have:=hps24 hs24;omega⟩
      | exact ⟨s31,rfl,⟨by omega,by omega,by omega,fun h=>by omega⟩,fun h=>by omega,.mk 10 0 ts27 ts28 [] ls24 ls30 [] 0,rfl,kc (hts27) (hts28) (jg) (hBs24) (hBs30) (dk),fun h=>by rw [gt];simp only [fv,f9,gv,jz];have hs30:s30.bad = 0:=(by omega);have:=hzs30 hs30;have:=hps30 hs30;have hs24:s24.bad = 0:=(by omega);have:=hzs24 hs24;have:=hps24 hs24;omega⟩
      | exact ⟨s35,rfl,⟨by omega,by omega,by omega,fun h=>by omega⟩,fun h=>by omega,.mk 11 0 ⟨#[]⟩ ⟨#[]⟩ ls33 [] [] [] 0,rfl,kc (by decide) (by decide) (hBs33) (dk) (dk) (dk),fun h=>by rw [gt];simp only [fv,f9,gv,jz];have hs33:s33.bad = 0:=(by omega);have:=hzs33 hs33;have:=hps33 hs33;omega⟩
      | exact ⟨s36,rfl,⟨by omega,by omega,by omega,fun h=>by omega⟩,fun h=>by omega,.mk 11 0 ⟨#[]⟩ ⟨#[]⟩ ls33 [] [] [] 0,rfl,kc (by decide) (by decide) (hBs33) (dk) (dk) (dk),fun h=>by rw [gt];simp only [fv,f9,gv,jz];have hs33:s33.bad = 0:=(by omega);have:=hzs33 hs33;have:=hps33 hs33;omega⟩
      | exact ⟨s41,rfl,⟨by omega,by omega,by omega,fun h=>by omega⟩,fun h=>by omega,.mk 2 0 ⟨#[]⟩ ⟨#[]⟩ [(.mk ks37 ns37 ts37 nas37 tys37 ls37 os37 nths37),(.mk ks39 ns39 ts39 nas39 tys39 ls39 os39 nths39)] [] [] [] 0,rfl,kc (by decide) (by decide) (jeu hBs37 hBs39) (dk) (dk) (dk),fun h=>by rw [gt];simp only [fv,f9,gv,jz];have hs39:s39.bad = 0:=(by omega);have:=hzs39 hs39;have:=hps39 hs39;have hs37:s37.bad = 0:=(by omega);have:=hzs37 hs37;have:=hps37 hs37;omega⟩
      | exact ⟨s44,rfl,⟨by omega,by omega,by omega,fun h=>by omega⟩,fun h=>by omega,.mk 2 0 ⟨#[]⟩ ⟨#[]⟩ [(.mk ks37 ns37 ts37 nas37 tys37 ls37 os37 nths37),(.mk ks39 ns39 ts39 nas39 tys39 ls39 os39 nths39)] [] [] [] 0,rfl,kc (by decide) (by decide) (jeu hBs37 hBs39) (dk) (dk) (dk),fun h=>by rw [gt];simp only [fv,f9,gv,jz];have hs39:s39.bad = 0:=(by omega);have:=hzs39 hs39;have:=hps39 hs39;have hs37:s37.bad = 0:=(by omega);have:=hzs37 hs37;have:=hps37 hs37;omega⟩
      | exact ⟨s43,rfl,⟨by omega,by omega,by omega,fun h=>by omega⟩,fun h=>by omega,.mk 3 0 ⟨#[]⟩ ⟨#[]⟩ [(.mk ks37 ns37 ts37 nas37 tys37 ls37 os37 nths37)] [] [] [] 0,rfl,kc (by decide) (by decide) (kj hBs37) (dk) (dk) (dk),fun h=>by rw [gt];simp only [fv,f9,gv,jz];have hs37:s37.bad = 0:=(by omega);have:=hzs37 hs37;have:=hps37 hs37;omega⟩
      | exact ⟨s45,rfl,⟨by omega,by omega,by omega,fun h=>by omega⟩,fun h=>by omega,.mk 3 0 ⟨#[]⟩ ⟨#[]⟩ [(.mk ks37 ns37 ts37 nas37 tys37 ls37 os37 nths37)] [] [] [] 0,rfl,kc (by decide) (by decide) (kj hBs37) (dk) (dk) (dk),fun h=>by rw [gt];simp only [fv,f9,gv,jz];have hs37:s37.bad = 0:=(by omega);have:=hzs37 hs37;have:=hps37 hs37;omega⟩
      | skip
end Go.Proofs.YtinffhimfoicdaaGreat
namespace Go.Proofs.YtinffhimfoicdaaGreat
open Go Go.RowKit Go.Proofs.YtinffhimfoicdaaGreat.Calc
set_option linter.unusedVariables false
theorem jv2 (L:List Wd) (N:Int) (hL:L.length ≤ 8000) (hW:∀ w ∈ L,w.text.size ≤ 1000000):∀(d:Nat) (D:Int),0 ≤ D → D ≤ 41 → 41 - D ≤ d → jtd L N D ∧(1 ≤ D → jv1 L N D):=by
  intro d
  induction d with
  | zero =>
    intro D h0 h1 h2
    have hb:=jgn L N hL hW D h0 h1 (fun h=>absurd h (by omega))
    have hx:=jev L N hL hW D h0 h1
    exact ⟨hb,fun h=>jjm L N hL hW D h h1 hx (jgo L N hL D hx) (jjl L N hL hW (D - 1) (by omega) (by omega)) hb⟩
  | succ d ih =>
    intro D h0 h1 h2
    have hb:=jgn L N hL hW D h0 h1 (fun h=>(ih (D + 1) (by omega) (by omega) (by omega)).2 (by omega))
    have hx:=jev L N hL hW D h0 h1
    exact ⟨hb,fun h=>jjm L N hL hW D h h1 hx (jgo L N hL D hx) (jjl L N hL hW (D - 1) (by omega) (by omega)) hb⟩
theorem jlp (L:List Wd) (N:Int) (hL:L.length ≤ 8000) (hW:∀ w ∈ L,w.text.size ≤ 1000000) (D:Int) (h0:0 ≤ D) (h1:D ≤ 41):jtd L N D:=(jv2 L N hL hW 41 D h0 h1 (by omega)).1
end Go.Proofs.YtinffhimfoicdaaGreat
namespace Go.Proofs.YtinffhimfoicdaaGreat
open Go Go.RowKit Go.Proofs.YtinffhimfoicdaaGreat.Calc
set_option linter.unusedVariables false
set_option linter.unusedSimpArgs false
set_option maxRecDepth 100000
set_option maxHeartbeats 8000000
attribute [local irreducible] Tri ew er ci bn db d7 inQ jb
def PaR (L:List Wd) (s s':Ws) (r:BV):Prop:=GW L s s' ∧ ∃ l,r = .d (cy gk l) ∧(∀ x ∈ l,BPa x) ∧ l.length ≤ 8001 ∧(s'.bad = 0 → s.loc + l.length ≤ s'.loc)
theorem params (L:List Wd) (N:Int) (hL:L.length ≤ 8000) (hW:∀ w ∈ L,w.text.size ≤ 1000000) (s:Ws) (hl:s.loc ≤ L.length):WC L N s 77 [] (PaR L s):=by
  intro S T M id hid
  have hlt:=(List.getElem?_eq_some_iff.1 hid).1
  refine am [id] [] Tryz.func77 rfl Tryz.ntmps77 Tryz.results77 ?_
  repeat' (first|apply ab|(apply V;rfl;(first|(apply bl;rfl)|(apply bg;rfl)))|(apply Vc;rfl;rfl;apply fnT;rfl;apply (rh (L:=L) (s:=s) (text:=⟨#[40]⟩));assumption;omega;(first|(apply aa;assumption)|(apply aq;assumption));(intro i_ hi_ _;obtain rfl:=List.mem_singleton.1 hi_;(apply bm;simp));(intro i_ hi_;cases hi_);rintro _ _ ⟨s3,rfl,hls3,hds3,rfl,hcs3⟩ <;>(first|rw [au (by assumption)]|rw [ax (by assumption)]|skip))|(apply ac;rfl)|apply ak|apply aj)
  refine gc 3 155 2 rfl rfl ?_
  refine cx (fun k:Ws × List Pa=>L.length + 1 - k.1.loc) (fun k=>[(0,.ptr id 0),(3,.own 155 2 (T.length + 0) (k.2.flatMap gk) k.2.length)]) (fun k S1 T1=>S1[id]? = some (jet L N k.1,105) ∧ S.length ≤ S1.length ∧ T <+: T1 ∧ T1[T.length + 0]? = some (k.2.flatMap gk).length ∧ k.1.loc ≤ L.length ∧ s.loc + k.2.length ≤ k.1.loc ∧ k.1.deep = s.deep ∧(∀ x ∈ k.2,BPa x) ∧(k.1.bad = 0 → s.bad = 0)) (s3,[]) ⟨aq hlt,by simp,by simp,at_ rfl rfl,by dsimp only;omega,by dsimp only [List.length_nil];omega,by dsimp only;omega,nofun,fun h=>by dsimp only at h;omega⟩ ⟨rfl,rfl,trivial⟩ ?_
  rintro ⟨s4,l⟩ S1 T1 ⟨hb,hS,hT,hTg,hl4,hl5,hd4,hB,hb4⟩
  dsimp only at hb hTg hl4 hl5 hd4 hB hb4 ⊢
  have hlt1:id < S1.length:=by omega
  have h00:T.length ≤ T.length + 0:=Nat.le_refl _
  repeat' (first|apply ab|(apply V;rfl;(first|(apply bl;rfl)|(apply bg;rfl)|(apply cb;(apply plT;rfl);rfl;rfl;decide)|(apply bz;(apply tyT;rfl);rfl;(apply aa;assumption);rfl)|(apply bq;(apply elT;rfl);rfl;rfl)|(apply ck;rfl)|(apply ca;rfl;rfl)|(apply bu;rfl;rfl)|(apply cg;rfl)|(apply ed;(apply plT;rfl);rfl)))|(apply Vp;rfl;rfl;apply fnT;rfl;apply (jdd (L:=L) (s:=s4) (text:=⟨#[41]⟩));assumption;omega;(first|(apply aa;assumption)|(apply aq;assumption));rintro _ ⟨(_|_),rfl,hj_⟩)|(apply Vc;rfl;rfl;apply fnT;rfl;apply (jvz (L:=L) (s:=s4));assumption;assumption;omega;(first|(apply aa;assumption)|(apply aq;assumption));(intro i_ hi_ _;obtain rfl:=List.mem_singleton.1 hi_;(apply bm;simp));(intro i_ hi_;cases hi_);rintro _ _ ⟨s5,rfl,⟨hls5,hds5,hcs5⟩,ts5,rfl,hts5⟩ <;>(first|rw [au (by assumption)]|rw [ax (by assumption)]|skip))|(apply Vc;rfl;rfl;apply fnT;rfl;apply (jlm (L:=L) (s:=s5));assumption;assumption;omega;(first|(apply aa;assumption)|(apply aq;assumption));(intro i_ hi_ _;obtain rfl:=List.mem_singleton.1 hi_;(apply bm;simp));(intro i_ hi_;cases hi_);rintro _ _ ⟨s6,rfl,⟨hls6,hds6,hcs6⟩,ts6,rfl,hts6⟩ <;>(first|rw [au (by assumption)]|rw [ax (by assumption)]|skip))|(apply Vc;rfl;rfl;apply fnT;rfl;apply (vm (L:=L) (s:=s6) (text:=⟨#[44]⟩));assumption;omega;(first|(apply aa;assumption)|(apply aq;assumption));(intro i_ hi_ _;obtain rfl:=List.mem_singleton.1 hi_;(apply bm;simp));(intro i_ hi_;cases hi_);rintro _ _ ⟨s8,rfl,hds8,hbs8,hls8,(⟨rfl,hcs8,hzs8⟩|⟨rfl,hcs8⟩)⟩ <;>(first|rw [au (by assumption)]|rw [ax (by assumption)]|skip))|(apply Vc;rfl;rfl;apply fnT;rfl;apply (rh (L:=L) (s:=s4) (text:=⟨#[41]⟩));assumption;omega;(first|(apply aa;assumption)|(apply aq;assumption));(intro i_ hi_ _;obtain rfl:=List.mem_singleton.1 hi_;(apply bm;simp));(intro i_ hi_;cases hi_);rintro _ _ ⟨s7,rfl,hls7,hds7,rfl,hcs7⟩ <;>(first|rw [au (by assumption)]|rw [ax (by assumption)]|skip))|(apply Vc;rfl;rfl;apply fnT;rfl;apply (rh (L:=L) (s:=s8) (text:=⟨#[41]⟩));assumption;omega;(first|(apply aa;assumption)|(apply aq;assumption));(intro i_ hi_ _;obtain rfl:=List.mem_singleton.1 hi_;(apply bm;simp));(intro i_ hi_;cases hi_);rintro _ _ ⟨s9,rfl,hls9,hds9,rfl,hcs9⟩ <;>(first|rw [au (by assumption)]|rw [ax (by assumption)]|skip))|(apply Vd;rfl;(first|(apply gj;rfl;rfl)|(apply dq;rfl;rfl));all_goals intro h_)|(apply Vo;rfl)|(apply Vw;rfl;(first|(apply d8;rfl;(apply elT;rfl);(apply tyT;rfl);rfl;decide;rfl;rfl)|(apply mf;(apply elT;rfl);(apply tyT;rfl);(apply byT;rfl);rfl;rfl;rfl;decide;rfl;(apply ee (f:=gk) (c:=(⟨ts5,ts6⟩:Pa));omega;omega;assumption))))|(apply ac;rfl)|apply ak|apply aj|apply ah|apply bd|apply ai|(apply ae;rfl)|(apply af;rfl)|(apply fm _ (.inr rfl);(first|(apply av;assumption)|(apply av;apply dc <;> assumption));(focus repeat (first|apply a8|(apply a9;rfl)));rfl;(first|(apply aq;assumption)|(apply aa;assumption));rfl;rfl)|apply ap|apply ey|apply cq|(apply jp3;rfl)|apply bo)
  all_goals first
    | exact ⟨(s8,l ++ [⟨ts5,ts6⟩]),_,_,by dsimp only;omega,⟨aq hlt1,by simpa using hS,av (dc hT h00),aq (List.getElem?_eq_some_iff.1 hTg).1,by dsimp only;omega,by simp only [List.length_append,List.length_singleton];omega,by dsimp only;omega,fun x hx=>by rcases List.mem_append.1 hx with hx|hx;exact hB x hx;rw [List.mem_singleton.1 hx];exact ⟨hts5,hts6⟩,fun h=>by dsimp only at h;omega⟩,⟨rfl,rfl,trivial⟩,rfl⟩
    | exact ⟨s7,rfl,⟨by omega,by omega,by omega,fun h=>by omega⟩,l,rfl,hB,by omega,fun h=>by omega⟩
    | exact ⟨s9,rfl,⟨by omega,by omega,by omega,fun h=>by omega⟩,l ++ [⟨ts5,ts6⟩],rfl,fun x hx=>by rcases List.mem_append.1 hx with hx|hx;exact hB x hx;rw [List.mem_singleton.1 hx];exact ⟨hts5,hts6⟩,by simp only [List.length_append,List.length_singleton];omega,fun h=>by simp only [List.length_append,List.length_singleton];omega⟩
    | skip
end Go.Proofs.YtinffhimfoicdaaGreat
namespace Go.Proofs.YtinffhimfoicdaaGreat
open Go Go.RowKit Go.Proofs.YtinffhimfoicdaaGreat.Calc
set_option linter.unusedVariables false
set_option linter.unusedSimpArgs false
set_option maxRecDepth 100000
set_option maxHeartbeats 8000000
theorem jjn {P:Program} {S S1:List (List BV × Nat)} {T T' T1:List Nat} {M M1:List (List (Value × DV))} {Q:BV → St → Prop} {ρ:Rg} {cs1 cs1' cs2 cs2':List BV} {id1 ty1 id2 ty2:Nat} (ex:AX) (hex:ex = .normal ∨ ex = .ret) (hT:T' <+: T1) (hTl:T.length ≤ T'.length)
    (hS1:S1[id1]? = some (cs1,ty1)) (h3:my S.length T'.length cs1 = some cs1') (hS2:S1[id2]? = some (cs2,ty2)) (h4:my S.length T'.length cs2 = some cs2') (h:Q (.tup []) ⟨(S.set id1 (cs1',ty1)).set id2 (cs2',ty2),T',M1⟩):jb P [] [id1,id2] ⟨S,T,M⟩ Q ex ρ ⟨S1,T1,M1⟩ :=
  ⟨hex,[],[],_,T',.inl rfl,rfl,by simp only [jhh,hS1,h3,hS2,h4],hT,hTl,h⟩
def clB (nm su:ByteArray) (tf tm:Nat) (fs:List Fi) (ms:List Me):List BV:=[.d (dS nm),.d (dS su),.own 76 4 tf (fs.flatMap je) fs.length,.own 98 6 tm (ms.flatMap j1) ms.length]
def szB (fs:List Fi) (ms:List Me):Nat:=(fs.map jh5).sum +(ms.map y5).sum
theorem jrq (fs:List Fi) (ms:List Me) (f:Fi):szB (fs ++ [f]) ms = szB fs ms + jh5 f:=by simp [szB];omega
theorem jow (fs:List Fi) (ms:List Me) (m:Me):szB fs (ms ++ [m]) = szB fs ms + y5 m:=by simp [szB];omega
theorem yo {n k:Nat} (nm su:ByteArray) (tf tm:Nat) (fs:List Fi) (ms:List Me) (h1:tf < k) (h2:tm < k):my n k (clB nm su tf tm fs ms) = some (clB nm su tf tm fs ms):=by simp [clB,my,low,h1,h2]
def MeR (L:List Wd) (N:Int) (nm su:ByteArray) (tf tm id idc:Nat) (s:Ws) (fs:List Fi) (ms:List Me) (S:List (List BV × Nat)) (T:List Nat) (M:List (List (Value × DV))) (r:BV) (st:St):Prop :=
  r = .tup [] ∧ ∃ s' fs' ms' T',st = ⟨(S.set id (jet L N s',105)).set idc (clB nm su tf tm fs' ms',37),T',M⟩ ∧ T'.length = T.length ∧ T'[tf]? = some (fs'.flatMap je).length ∧ T'[tm]? = some (ms'.flatMap j1).length ∧(∀ t,t ≠ tf → t ≠ tm → T'[t]? = T[t]?) ∧ GW L s s' ∧(s'.bad = 0 → s.loc < s'.loc) ∧(∀ f ∈ fs',BFi f) ∧(∀ m ∈ ms',BMe m) ∧ fs'.length + ms'.length ≤ fs.length + ms.length + 1 ∧(s'.bad = 0 → szB fs' ms' ≤ szB fs ms + 2 *(s'.loc - s.loc))
attribute [local irreducible] Tri ew er ci bn db d7 inQ jb
theorem jm5 (L:List Wd) (N:Int) (hL:L.length ≤ 8000) (hW:∀ w ∈ L,w.text.size ≤ 1000000) (nm su:ByteArray) (tf tm:Nat) (htt:tf ≠ tm) (s:Ws) (hsd:s.deep = 0) (hl:s.loc ≤ L.length) (fs:List Fi) (ms:List Me) (hn:fs.length + ms.length ≤ 10000) (hBf:∀ f ∈ fs,BFi f) (hBm:∀ m ∈ ms,BMe m)
    (S:List (List BV × Nat)) (T:List Nat) (M:List (List (Value × DV))) (id idc:Nat) (hne:id ≠ idc) (hid:S[id]? = some (jet L N s,105)) (hic:S[idc]? = some (clB nm su tf tm fs ms,37)) (hTf:T[tf]? = some (fs.flatMap je).length) (hTm:T[tm]? = some (ms.flatMap j1).length) :
    ci Tryz.prog [id,idc] [] 49 [.ptr id 0,.ptr idc 0] ⟨S,T,M⟩ (MeR L N nm su tf tm id idc s fs ms S T M):=by
  have hlt:=(List.getElem?_eq_some_iff.1 hid).1
  have hltc:=(List.getElem?_eq_some_iff.1 hic).1
  have hltf:=(List.getElem?_eq_some_iff.1 hTf).1
  have hltm:=(List.getElem?_eq_some_iff.1 hTm).1
  have hx:=jev L N hL hW 0 (by decide) (by decide)
  have hb:=jlp L N hL hW 0 (by decide) (by decide)
  unfold clB at hic
  refine am [id,idc] [] Tryz.func49 rfl Tryz.ntmps49 Tryz.results49 ?_
  have h47:=vm L N s ⟨#[115,116,97,116,105,99]⟩ hL hl
  have h47':WC L N s 47 [vS ⟨#[115,116,97,116,105,99]⟩] (fun s' r=>s'.deep = s.deep ∧ s'.loc ≤ L.length ∧ s.loc ≤ s'.loc ∧(s'.bad = 0 → s.bad = 0) ∧ ∃ b,r = vB b):=fun S T M id hid=>dz (h47 S T M id hid) fun r st ⟨s',e,h1,h2,h3,h4⟩=>⟨s',e,h1,h3,(by rcases h4 with h4|h4 <;> omega),(fun h=>h2 ▸ h),(by rcases h4 with ⟨h4,_⟩|⟨h4,_⟩ <;> exact ⟨_,h4⟩)⟩
  repeat' (first|apply ab|(apply V;rfl;(first|(apply bz;(apply tyT;rfl);rfl;(apply aa;rw [List.getElem?_set_ne (by omega)];assumption);rfl)|(apply bl;rfl)|(apply bg;rfl)|(apply cb;(apply plT;rfl);rfl;rfl;decide)|(apply fz;(apply plT;rfl);rfl;rfl;decide)|(apply bz;(apply tyT;rfl);rfl;(apply aq;assumption);rfl)|(apply ef;(apply tyT;rfl);rfl;rfl)|(apply ck;rfl)|(apply ca;rfl;rfl)|(apply bu;rfl;rfl)|(apply cg;rfl)|(apply bp (f:=ro);apply elT;rfl;rfl;rfl;rfl;exact eb;omega;exact List.getElem?_eq_getElem (by have:=(ki (hj_ rfl)).1;omega))))|(apply Vc;rfl;rfl;apply fnT;rfl;apply h47';(first|(apply aa;assumption)|(apply aq;assumption));(intro i_ hi_ _;obtain rfl:=List.mem_singleton.1 hi_;(apply bm;simp));(intro i_ hi_;cases hi_);rintro _ _ ⟨s1,rfl,hds1,hls1,hls1',hbs1,st_,rfl⟩ <;>(first|rw [au (by assumption)]|rw [ax (by assumption)]|skip))|(show Tri _ (.seq (.region 1 _ _) _) _ _ _;apply ju (fun ρ st=>st = ⟨S.set id (jet L N s1,105) ++ [],T ++ [],M⟩ ∧ ∃ b,ng ρ [(0,.ptr id 0),(1,.ptr idc 0),(4,vB st_),(40,vB b)] ∧(b = true → s1.loc + 0 < L.length));cases st_)|(apply de (nt:=133) (.take 0 (.take 1 (.take 2 (.take 3 (.one 4 (.take 5 (.take 6 (.take 7 (.one 8 (.take 9 (.take 10 (.take 11 (.take 12 (.take 13 (.take 14 (.take 15 (.take 16 (.take 17 (.take 18 (.take 19 (.take 20 (.take 21 (.take 22 (.take 23 (.take 24 (.take 25 (.take 26 (.take 27 .nil)))))))))))))))))))))))))))) [] [];exact co;rfl;decide +kernel)|(apply oP;rfl;rfl;rfl;apply fnT;rfl;apply (jri (L:=L) (s:=s1) (more:=0));assumption;assumption;omega;omega;(first|(apply aa;assumption)|(apply aq;assumption));rintro _ ⟨(_|_),rfl,hj_⟩)|(apply oP;rfl;rfl;rfl;apply fnT;rfl;apply (jd1 (L:=L) (s:=s1) (more:=1) (kind:=4));assumption;omega;omega;(first|(apply aa;assumption)|(apply aq;assumption));rintro _ ⟨(_|_),rfl,hk_⟩)|(apply ac;rfl)|apply ak|apply ap|apply dg|(apply tV;rfl;rfl;(first|(apply bz;(apply tyT;rfl);rfl;(apply aa;rw [List.getElem?_set_ne (by omega)];assumption);rfl)|(apply bl;rfl)|(apply bg;rfl)|(apply cb;(apply plT;rfl);rfl;rfl;decide)|(apply fz;(apply plT;rfl);rfl;rfl;decide)|(apply bz;(apply tyT;rfl);rfl;(apply aq;assumption);rfl)|(apply ef;(apply tyT;rfl);rfl;rfl)|(apply ck;rfl)|(apply ca;rfl;rfl)|(apply bu;rfl;rfl)|(apply cg;rfl)|(apply bp (f:=ro);apply elT;rfl;rfl;rfl;rfl;exact eb;omega;exact List.getElem?_eq_getElem (by have:=(ki (hj_ rfl)).1;omega)));rfl)|(apply tVd;rfl;rfl;(apply du;rfl;rfl);rfl;all_goals intro h_)|(apply tVo;rfl;rfl)|(apply oVo;rfl;rfl))
  all_goals first
    | exact ⟨rfl,true,⟨rfl,rfl,rfl,rfl,trivial⟩,fun _=>(ki (hj_ rfl)).1⟩
    | exact ⟨rfl,false,⟨rfl,rfl,rfl,rfl,trivial⟩,fun h=>Bool.noConfusion h⟩
    | skip
  rintro ρ st ⟨rfl,b,hR,hb1⟩
  refine c9 (dt hR) ?_
  clear hR
  have hq:∀ x:List BV × Nat,(S.set id x)[idc]? = S[idc]?:=fun x=>List.getElem?_set_ne hne
  cases b
  case true =>
    have hx1:=hb1 rfl
    repeat' (first|apply ab|(apply V;rfl;(first|(apply bj;(apply tyT;rfl);rfl;(apply at_;exact List.length_set;rfl);rfl)|(apply bz;(apply tyT;rfl);rfl;(apply aa;rw [List.getElem?_set_ne (by omega)];assumption);rfl)|(apply bl;rfl)|(apply cb;(apply plT;rfl);rfl;rfl;decide)|(apply bz;(apply tyT;rfl);rfl;(apply aq;assumption);rfl)|(apply ck;rfl)|(apply ed;(apply plT;rfl);rfl)|(apply az;rfl;rfl;rfl;omega)))|(apply Vw;rfl;(apply cd;exact List.length_set;(apply tyT;rfl)))|(apply Vs;rfl;(apply bw;exact List.length_set;(apply tyT;rfl);rfl;rfl;rfl;(first|apply bc|(apply bh;omega));rfl;rfl;(first|decide|(apply Nat.le_of_ble_eq_true;rfl))))|(apply Vc;rfl;rfl;apply fnT;rfl;apply (params L N hL hW ⟨s1.loc + 1,s1.bad,s1.whr,s1.deep,s1.late,s1.lateAt⟩ (by dsimp only;omega));(first|(apply aa;assumption)|(apply aq;assumption));(intro i_ hi_ _;obtain rfl:=List.mem_singleton.1 hi_;(apply bm;simp));(intro i_ hi_;cases hi_);rintro _ _ ⟨s2,rfl,⟨hgs2,hls2,hds2,hbs2⟩,ls2,rfl,hBs2,hns2,hzs2⟩;dsimp only at hgs2 hds2 hbs2 hzs2 <;>(first|rw [au (by assumption)]|rw [ax (by assumption)]|skip))|(apply Vc;rfl;rfl;apply fnT;rfl;apply (hb s2 true (by omega) (by omega));(first|(apply aa;assumption)|(apply aq;assumption));(intro i_ hi_ _;obtain rfl:=List.mem_singleton.1 hi_;(apply bm;simp));(intro i_ hi_;cases hi_);rintro _ _ ⟨s3,rfl,⟨hgs3,hls3,hds3,hbs3⟩,hps3,ls3,rfl,hBs3,hzs3⟩ <;>(first|rw [au (by assumption)]|rw [ax (by assumption)]|skip))|(apply bt (nt:=133) (.take 0 (.take 1 (.take 2 (.take 3 (.take 4 (.take 5 (.one 6 (.one 7 (.take 8 (.take 9 (.one 10 .nil))))))))))) [] [10];exact co;rfl;decide +kernel)|(apply oS;rfl;rfl;(apply fg;(apply tyT;rfl);rfl;rfl;(rw [List.getElem?_set_ne (by omega)];assumption);(apply mz <;> simp);rfl;rfl;(first|decide|(apply Nat.le_of_ble_eq_true;rfl))))|(apply Vs;rfl;(apply jm;(apply tyT;rfl);rfl;rfl;assumption;(apply bm;simp);rfl;rfl;(first|decide|(apply Nat.le_of_ble_eq_true;rfl))))|(apply ac;rfl)|apply ai|(apply ae;rfl)|apply aw|apply dg|(apply tV;rfl;rfl;(first|(apply bj;(apply tyT;rfl);rfl;(apply at_;exact List.length_set;rfl);rfl)|(apply bz;(apply tyT;rfl);rfl;(apply aa;rw [List.getElem?_set_ne (by omega)];assumption);rfl)|(apply bl;rfl)|(apply cb;(apply plT;rfl);rfl;rfl;decide)|(apply bz;(apply tyT;rfl);rfl;(apply aq;assumption);rfl)|(apply ck;rfl)|(apply ed;(apply plT;rfl);rfl)|(apply az;rfl;rfl;rfl;omega));rfl)|(apply oW;rfl;rfl;(first|(apply d8;rfl;(apply elT;rfl);(apply tyT;rfl);rfl;decide;rfl;rfl)|(apply mf;(apply elT;rfl);(apply tyT;rfl);(apply byT;rfl);rfl;rfl;rfl;decide;rfl;(apply ee (f:=j1) (c:=(⟨false,true,⟨#[]⟩,⟨#[]⟩,ls2,ls3⟩:Me));omega;omega;assumption)))))
    all_goals (refine jjn (T':=T.set tm (List.flatMap j1 (ms ++ [(⟨false,true,⟨#[]⟩,⟨#[]⟩,ls2,ls3⟩:Me)])).length) _ (.inr rfl) (List.prefix_append _ _) (by simp) (aa (by rw [List.getElem?_set_ne hne.symm,List.getElem?_set_self hlt])) rfl (aa (List.getElem?_set_self (by rw [List.length_set];omega))) (yo nm su tf tm fs (ms ++ [(⟨false,true,⟨#[]⟩,⟨#[]⟩,ls2,ls3⟩:Me)]) (by rw [List.length_set];omega) (by rw [List.length_set];omega)) ⟨rfl,s3,fs,ms ++ [(⟨false,true,⟨#[]⟩,⟨#[]⟩,ls2,ls3⟩:Me)],_,rfl,by simp,(by rw [List.getElem?_set_ne htt.symm];exact hTf),List.getElem?_set_self hltm,(fun t h1 h2=>List.getElem?_set_ne h2.symm),⟨by omega,by omega,by omega,fun h=>by omega⟩,(fun h=>by omega),hBf,(fun m hm=>(List.mem_append.1 hm).elim (hBm m) fun h=>by obtain rfl:=List.mem_singleton.1 h;exact ⟨Nat.le_of_ble_eq_true rfl,Nat.le_of_ble_eq_true rfl,hBs2,hBs3⟩),by simp only [List.length_append,List.length_singleton];omega,fun h=>by rw [jow];simp only [y5];omega⟩)
  repeat' (first|apply ab|(apply V;rfl;(first|(apply bj;(apply tyT;rfl);rfl;(apply at_;exact List.length_set;rfl);rfl)|(apply bz;(apply tyT;rfl);rfl;(apply aa;rw [List.getElem?_set_ne (by omega)];assumption);rfl)|(apply bl;rfl)|(apply bg;rfl)|(apply cb;(apply plT;rfl);rfl;rfl;decide)|(apply ck;rfl)|(apply ed;(apply plT;rfl);rfl)))|(apply Vw;rfl;(apply cd;exact List.length_set;(apply tyT;rfl)))|(apply Vs;rfl;(apply bw;exact List.length_set;(apply tyT;rfl);rfl;rfl;rfl;(first|apply bc|(apply bh;omega));rfl;rfl;(first|decide|(apply Nat.le_of_ble_eq_true;rfl))))|(apply Vc;rfl;rfl;apply fnT;rfl;apply (vm (L:=L) (s:=s1) (text:=⟨#[118,111,105,100]⟩));assumption;omega;(first|(apply aa;assumption)|(apply aq;assumption));(intro i_ hi_ _;obtain rfl:=List.mem_singleton.1 hi_;(apply bm;simp));(intro i_ hi_;cases hi_);rintro _ _ ⟨s4,rfl,hds4,hbs4,hls4,(⟨rfl,hcs4,hzs4⟩|⟨rfl,hcs4⟩)⟩ <;>(first|rw [au (by assumption)]|rw [ax (by assumption)]|skip))|(apply Vc;rfl;rfl;apply fnT;rfl;apply (jlm (L:=L) (s:=s4));assumption;assumption;omega;(first|(apply aa;assumption)|(apply aq;assumption));(intro i_ hi_ _;obtain rfl:=List.mem_singleton.1 hi_;(apply bm;simp));(intro i_ hi_;cases hi_);rintro _ _ ⟨s5,rfl,⟨hls5,hds5,hcs5⟩,ts5,rfl,hts5⟩ <;>(first|rw [au (by assumption)]|rw [ax (by assumption)]|skip))|(apply Vc;rfl;rfl;apply fnT;rfl;apply (params L N hL hW s5 (by omega));(first|(apply aa;assumption)|(apply aq;assumption));(intro i_ hi_ _;obtain rfl:=List.mem_singleton.1 hi_;(apply bm;simp));(intro i_ hi_;cases hi_);rintro _ _ ⟨s6,rfl,⟨hgs6,hls6,hds6,hbs6⟩,ls6,rfl,hBs6,hns6,hzs6⟩ <;>(first|rw [au (by assumption)]|rw [ax (by assumption)]|skip))|(apply Vc;rfl;rfl;apply fnT;rfl;apply (hb s6 false (by omega) (by omega));(first|(apply aa;assumption)|(apply aq;assumption));(intro i_ hi_ _;obtain rfl:=List.mem_singleton.1 hi_;(apply bm;simp));(intro i_ hi_;cases hi_);rintro _ _ ⟨s7,rfl,⟨hgs7,hls7,hds7,hbs7⟩,hps7,ls7,rfl,hBs7,hzs7⟩ <;>(first|rw [au (by assumption)]|rw [ax (by assumption)]|skip))|(apply bt (nt:=133) (.take 0 (.take 1 (.take 2 (.take 3 (.take 4 (.take 5 (.one 6 (.one 7 (.take 8 (.take 9 (.one 10 .nil))))))))))) [] [10];exact co;rfl;decide +kernel)|(apply de (nt:=133) (.take 0 (.take 1 (.take 2 (.take 3 (.take 4 (.take 5 (.one 6 (.one 7 (.take 8 (.take 9 (.one 10 .nil))))))))))) [] [10];exact co;rfl;decide +kernel)|(apply oS;rfl;rfl;(apply fg;(apply tyT;rfl);rfl;rfl;(rw [List.getElem?_set_ne (by omega)];assumption);(apply mz <;> simp);rfl;rfl;(first|decide|(apply Nat.le_of_ble_eq_true;rfl))))|(apply Vc;rfl;rfl;apply fnT;rfl;apply (jvz (L:=L) (s:=s4));assumption;assumption;omega;(first|(apply aa;assumption)|(apply aq;assumption));(intro i_ hi_ _;obtain rfl:=List.mem_singleton.1 hi_;(apply bm;simp));(intro i_ hi_;cases hi_);rintro _ _ ⟨s8,rfl,⟨hls8,hds8,hcs8⟩,ts8,rfl,hts8⟩ <;>(first|rw [au (by assumption)]|rw [ax (by assumption)]|skip))|(apply Vc;rfl;rfl;apply fnT;rfl;apply (jlm (L:=L) (s:=s8));assumption;assumption;omega;(first|(apply aa;assumption)|(apply aq;assumption));(intro i_ hi_ _;obtain rfl:=List.mem_singleton.1 hi_;(apply bm;simp));(intro i_ hi_;cases hi_);rintro _ _ ⟨s9,rfl,⟨hls9,hds9,hcs9⟩,ts9,rfl,hts9⟩ <;>(first|rw [au (by assumption)]|rw [ax (by assumption)]|skip))|(apply Vp;rfl;rfl;apply fnT;rfl;apply (jdd (L:=L) (s:=s9) (text:=⟨#[40]⟩));assumption;omega;(first|(apply aa;assumption)|(apply aq;assumption));rintro _ ⟨(_|_),rfl,hp9⟩)|(apply Vc;rfl;rfl;apply fnT;rfl;apply (params L N hL hW s9 (by omega));(first|(apply aa;assumption)|(apply aq;assumption));(intro i_ hi_ _;obtain rfl:=List.mem_singleton.1 hi_;(apply bm;simp));(intro i_ hi_;cases hi_);rintro _ _ ⟨s10,rfl,⟨hgs10,hls10,hds10,hbs10⟩,ls10,rfl,hBs10,hns10,hzs10⟩ <;>(first|rw [au (by assumption)]|rw [ax (by assumption)]|skip))|(apply Vc;rfl;rfl;apply fnT;rfl;apply (hb s10 false (by omega) (by omega));(first|(apply aa;assumption)|(apply aq;assumption));(intro i_ hi_ _;obtain rfl:=List.mem_singleton.1 hi_;(apply bm;simp));(intro i_ hi_;cases hi_);rintro _ _ ⟨s11,rfl,⟨hgs11,hls11,hds11,hbs11⟩,hps11,ls11,rfl,hBs11,hzs11⟩ <;>(first|rw [au (by assumption)]|rw [ax (by assumption)]|skip))|(apply bt (nt:=133) (.take 0 (.take 1 (.take 2 (.take 3 (.take 4 (.take 5 (.one 6 (.one 7 (.take 8 (.take 9 (.one 10 .nil))))))))))) [] [10];exact co;rfl;decide +kernel)|(apply de (nt:=133) (.take 0 (.take 1 (.take 2 (.take 3 (.take 4 (.take 5 (.one 6 (.one 7 (.take 8 (.take 9 (.one 10 .nil))))))))))) [] [10];exact co;rfl;decide +kernel)|(apply Vc;rfl;rfl;apply fnT;rfl;apply (vm (L:=L) (s:=s9) (text:=⟨#[61]⟩));assumption;omega;(first|(apply aa;assumption)|(apply aq;assumption));(intro i_ hi_ _;obtain rfl:=List.mem_singleton.1 hi_;(apply bm;simp));(intro i_ hi_;cases hi_);rintro _ _ ⟨s12,rfl,hds12,hbs12,hls12,(⟨rfl,hcs12,hzs12⟩|⟨rfl,hcs12⟩)⟩ <;>(first|rw [au (by assumption)]|rw [ax (by assumption)]|skip))|(apply Vc;rfl;rfl;apply fnT;rfl;apply (hx s12 (by omega) (by omega));(first|(apply aa;assumption)|(apply aq;assumption));(intro i_ hi_ _;obtain rfl:=List.mem_singleton.1 hi_;(apply bm;simp));(intro i_ hi_;cases hi_);rintro _ _ ⟨s13,rfl,⟨hgs13,hls13,hds13,hbs13⟩,hps13,⟨ks13,ns13,ts13,nas13,tys13,ls13,os13,nths13⟩,rfl,hBs13,hzs13⟩ <;>(first|rw [au (by assumption)]|rw [ax (by assumption)]|skip))|(apply Vc;rfl;rfl;apply fnT;rfl;apply (rh (L:=L) (s:=s13) (text:=⟨#[59]⟩));assumption;omega;(first|(apply aa;assumption)|(apply aq;assumption));(intro i_ hi_ _;obtain rfl:=List.mem_singleton.1 hi_;(apply bm;simp));(intro i_ hi_;cases hi_);rintro _ _ ⟨s14,rfl,hls14,hds14,rfl,hcs14⟩ <;>(first|rw [au (by assumption)]|rw [ax (by assumption)]|skip))|(apply Vc;rfl;rfl;apply fnT;rfl;apply (rh (L:=L) (s:=s12) (text:=⟨#[59]⟩));assumption;omega;(first|(apply aa;assumption)|(apply aq;assumption));(intro i_ hi_ _;obtain rfl:=List.mem_singleton.1 hi_;(apply bm;simp));(intro i_ hi_;cases hi_);rintro _ _ ⟨s15,rfl,hls15,hds15,rfl,hcs15⟩ <;>(first|rw [au (by assumption)]|rw [ax (by assumption)]|skip))|(apply bt (nt:=133) (.take 0 (.take 1 (.take 2 (.take 3 (.take 4 (.take 5 (.one 6 (.one 7 (.take 8 (.take 9 (.one 10 .nil))))))))))) [] [10];exact co;rfl;decide +kernel)|(apply de (nt:=133) (.take 0 (.take 1 (.take 2 (.take 3 (.take 4 (.take 5 (.one 6 (.one 7 (.take 8 (.take 9 (.one 10 .nil))))))))))) [] [10];exact co;rfl;decide +kernel)|(apply Vw;rfl;(first|(apply d8;rfl;(apply elT;rfl);(apply tyT;rfl);rfl;decide;rfl;rfl)|(apply mf;(apply elT;rfl);(apply tyT;rfl);(apply byT;rfl);rfl;rfl;rfl;decide;rfl;(apply ee (f:=j1) (c:=(⟨st_,false,⟨#[118,111,105,100]⟩,ts5,ls6,ls7⟩:Me));omega;omega;assumption))|(apply mf;(apply elT;rfl);(apply tyT;rfl);(apply byT;rfl);rfl;rfl;rfl;decide;rfl;(apply ee (f:=j1) (c:=(⟨st_,false,ts8,ts9,ls10,ls11⟩:Me));omega;omega;assumption))|(apply mf;(apply elT;rfl);(apply tyT;rfl);(apply byT;rfl);rfl;rfl;rfl;decide;rfl;(apply ee (f:=je) (c:=(⟨st_,ts8,ts9,[(.mk ks13 ns13 ts13 nas13 tys13 ls13 os13 nths13)]⟩:Fi));omega;omega;assumption))|(apply mf;(apply elT;rfl);(apply tyT;rfl);(apply byT;rfl);rfl;rfl;rfl;decide;rfl;(apply ee (f:=je) (c:=(⟨st_,ts8,ts9,[]⟩:Fi));omega;omega;assumption))))|(apply ac;rfl)|apply ak|(apply al;rfl)|apply ah|apply ai|(apply ae;rfl)|(apply af;rfl)|apply ap|apply aw|apply dg|(apply tV;rfl;rfl;(first|(apply bj;(apply tyT;rfl);rfl;(apply at_;exact List.length_set;rfl);rfl)|(apply bz;(apply tyT;rfl);rfl;(apply aa;rw [List.getElem?_set_ne (by omega)];assumption);rfl)|(apply bl;rfl)|(apply bg;rfl)|(apply cb;(apply plT;rfl);rfl;rfl;decide)|(apply ck;rfl)|(apply ed;(apply plT;rfl);rfl));rfl)|(apply oW;rfl;rfl;(first|(apply d8;rfl;(apply elT;rfl);(apply tyT;rfl);rfl;decide;rfl;rfl)|(apply mf;(apply elT;rfl);(apply tyT;rfl);(apply byT;rfl);rfl;rfl;rfl;decide;rfl;(apply ee (f:=j1) (c:=(⟨st_,false,⟨#[118,111,105,100]⟩,ts5,ls6,ls7⟩:Me));omega;omega;assumption))|(apply mf;(apply elT;rfl);(apply tyT;rfl);(apply byT;rfl);rfl;rfl;rfl;decide;rfl;(apply ee (f:=j1) (c:=(⟨st_,false,ts8,ts9,ls10,ls11⟩:Me));omega;omega;assumption))|(apply mf;(apply elT;rfl);(apply tyT;rfl);(apply byT;rfl);rfl;rfl;rfl;decide;rfl;(apply ee (f:=je) (c:=(⟨st_,ts8,ts9,[(.mk ks13 ns13 ts13 nas13 tys13 ls13 os13 nths13)]⟩:Fi));omega;omega;assumption))|(apply mf;(apply elT;rfl);(apply tyT;rfl);(apply byT;rfl);rfl;rfl;rfl;decide;rfl;(apply ee (f:=je) (c:=(⟨st_,ts8,ts9,[]⟩:Fi));omega;omega;assumption)))))
  · (refine jjn (T':=T.set tm (List.flatMap j1 (ms ++ [(⟨st_,false,⟨#[118,111,105,100]⟩,ts5,ls6,ls7⟩:Me)])).length) _ (.inr rfl) (List.prefix_append _ _) (by simp) (aa (by rw [List.getElem?_set_ne hne.symm,List.getElem?_set_self hlt])) rfl (aa (List.getElem?_set_self (by rw [List.length_set];omega))) (yo nm su tf tm fs (ms ++ [(⟨st_,false,⟨#[118,111,105,100]⟩,ts5,ls6,ls7⟩:Me)]) (by rw [List.length_set];omega) (by rw [List.length_set];omega)) ⟨rfl,s7,fs,ms ++ [(⟨st_,false,⟨#[118,111,105,100]⟩,ts5,ls6,ls7⟩:Me)],_,rfl,by simp,(by rw [List.getElem?_set_ne htt.symm];exact hTf),List.getElem?_set_self hltm,(fun t h1 h2=>List.getElem?_set_ne h2.symm),⟨by omega,by omega,by omega,fun h=>by omega⟩,(fun h=>by omega),hBf,(fun m hm=>(List.mem_append.1 hm).elim (hBm m) fun h=>by obtain rfl:=List.mem_singleton.1 h;exact ⟨Nat.le_of_ble_eq_true rfl,hts5,hBs6,hBs7⟩),by simp only [List.length_append,List.length_singleton];omega,fun h=>by rw [jow];simp only [y5];omega⟩)
  · (refine jjn (T':=T.set tf (List.flatMap je (fs ++ [(⟨st_,ts8,ts9,[(.mk ks13 ns13 ts13 nas13 tys13 ls13 os13 nths13)]⟩:Fi)])).length) _ (.inl rfl) (List.prefix_append _ _) (by simp) (aa (by rw [List.getElem?_set_ne hne.symm,List.getElem?_set_self hlt])) rfl (aa (List.getElem?_set_self (by rw [List.length_set];omega))) (yo nm su tf tm (fs ++ [(⟨st_,ts8,ts9,[(.mk ks13 ns13 ts13 nas13 tys13 ls13 os13 nths13)]⟩:Fi)]) ms (by rw [List.length_set];omega) (by rw [List.length_set];omega)) ⟨rfl,s14,fs ++ [(⟨st_,ts8,ts9,[(.mk ks13 ns13 ts13 nas13 tys13 ls13 os13 nths13)]⟩:Fi)],ms,_,rfl,by simp,List.getElem?_set_self hltf,(by rw [List.getElem?_set_ne htt];exact hTm),(fun t h1 h2=>List.getElem?_set_ne h1.symm),⟨by omega,by omega,by omega,fun h=>by omega⟩,(fun h=>by omega),(fun m hm=>(List.mem_append.1 hm).elim (hBf m) fun h=>by obtain rfl:=List.mem_singleton.1 h;exact ⟨hts8,hts9,hBs13,trivial⟩),hBm,by simp only [List.length_append,List.length_singleton];omega,fun h=>by rw [jrq];simp only [jh5,jf];omega⟩)
  · (refine jjn (T':=T.set tf (List.flatMap je (fs ++ [(⟨st_,ts8,ts9,[]⟩:Fi)])).length) _ (.inl rfl) (List.prefix_append _ _) (by simp) (aa (by rw [List.getElem?_set_ne hne.symm,List.getElem?_set_self hlt])) rfl (aa (List.getElem?_set_self (by rw [List.length_set];omega))) (yo nm su tf tm (fs ++ [(⟨st_,ts8,ts9,[]⟩:Fi)]) ms (by rw [List.length_set];omega) (by rw [List.length_set];omega)) ⟨rfl,s15,fs ++ [(⟨st_,ts8,ts9,[]⟩:Fi)],ms,_,rfl,by simp,List.getElem?_set_self hltf,(by rw [List.getElem?_set_ne htt];exact hTm),(fun t h1 h2=>List.getElem?_set_ne h1.symm),⟨by omega,by omega,by omega,fun h=>by omega⟩,(fun h=>by omega),(fun m hm=>(List.mem_append.1 hm).elim (hBf m) fun h=>by obtain rfl:=List.mem_singleton.1 h;exact ⟨hts8,hts9,trivial⟩),hBm,by simp only [List.length_append,List.length_singleton];omega,fun h=>by rw [jrq];simp only [jh5,jf];omega⟩)
  · (refine jjn (T':=T.set tm (List.flatMap j1 (ms ++ [(⟨st_,false,ts8,ts9,ls10,ls11⟩:Me)])).length) _ (.inr rfl) (List.prefix_append _ _) (by simp) (aa (by rw [List.getElem?_set_ne hne.symm,List.getElem?_set_self hlt])) rfl (aa (List.getElem?_set_self (by rw [List.length_set];omega))) (yo nm su tf tm fs (ms ++ [(⟨st_,false,ts8,ts9,ls10,ls11⟩:Me)]) (by rw [List.length_set];omega) (by rw [List.length_set];omega)) ⟨rfl,s11,fs,ms ++ [(⟨st_,false,ts8,ts9,ls10,ls11⟩:Me)],_,rfl,by simp,(by rw [List.getElem?_set_ne htt.symm];exact hTf),List.getElem?_set_self hltm,(fun t h1 h2=>List.getElem?_set_ne h2.symm),⟨by omega,by omega,by omega,fun h=>by omega⟩,(fun h=>by omega),hBf,(fun m hm=>(List.mem_append.1 hm).elim (hBm m) fun h=>by obtain rfl:=List.mem_singleton.1 h;exact ⟨hts8,hts9,hBs10,hBs11⟩),by simp only [List.length_append,List.length_singleton];omega,fun h=>by rw [jow];simp only [y5];omega⟩)
end Go.Proofs.YtinffhimfoicdaaGreat
namespace Go.Proofs.YtinffhimfoicdaaGreat
open Go Go.RowKit Go.Proofs.YtinffhimfoicdaaGreat.Calc
set_option linter.unusedVariables false
set_option linter.unusedSimpArgs false
set_option maxRecDepth 100000
set_option maxHeartbeats 8000000
theorem jox {A:List (List BV × Nat)} {a b:Nat} {x y:List BV × Nat} (h:a < A.length) (hn:a ≠ b):(((A ++ []).set a x).set b y)[a]? = some x:=by
  rw [List.append_nil,List.getElem?_set_ne hn.symm,List.getElem?_set_self h]
theorem jrr {A:List (List BV × Nat)} {a b:Nat} {x y:List BV × Nat} (h:b < A.length):(((A ++ []).set a x).set b y)[b]? = some y:=by
  rw [List.append_nil,List.getElem?_set_self (by rw [List.length_set];exact h)]
theorem jm6 {A:List (List BV × Nat)} {a b k:Nat} {x y z:List BV × Nat} (ha:k ≠ a) (hb:k ≠ b) (h:A[k]? = some z):(((A ++ []).set a x).set b y)[k]? = some z:=by
  rw [List.append_nil,List.getElem?_set_ne hb.symm,List.getElem?_set_ne ha.symm,h]
theorem qo {A:List (List BV × Nat)} {a k:Nat} {x z:List BV × Nat} (ha:k ≠ a) (h:A[k]? = some z):(A.set a x)[k]? = some z:=by
  rw [List.getElem?_set_ne ha.symm,h]
theorem jlq (p:List Cl) (c:Cl):szP (p ++ [c]) = szP p + vd c:=by simp [szP]
theorem jjo:OKP [] ∧([]:List Cl).length ≤ 20:=⟨by simp [OKP],by decide⟩
theorem jdg {C:Cx} {c:Code} {ρ:Rg} {S:List (List BV × Nat)} {T:List Nat} {M:List (List (Value × DV))} {Q:nl} {κ:Type} (μ:κ → Nat) (R:κ → List (Nat × BV)) (I:κ → List (List BV × Nat) → List Nat → List (List (Value × DV)) → Prop) (k:κ) (hI:I k S T M) (h0:ng ρ (R k))
    (hr:∀ k S1 T1 M1,I k S1 T1 M1 → Tri C c (rg (R k)) ⟨S1 ++ [],T1 ++ [],M1⟩ (d7 (fun ρ' st'=>∃ k' S2 T2 M2,μ k' < μ k ∧ I k' S2 T2 M2 ∧ ng ρ' (R k') ∧ st' = ⟨S2,T2,M2⟩) Q)):Tri C (.loop c) ρ ⟨S,T,M⟩ Q:=by
  refine fh (κ:=κ × List (List BV × Nat) × List Nat × List (List (Value × DV))) (fun k=>μ k.1) (fun k=>R k.1) (fun k=>⟨k.2.1,k.2.2.1,k.2.2.2⟩) (fun k=>I k.1 k.2.1 k.2.2.1 k.2.2.2) (k,S,T,M) hI h0 rfl ?_
  rintro ⟨k,S1,T1,M1⟩ hk
  have:=hr k S1 T1 M1 hk
  rw [List.append_nil,List.append_nil] at this
  refine r9 this fun ex ρ' st' h=>?_
  cases ex with
  | normal =>
    obtain ⟨k',S2,T2,M2,h1,h2,h3,h4⟩:=h
    exact ⟨(k',S2,T2,M2),h1,h2,h3,h4⟩
  | exit id=>exact h
  | ret=>exact h
theorem joy {T T1 T':List Nat} {tf tm:Nat} (h:T <+: T1) (hl:T'.length = T1.length) (ho:∀ t,t ≠ tf → t ≠ tm → T'[t]? = T1[t]?) (hf:T.length ≤ tf) (hm:T.length ≤ tm):T <+: T':=by
  rw [List.prefix_iff_getElem?] at h ⊢
  intro i hi
  rw [ho i (by omega) (by omega)]
  exact h i hi
theorem joz {C:Cx} {c:Code} {ρ:Rg} {A:List (List BV × Nat)} {T:List Nat} {M:List (List (Value × DV))} {Q:nl} {nm su:ByteArray} {n:Nat} (hn:A.length = n)
    (h:∀(S2:List (List BV × Nat)) (T2:List Nat) (tf tm:Nat),n + 1 ≤ S2.length → T.length ≤ tf → T.length ≤ tm → tf ≠ tm →(∀(k:Nat) (z:List BV × Nat),A[k]? = some z → S2[k]? = some z) → S2[n + 0]? = some (clB nm su tf tm [] [],37) →(∀(k z:Nat),T[k]? = some z → T2[k]? = some z) → T <+: T2 → T2[tf]? = some 0 → T2[tm]? = some 0 → Tri C c ρ ⟨S2 ++ [],T2 ++ [],M⟩ Q) :
    Tri C c ρ ⟨A ++ [([.d (dS nm),.d (dS su),.tight [] 0,.tight [] 0],37)],T,M⟩ Q:=by
  subst hn
  refine j4 (id:=A.length + 0) (j:=2) 76 4 (at_ rfl rfl) rfl ?_
  refine j4 (id:=A.length + 0) (j:=3) 98 6 (List.getElem?_set_self (by simp)) rfl ?_
  have:=h (((A ++ [([BV.d (dS nm),.d (dS su),.tight [] 0,.tight [] 0],37)]).set (A.length + 0) (clB nm su T.length T.length [] [],37)).set (A.length + 0) (clB nm su T.length (T.length + 1) [] [],37)) (T ++ [0] ++ [0]) T.length (T.length + 1) (by simp) (Nat.le_refl _) (by omega) (by omega)
    (fun k z hz=>by have hk:=(List.getElem?_eq_some_iff.1 hz).1;rw [List.getElem?_set_ne (by omega),List.getElem?_set_ne (by omega),List.getElem?_append_left hk];exact hz) (List.getElem?_set_self (by simp)) (fun k z hz=>aa (aa hz)) (by simp) (by simp) (by simp)
  rw [List.append_nil,List.append_nil,List.set_set] at this
  rw [List.set_set]
  have e:(T ++ [0]).length = T.length + 1:=by simp
  rw [e]
  exact this
theorem jo0 (nm su:ByteArray) (fs:List Fi) (ms:List Me):vd ⟨nm,su,fs,ms⟩ = 1 + szB fs ms:=by simp only [vd,szB];omega
def PrI (L:List Wd) (w:Ws) (p:List Cl):Prop:=w.deep = 0 ∧ w.loc ≤ L.length ∧ p.length ≤ 8001 ∧(w.bad = 0 → p.length ≤ w.loc) ∧ BP p ∧(w.bad = 0 → szP p ≤ 2 * w.loc)
attribute [local irreducible] Tri ew er ci bn db d7 inQ jb
theorem jyw (s:ByteArray) (hs:s.size ≤ 1000000):PC 24 [vS s] (fun r=>∃(p:List Cl) (e a:Int),r = .tup [vP p,vI e,vI a] ∧ BP p ∧ szP p ≤ 1000000 ∧ OKP p ∧ p.length ≤ 20):=by
  have h44:=jx1 s hs
  intro S T M
  refine am [] [] Tryz.func24 rfl Tryz.ntmps24 Tryz.results24 ?_
  repeat' (first|apply ab|(apply V;rfl;(first|(apply bl;rfl)|(apply bg;rfl)|(apply fx;(apply udT;rfl);rfl)|(apply eu;rfl;rfl)|(apply ed;(apply plT;rfl);rfl)))|(apply Vp;rfl;rfl;apply fnT;rfl;apply h44;rintro _ ⟨L,e,a,rfl,hL,hW0⟩)|(apply Vd;rfl;(apply fb;rfl;rfl);all_goals intro h_)|(apply Vw;rfl;(first|(apply cd;rfl;(apply tyT;rfl))|(apply cj;rfl;rfl;rfl)))|(apply Vs;rfl;(apply bw;rfl;(apply tyT;rfl);rfl;rfl;rfl;(first|apply bc|(apply bh;omega));rfl;rfl;(first|decide|(apply Nat.le_of_ble_eq_true;rfl))))|(apply ac;rfl)|apply ak|apply aj|apply ah|apply ai|(apply ae;rfl)|(apply af;rfl)|(apply bf _ (.inr rfl);(exact List.prefix_append _ _);(focus repeat (first|apply a8|(apply a9;rfl)|(apply cp;rfl;rfl;apply tyT;rfl;rfl;rfl)));rfl)|apply ap|apply aw)
  · exact ⟨[],_,_,rfl,by simp [BP],by simp [szP],jjo⟩
  · have hW:∀ w ∈ L,w.text.size ≤ 1000000:=fun w h=>Nat.le_trans (hW0 w h) hs
    refine j4 (id:=S.length + 2) (j:=0) 37 4 (at_ rfl rfl) rfl ?_
    refine jdg (fun k:Ws × List Cl=>muW L k.1) (fun k=>[(0,vS s),(2,.ptr (S.length + 0) 0),(8,.ptr (S.length + 1) 0),(9,.ptr (S.length + 2) 0)]) (fun k S1 T1 M1=>M1 = M ∧ T <+: T1 ∧ S.length + 3 ≤ S1.length ∧ S1[S.length + 0]? = some ([.tight [] 0],26) ∧ S1[S.length + 1]? = some (jet L s.size k.1,105) ∧ S1[S.length + 2]? = some ([.own 37 4 (T.length + 0) (k.2.flatMap df) k.2.length],26) ∧ T1[T.length + 0]? = some (k.2.flatMap df).length ∧ PrI L k.1 k.2) (⟨0,0,0,0,false,0⟩,[]) ⟨rfl,by simp,by simp,by simp,by simp;rfl,by simp,by simp,rfl,by simp,by simp,by simp,by simp [BP],by simp [szP]⟩ ⟨rfl,rfl,rfl,rfl,trivial⟩ ?_
    rintro ⟨w,p⟩ S1 T1 M1 ⟨rfl,hT1,hS1,hb0,hb1,hb2,hTp,hI⟩
    dsimp only at hb1 hb2 hTp hI ⊢
    obtain ⟨hwd,hwl,hpn,hpn',hBp,hzp⟩:=hI
    have hlt0:S.length + 0 < S1.length:=by omega
    have hlt1:S.length + 1 < S1.length:=by omega
    have hlt2:S.length + 2 < S1.length:=by omega
    repeat' (first|apply ab|(apply V;rfl;(first|(apply bl;rfl)|(apply bg;rfl)|(apply cb;(apply plT;rfl);rfl;rfl;decide)|(apply bj;(apply tyT;rfl);rfl;(apply aa;assumption);rfl)|(apply bz;(apply tyT;rfl);rfl;(apply aa;assumption);rfl)|(apply bq;(apply elT;rfl);rfl;rfl)|(apply ck;rfl)|(apply ca;rfl;rfl)|(apply bu;rfl;rfl)|(apply cg;rfl)|(apply ed;(apply plT;rfl);rfl)))|(apply Vw;rfl;(apply cd;exact List.length_set;(apply tyT;rfl)))|(apply Vs;rfl;(apply bw;exact List.length_set;(apply tyT;rfl);rfl;rfl;rfl;(first|apply bc|(apply bh;omega));rfl;rfl;(first|decide|(apply Nat.le_of_ble_eq_true;rfl))))|(apply bt (nt:=107) (.take 0 (.take 1 (.take 2 (.take 3 (.take 4 (.take 5 (.take 6 (.take 7 (.take 8 (.take 9 (.take 10 (.take 11 (.take 12 (.take 13 (.take 14 (.take 15 (.take 16 .nil))))))))))))))))) [] [];exact co;rfl;decide +kernel)|(show Tri _ (.seq (.seq (.region 9 _ _) _) _) _ _ _;apply ju (fun ρ st=>∃ w4 su,su.size ≤ 1000000 ∧ w4.deep = 0 ∧ w4.loc ≤ L.length ∧ w.loc ≤ w4.loc ∧(w4.bad = 0 → w.loc + 2 ≤ w4.loc) ∧ st = ⟨S1.set (S.length + 1) (jet L s.size w4,105) ++ [([.d (dS tc),.d (dS su),.tight [] 0,.tight [] 0],37)],T1 ++ [],M1⟩ ∧ ng ρ [(0,vS s),(2,.ptr (S.length + 0) 0),(8,.ptr (S.length + 1) 0),(9,.ptr (S.length + 2) 0),(10,.ptr (S1.length + 0) 0)]))|(apply Vc;rfl;rfl;apply fnT;rfl;apply (rh (L:=L) (s:=w));omega;assumption;(first|(apply aa;assumption)|(apply aq;assumption));(intro i_ hi_ _;obtain rfl:=List.mem_singleton.1 hi_;(apply bh;omega));(intro i_ hi_;cases hi_);rintro _ _ ⟨w2,rfl,hls2,hds2,rfl,hcs2⟩ <;>(first|rw [au (by assumption)]|rw [ax (by assumption)]|skip))|(apply Vc;rfl;rfl;apply fnT;rfl;apply (jp9 (L:=L) (s:=w2));omega;assumption;omega;(first|(apply aa;assumption)|(apply aq;assumption));(intro i_ hi_ _;obtain rfl:=List.mem_singleton.1 hi_;(apply bh;omega));(intro i_ hi_;cases hi_);rintro _ _ ⟨w3,rfl,⟨hls3,hds3,hcs3⟩,tc,rfl,htc⟩ <;>(first|rw [au (by assumption)]|rw [ax (by assumption)]|skip))|(apply Vc;rfl;rfl;apply fnT;rfl;apply (vm (L:=L) (s:=w3));omega;omega;(first|(apply aa;assumption)|(apply aq;assumption));(intro i_ hi_ _;obtain rfl:=List.mem_singleton.1 hi_;(apply bh;omega));(intro i_ hi_;cases hi_);rintro _ _ ⟨w4,rfl,hds4,hbs4,hls4,(⟨rfl,hcs4,hzs4⟩|⟨rfl,hcs4⟩)⟩ <;>(first|rw [au (by assumption)]|rw [ax (by assumption)]|skip))|(apply Vc;rfl;rfl;apply fnT;rfl;apply (jp9 (L:=L) (s:=w4));omega;assumption;omega;(first|(apply aa;assumption)|(apply aq;assumption));(intro i_ hi_ _;obtain rfl:=List.mem_singleton.1 hi_;(apply bh;omega));(intro i_ hi_;cases hi_);rintro _ _ ⟨w5,rfl,⟨hls5,hds5,hcs5⟩,tu,rfl,htu⟩ <;>(first|rw [au (by assumption)]|rw [ax (by assumption)]|skip))|(apply bt (nt:=107) (.take 0 (.take 1 (.take 2 (.take 3 (.take 4 (.take 5 (.take 6 (.take 7 (.take 8 (.one 9 (.take 10 (.take 11 .nil)))))))))))) [S.length + 0] [];exact co;rfl;decide +kernel)|(apply bt (nt:=107) (.take 0 (.take 1 (.take 2 (.take 3 (.take 4 (.one 5 (.take 6 (.take 7 .nil)))))))) [S.length + 0] [];exact co;rfl;decide +kernel)|(apply tV;rfl;rfl;(apply bz;(apply tyT;rfl);rfl;(apply aa;assumption);rfl);(apply ek;rfl;(simp)))|(apply oS;rfl;rfl;(apply fg;(apply tyT;rfl);rfl;rfl;assumption;(apply e8;omega;(simp));rfl;rfl;(first|decide|(apply Nat.le_of_ble_eq_true;rfl))))|(apply Vs;rfl;(apply fg;(apply tyT;rfl);rfl;rfl;assumption;(apply bh;omega);rfl;rfl;(first|decide|(apply Nat.le_of_ble_eq_true;rfl))))|(apply vz w.late;rfl;all_goals intro hla_)|(apply Vp;rfl;rfl;apply fnT;rfl;apply ea;rfl;apply (js4 p);omega;assumption;rintro _ ⟨(_|_),rfl,hq_⟩)|(apply bf _ (.inr rfl);(apply av;assumption);(focus repeat (first|apply a8|(apply a9;rfl)|(apply ez;rfl;apply tyT;rfl;exact List.getElem?_set_self (by assumption);rfl)));rfl)|(apply Vd;rfl;(first|(apply cu;rfl;rfl)|(apply dq;rfl;rfl)|(apply fb;rfl;rfl));all_goals intro h_)|(apply ac;rfl)|apply ak|(apply al;rfl)|apply aj|apply ah|apply bd|apply ai|(apply ae;rfl)|(apply af;rfl)|apply ap|apply ey|apply cq|apply dm|apply aw|apply bo|apply dg|(apply tV;rfl;rfl;(first|(apply bl;rfl)|(apply bg;rfl)|(apply cb;(apply plT;rfl);rfl;rfl;decide)|(apply bj;(apply tyT;rfl);rfl;(apply aa;assumption);rfl)|(apply bz;(apply tyT;rfl);rfl;(apply aa;assumption);rfl)|(apply bq;(apply elT;rfl);rfl;rfl)|(apply ck;rfl)|(apply ca;rfl;rfl)|(apply bu;rfl;rfl)|(apply cg;rfl)|(apply ed;(apply plT;rfl);rfl));rfl)|(apply tVd;rfl;rfl;(first|(apply cu;rfl;rfl)|(apply dq;rfl;rfl)|(apply fb;rfl;rfl));rfl;all_goals intro h_)|(apply tVo;rfl;rfl))
    all_goals first
      | exact ⟨w5,tu,htu,by omega,by omega,by omega,fun h=>by omega,rfl,rfl,rfl,rfl,rfl,rfl,trivial⟩
      | exact ⟨w4,⟨#[]⟩,Nat.le_of_ble_eq_true rfl,by omega,by omega,by omega,fun h=>by omega,rfl,rfl,rfl,rfl,rfl,rfl,trivial⟩
      | exact ⟨[],_,_,rfl,by simp [BP],by simp [szP],jjo⟩
      | exact ⟨p,_,_,rfl,hBp,by omega,hq_ rfl⟩
      | skip
    rintro ρ st ⟨w4,su,hsu,hwd4,hwl4,hwg4,hwz4,rfl,hR⟩
    refine c9 (dt hR) ?_
    clear hR
    refine joz List.length_set ?_
    intro S2 T2 tf tm hS2 htf htm hne ho2 hc2 hoT hT2 hTf hTm
    have htf':T.length < tf:=by have:=(List.getElem?_eq_some_iff.1 hTp).1;simp only [List.append_nil] at htf;omega
    have htm':T.length < tm:=by have:=(List.getElem?_eq_some_iff.1 hTp).1;simp only [List.append_nil] at htm;omega
    have hT2':T <+: T2:=hT1.trans ((List.prefix_append _ _).trans hT2)
    have g0:=ho2 (S.length + 0) _ (qo (by omega) hb0)
    have g1:=ho2 (S.length + 1) _ (List.getElem?_set_self hlt1)
    have g2:=ho2 (S.length + 2) _ (qo (by omega) hb2)
    have gT:=hoT (T.length + 0) _ (aa hTp)
    have glt:S.length + 1 < S2.length:=by omega
    repeat' (first|apply ab|(apply V;rfl;(apply bl;rfl))|(apply Vc;rfl;rfl;apply fnT;rfl;apply (rh (L:=L) (s:=w4));omega;assumption;(first|(apply aa;assumption)|(apply aq;assumption));(intro i_ hi_ _;obtain rfl:=List.mem_singleton.1 hi_;(apply bh;omega));(intro i_ hi_;cases hi_);rintro _ _ ⟨w5,rfl,hls5,hds5,rfl,hcs5⟩ <;>(first|rw [au (by assumption)]|rw [ax (by assumption)]|skip))|(apply ac;rfl)|apply ak|apply aj)
    refine jdg (fun k:Ws × List Fi × List Me=>muW L k.1) (fun k=>[(0,vS s),(2,.ptr (S.length + 0) 0),(8,.ptr (S.length + 1) 0),(9,.ptr (S.length + 2) 0),(10,.ptr (S1.length + 0) 0)]) (fun k S3 T3 M3=>M3 = M1 ∧ T <+: T3 ∧ S1.length + 1 ≤ S3.length ∧ S3[S.length + 0]? = some ([.tight [] 0],26) ∧ S3[S.length + 1]? = some (jet L s.size k.1,105) ∧ S3[S.length + 2]? = some ([.own 37 4 (T.length + 0) (p.flatMap df) p.length],26) ∧ S3[S1.length + 0]? = some (clB tc su tf tm k.2.1 k.2.2,37) ∧ T3[T.length + 0]? = some (p.flatMap df).length ∧ T3[tf]? = some (k.2.1.flatMap je).length ∧ T3[tm]? = some (k.2.2.flatMap j1).length ∧ k.1.deep = 0 ∧ k.1.loc ≤ L.length ∧ w4.loc ≤ k.1.loc ∧ k.2.1.length + k.2.2.length ≤ 8001 ∧(k.1.bad = 0 → k.2.1.length + k.2.2.length ≤ k.1.loc) ∧(∀ f ∈ k.2.1,BFi f) ∧(∀ m ∈ k.2.2,BMe m) ∧(k.1.bad = 0 → szB k.2.1 k.2.2 + 2 * w.loc + 4 ≤ 2 * k.1.loc)) (w5,[],[])
      ⟨rfl,av hT2',by simpa using hS2,aa (qo (by omega) g0),aa (List.getElem?_set_self glt),aa (qo (by omega) g2),aa (qo (by omega) hc2),aa gT,aa hTf,aa hTm,by dsimp only;omega,by dsimp only;omega,by dsimp only;omega,by simp,fun _=>by simp,by simp,by simp,fun h=>by dsimp only at h;simp only [szB,List.map_nil,List.sum_nil];omega⟩ ⟨rfl,rfl,rfl,rfl,rfl,trivial⟩ ?_
    rintro ⟨w6,fs,ms⟩ S3 T3 M3 ⟨rfl,hT3,hS3,f0,f1,f2,fc,fT,fTf,fTm,hd6,hl6,hg6,hn6,hn6',hBf,hBm,hz6⟩
    dsimp only at f1 fc fTf fTm hd6 hl6 hg6 hn6 hn6' hBf hBm hz6 ⊢
    have ylt:S.length + 1 < S3.length:=by omega
    have hne2:S.length + 1 ≠ S1.length + 0:=by omega
    repeat' (first|apply ab|(apply V;rfl;(first|(apply bj;(apply tyT;rfl);rfl;(apply aa;exact qo (by omega) (by assumption));rfl)|(apply bz;(apply tyT;rfl);rfl;(apply aa;exact qo (by omega) (by assumption));rfl)|(apply bl;rfl)|(apply cb;(apply plT;rfl);rfl;rfl;decide)|(apply bz;(apply tyT;rfl);rfl;(apply aa;assumption);rfl)|(apply ck;rfl)|(apply ca;rfl;rfl)|(apply bu;rfl;rfl)|(apply cg;rfl)))|(apply Vp;rfl;rfl;apply fnT;rfl;apply (jdd (L:=L) (s:=w6) (text:=⟨#[125]⟩));assumption;omega;(first|(apply aa;assumption)|(apply aq;assumption));rintro _ ⟨(_|_),rfl,hj_⟩)|(apply Vc;rfl;rfl;apply fnT;rfl;apply (jm5 L s.size hL hW tc su tf tm hne w6 hd6 hl6 fs ms (by omega) hBf hBm (S3 ++ []) (T3 ++ []) _ (S.length + 1) (S1.length + 0) hne2 (aa f1) (aa fc) (aa fTf) (aa fTm));(intro i_ hi_ _;simp only [List.mem_cons,List.not_mem_nil,or_false] at hi_;rcases hi_ with rfl|rfl <;>(apply bh;omega));(intro i_ hi_;cases hi_);rintro _ _ ⟨rfl,w7,fs',ms',T7,rfl,hT7l,hT7f,hT7m,hT7o,⟨hg7,hl7,hd7,hb7⟩,hp7,hBf7,hBm7,hn7,hz7⟩)|(apply Vc;rfl;rfl;apply fnT;rfl;apply (rh (L:=L) (s:=w6));omega;assumption;(first|(apply aa;assumption)|(apply aq;assumption));(intro i_ hi_ _;obtain rfl:=List.mem_singleton.1 hi_;(apply bh;omega));(intro i_ hi_;cases hi_);rintro _ _ ⟨w8,rfl,hls8,hds8,rfl,hcs8⟩ <;>(first|rw [au (by assumption)]|rw [ax (by assumption)]|skip))|(apply Vs;rfl;(apply fg;(apply tyT;rfl);rfl;rfl;(exact qo (by omega) (by assumption));(apply bh;omega);rfl;rfl;(first|decide|(apply Nat.le_of_ble_eq_true;rfl))))|(apply Vd;rfl;(apply dq;rfl;rfl);all_goals intro h_)|(apply Vo;rfl)|(apply Vw;rfl;(first|(apply d8;rfl;(apply elT;rfl);(apply tyT;rfl);rfl;decide;rfl;rfl)|(apply mf;(apply elT;rfl);(apply tyT;rfl);(apply byT;rfl);rfl;rfl;rfl;decide;rfl;(apply ee (f:=df) (c:=(⟨tc,su,fs,ms⟩:Cl));omega;omega;assumption))))|(apply ac;rfl)|apply ak|(apply al;rfl)|apply aj|apply ah|apply bd|(apply ae;rfl)|(apply af;rfl)|apply ap|apply ey|apply cq|apply bo)
    · rw [List.append_nil] at hT7l hT7o
      refine ⟨(w7,fs',ms'),_,_,_,jov (by assumption) hl6 hp7,⟨rfl,joy hT3 hT7l hT7o (Nat.le_of_lt htf') (Nat.le_of_lt htm'),by simpa using hS3,jm6 (by omega) (by omega) f0,jox ylt hne2,jm6 (by omega) (by omega) f2,jrr (by omega),by rw [hT7o _ (by omega) (by omega)];exact fT,hT7f,hT7m,by dsimp only;omega,hl7,by dsimp only;omega,by dsimp only;omega,?_,hBf7,hBm7,?_⟩,⟨rfl,rfl,rfl,rfl,rfl,trivial⟩,rfl⟩
      · intro h
        have h1:=hp7 h
        have h2:=hn6' (by assumption)
        dsimp only at h ⊢
        omega
      · intro h
        have h1:=hp7 h
        have h2:=hz7 h
        have h3:=hz6 (by assumption)
        dsimp only at h ⊢
        omega
    all_goals
      refine ⟨(w8,p ++ [⟨tc,su,fs,ms⟩]),_,_,_,jov (s':=w8) (by assumption) hwl (fun h=>by omega),⟨rfl,av (dc hT3 (by omega)),by simp only [List.append_nil,List.length_set];omega,aa (qo (by omega) (qo (by omega) f0)),aa (qo (by omega) (List.getElem?_set_self (by omega))),aa (List.getElem?_set_self (by rw [List.length_set];omega)),aa (List.getElem?_set_self (List.getElem?_eq_some_iff.1 fT).1),by dsimp only;omega,hls8,?_,?_,?_,?_⟩,⟨rfl,rfl,rfl,rfl,trivial⟩,rfl⟩
      · simp only [List.length_append,List.length_singleton]
        have:=hpn' (by assumption)
        omega
      · intro h
        simp only [List.length_append,List.length_singleton]
        have:=hpn' (by assumption)
        dsimp only at h ⊢
        omega
      · intro c hc
        rcases List.mem_append.1 hc with h|h
        · exact hBp c h
        · obtain rfl:=List.mem_singleton.1 h
          exact ⟨htc,hsu,hBf,hBm⟩
      · intro h
        rw [jlq,jo0]
        have:=hzp (by assumption)
        dsimp only at h ⊢
        omega
end Go.Proofs.YtinffhimfoicdaaGreat
namespace Go.Proofs.YtinffhimfoicdaaGreat.Calc
open Go Go.RowKit
set_option linter.unusedVariables false
set_option linter.unusedSimpArgs false
mutual
def inD (nm:Nat):DV → Bool
  | .flat _=>true
  | .sl cs _=>jh7 nm cs
  | .agg l=>jh7 nm l
  | .iface _ y=>inD nm y
  | .map id=>Nat.blt id nm
  | .row id _=>Nat.blt id nm
def jh7 (nm:Nat):List DV → Bool
  | []=>true
  | d :: l=>inD nm d && jh7 nm l
end
mutual
def inB (nb nt nm:Nat):BV → Bool
  | .d y=>inD nm y
  | .agg l=>jdh nb nt nm l
  | .own _ _ t cs _=>Nat.blt t nt && jh7 nm cs
  | .tight cs _=>jh7 nm cs
  | .ptr id _=>Nat.blt id nb
  | .eptr cs=>jh7 nm cs
  | .fn _ cap=>jdh nb nt nm cap
  | .tup l=>jdh nb nt nm l
  | .bsl id _=>Nat.blt id nb
  | .fresh _ _ t _ _=>Nat.blt t nt
  | .mp id _=>Nat.blt id nm
  | .any=>true
def jdh (nb nt nm:Nat):List BV → Bool
  | []=>true
  | b :: l=>inB nb nt nm b && jdh nb nt nm l
end
structure Fewer (z z':Full) (nb nt nm:Nat):Prop where
  w:z'.w = z.w
  F:z'.F = z.F
  pb:∀ i,i < nb → z'.pb i = z.pb i
  pt:∀ i,i < nt → z'.pt i = z.pt i
  pm:∀ i,i < nm → z'.pm i = z.pm i
  S:nb ≤ z'.st.S.length
  T:∀ t k,t < nt → z.st.T[t]? = some k → z'.st.T[t]? = some k
  M:nm ≤ z'.st.M.length
theorem jgp {nm:Nat}:∀ {cs:List DV},cs.all jb9 = true → jh7 nm cs = true
  | [],_=>rfl
  | d :: l,h=>by
    simp only [List.all_cons,Bool.and_eq_true] at h
    rw [jh7,jgp h.2,Bool.and_true]
    cases d with
    | flat v=>rfl
    | _=>cases h.1
theorem tv {a b:Nat} (h:Nat.blt a b = true):a < b:=Nat.le_of_ble_eq_true h
mutual
theorem m7 {z z':Full} {nb nt nm:Nat} (h:Fewer z z' nb nt nm):∀ {d:DV} {v:Value},RepD z d v → inD nm d = true → RepD z' d v
  | _,_,.flat v hf,hi=>.flat v hf
  | _,_,.nil,hi=>.nil
  | _,_,.emp a cap hm,hi=>.emp a cap hm
  | _,_,.sl b off n cap cs vs hc hm h1 hv hr,hi=>by
    rw [inD] at hi
    refine .sl b off n cap cs vs hc hm h1 (fun i u hu=>?_) (pc h hr hi)
    rw [h.F,h.w]
    exact hv i u hu
  | _,_,.agg l vs hr,hi=>by
    rw [inD] at hi
    exact .agg l vs (pc h hr hi)
  | _,_,.iface t y v hr,hi=>by
    rw [inD] at hi
    exact .iface t y v (m7 h hr hi)
  | _,_,.map id hl,hi=>by
    rw [inD] at hi
    have hlt:=tv hi
    rw [← h.pm id hlt]
    exact .map id (Nat.lt_of_lt_of_le hlt h.M)
  | _,_,.row id n cap hl hc hm,hi=>by
    rw [inD] at hi
    have hlt:=tv hi
    rw [← h.pm id hlt]
    exact .row id n cap (Nat.lt_of_lt_of_le hlt h.M) hc hm
theorem pc {z z':Full} {nb nt nm:Nat} (h:Fewer z z' nb nt nm):∀ {l:List DV} {vs:List Value},RepDs z l vs → jh7 nm l = true → RepDs z' l vs
  | _,_,.nil,hi=>.nil
  | _,_,.cons y v l vs h1 h2,hi=>by
    rw [jh7,Bool.and_eq_true] at hi
    exact .cons y v l vs (m7 h h1 hi.1) (pc h h2 hi.2)
end
mutual
theorem jew {z z':Full} {nb nt nm:Nat} (h:Fewer z z' nb nt nm):∀ {b:BV} {v:Value},RepB z b v → inB nb nt nm b = true → RepB z' b v
  | _,_,.d y v hr,hi=>by
    rw [inB] at hi
    exact .d y v (m7 h hr hi)
  | _,_,.agg l vs hr,hi=>by
    rw [inB] at hi
    exact .agg l vs (m8 h hr hi)
  | _,_,.own e sz t cs n k v hr hk hle ho,hi=>by
    rw [inB,Bool.and_eq_true] at hi
    have hlt:=tv hi.1
    have hD:inD nm (.sl cs n) = true:=by rw [inD];exact hi.2
    refine .own e sz t cs n k v (m7 h hr hD) (h.T t k hlt hk) hle (fun e1=>?_)
    rcases ho e1 with ⟨a1,vs,a2,a3⟩|a
    · exact .inl ⟨a1.trans (h.pt t hlt).symm,vs,by rw [h.w];exact a2,pc h a3 hi.2⟩
    · exact .inr ⟨(h.pt t hlt).trans a.1,a.2⟩
  | _,_,.tight cs n base hr,hi=>by
    rw [inB] at hi
    exact .tight cs n base (m7 h hr (by rw [inD];exact hi))
  | _,_,.ptr id off hl,hi=>by
    rw [inB] at hi
    have hlt:=tv hi
    rw [← h.pb id hlt]
    exact .ptr id off (Nat.lt_of_lt_of_le hlt h.S)
  | _,_,.eptr b off cs vs hv hr,hi=>by
    rw [inB] at hi
    refine .eptr b off cs vs (fun i u hu=>?_) (pc h hr hi)
    rw [h.F,h.w]
    exact hv i u hu
  | _,_,.fn f cap vs hr,hi=>by
    rw [inB] at hi
    exact .fn f cap vs (m8 h hr hi)
  | _,_,.tup l vs hr,hi=>by
    rw [inB] at hi
    exact .tup l vs (m8 h hr hi)
  | _,_,.bsl id n cap hl hc hm,hi=>by
    rw [inB] at hi
    have hlt:=tv hi
    rw [← h.pb id hlt]
    exact .bsl id n cap (Nat.lt_of_lt_of_le hlt h.S) hc hm
  | _,_,.fresh e sz t cs n k v hv hp hk hle ho,hi=>by
    rw [inB] at hi
    have hlt:=tv hi
    refine .fresh e sz t cs n k v hv hp (h.T t k hlt hk) hle (fun e1=>?_)
    rcases ho e1 with ⟨a1,a0,vs,a2,a3⟩|a
    · exact .inl ⟨a1.trans (h.pt t hlt).symm,by rw [h.pt t hlt,h.F];exact a0,vs,by rw [h.w];exact a2,pc h a3 (jgp hp)⟩
    · exact .inr ⟨(h.pt t hlt).trans a.1,a.2⟩
  | _,_,.mp id off hl,hi=>by
    rw [inB] at hi
    have hlt:=tv hi
    rw [← h.pm id hlt]
    exact .mp id off (Nat.lt_of_lt_of_le hlt h.M)
  | _,_,.any v,hi=>.any v
theorem m8 {z z':Full} {nb nt nm:Nat} (h:Fewer z z' nb nt nm):∀ {l:List BV} {vs:List Value},RepBs z l vs → jdh nb nt nm l = true → RepBs z' l vs
  | _,_,.nil,hi=>.nil
  | _,_,.cons y v l vs h1 h2,hi=>by
    rw [jdh,Bool.and_eq_true] at hi
    exact .cons y v l vs (jew h h1 hi.1) (m8 h h2 hi.2)
end
def jte (st:St):Bool:=st.S.all (fun c=>jdh st.S.length st.T.length st.M.length c.1) && st.M.all (fun es=>es.all fun e=>inD st.M.length e.2)
def jex (st:St) (B:List (List BV × Nat)) (U:List Nat) (N:List (List (Value × DV))):St:=⟨st.S ++ B,st.T ++ U,st.M ++ N⟩
mutual
theorem qp {z:Full}:∀ {d:DV} {v:Value},RepD z d v → inD z.st.M.length d = true
  | _,_,.flat v hf=>rfl
  | _,_,.nil=>rfl
  | _,_,.emp a cap hm=>by rw [inD];rfl
  | _,_,.sl b off n cap cs vs hc hm h1 hv hr=>by rw [inD];exact we hr
  | _,_,.agg l vs hr=>by rw [inD];exact we hr
  | _,_,.iface t y v hr=>by rw [inD];exact qp hr
  | _,_,.map id hl=>by rw [inD];exact Nat.ble_eq_true_of_le hl
  | _,_,.row id n cap hl hc hm=>by rw [inD];exact Nat.ble_eq_true_of_le hl
theorem we {z:Full}:∀ {l:List DV} {vs:List Value},RepDs z l vs → jh7 z.st.M.length l = true
  | _,_,.nil=>rfl
  | _,_,.cons y v l vs h1 h2=>by rw [jh7,qp h1,we h2];rfl
end
mutual
theorem jey {z:Full}:∀ {b:BV} {v:Value},RepB z b v → inB z.st.S.length z.st.T.length z.st.M.length b = true
  | _,_,.d y v hr=>by rw [inB];exact qp hr
  | _,_,.agg l vs hr=>by rw [inB];exact m9 hr
  | _,_,.own e sz t cs n k v hr hk hle ho=>by
    have hD:=qp hr
    rw [inD] at hD
    rw [inB,hD,Bool.and_true]
    exact Nat.ble_eq_true_of_le (List.getElem?_eq_some_iff.1 hk).1
  | _,_,.tight cs n base hr=>by
    have hD:=qp hr
    rw [inD] at hD
    rw [inB]
    exact hD
  | _,_,.ptr id off hl=>by rw [inB];exact Nat.ble_eq_true_of_le hl
  | _,_,.eptr b off cs vs hv hr=>by rw [inB];exact we hr
  | _,_,.fn f cap vs hr=>by rw [inB];exact m9 hr
  | _,_,.tup l vs hr=>by rw [inB];exact m9 hr
  | _,_,.bsl id n cap hl hc hm=>by rw [inB];exact Nat.ble_eq_true_of_le hl
  | _,_,.fresh e sz t cs n k v hv hp hk hle ho=>by
    rw [inB]
    exact Nat.ble_eq_true_of_le (List.getElem?_eq_some_iff.1 hk).1
  | _,_,.mp id off hl=>by rw [inB];exact Nat.ble_eq_true_of_le hl
  | _,_,.any v=>rfl
theorem m9 {z:Full}:∀ {l:List BV} {vs:List Value},RepBs z l vs → jdh z.st.S.length z.st.T.length z.st.M.length l = true
  | _,_,.nil=>rfl
  | _,_,.cons y v l vs h1 h2=>by rw [jdh,jey h1,m9 h2];rfl
end
mutual
def okB (nb nt:Nat):BV → Bool
  | .d _=>true
  | .agg l=>q9 nb nt l
  | .own _ _ t _ _=>Nat.blt t nt
  | .tight _ _=>true
  | .ptr id _=>Nat.blt id nb
  | .eptr _=>true
  | .fn _ cap=>q9 nb nt cap
  | .tup l=>q9 nb nt l
  | .bsl id _=>Nat.blt id nb
  | .fresh _ _ t _ _=>Nat.blt t nt
  | .mp _ _=>true
  | .any=>true
def q9 (nb nt:Nat):List BV → Bool
  | []=>true
  | b :: l=>okB nb nt b && q9 nb nt l
end
mutual
theorem jrs {nb nt nb' nt' nm:Nat}:∀ {b:BV},okB nb nt b = true → inB nb' nt' nm b = true → inB nb nt nm b = true
  | .d _,h,k=>by rw [inB] at k ⊢;exact k
  | .agg l,h,k=>by rw [inB] at k ⊢;rw [okB] at h;exact yp h k
  | .own _ _ t cs _,h,k=>by
    rw [inB,Bool.and_eq_true] at k ⊢
    rw [okB] at h
    exact ⟨h,k.2⟩
  | .tight _ _,h,k=>by rw [inB] at k ⊢;exact k
  | .ptr id _,h,k=>by rw [inB];rw [okB] at h;exact h
  | .eptr _,h,k=>by rw [inB] at k ⊢;exact k
  | .fn _ cap,h,k=>by rw [inB] at k ⊢;rw [okB] at h;exact yp h k
  | .tup l,h,k=>by rw [inB] at k ⊢;rw [okB] at h;exact yp h k
  | .bsl id _,h,k=>by rw [inB];rw [okB] at h;exact h
  | .fresh ..,h,k=>by rw [inB];rw [okB] at h;exact h
  | .mp _ _,h,k=>by rw [inB] at k ⊢;exact k
  | .any,h,k=>by rw [inB] at k ⊢
theorem yp {nb nt nb' nt' nm:Nat}:∀ {l:List BV},q9 nb nt l = true → jdh nb' nt' nm l = true → jdh nb nt nm l = true
  | [],h,k=>rfl
  | b :: l,h,k=>by
    rw [jdh,Bool.and_eq_true] at k ⊢
    rw [q9,Bool.and_eq_true] at h
    exact ⟨jrs h.1 k.1,yp h.2 k.2⟩
end
def jrt (st:St):Bool:=st.S.all (fun c=>q9 st.S.length st.T.length c.1)
theorem getElem?_left {α:Type} {l m:List α} {i:Nat} (h:i < l.length):(l ++ m)[i]? = l[i]?:=List.getElem?_append_left h
theorem getElem?_right {α:Type} {l m:List α} {i:Nat} (h:l.length ≤ i):(l ++ m)[i]? = m[i - l.length]?:=List.getElem?_append_right h
theorem z7 {P:Program} {Wr:List Nat} {f:Nat} {ars:List BV} {st:St} {Q:BV → St → Prop} (B:List (List BV × Nat)) (U:List Nat) (N:List (List (Value × DV)))
    (h:ci P Wr [] f ars st (fun r s=>s.S.length = st.S.length ∧ s.T.length = st.T.length ∧ s.M.length = st.M.length ∧ Q r s))
    (hi:jrt st = true) (ha:q9 st.S.length st.T.length ars = true) (hN:N = [] ∨(jte st = true ∧ jdh st.S.length st.T.length st.M.length ars = true)) (hWr:∀ i ∈ Wr,i < st.S.length):ci P Wr [] f ars (jex st B U N) (fun r s=>∃ s',s = jex s' B U N ∧ Q r s'):=by
  intro x vs hx hg hargs
  have hxS:x.st.S = st.S ++ B:=by rw [hx];rfl
  have hxT:x.st.T = st.T ++ U:=by rw [hx];rfl
  have hxM:x.st.M = st.M ++ N:=by rw [hx];rfl
  have lS:x.st.S.length = st.S.length + B.length:=by rw [hxS,List.length_append]
  have lT:x.st.T.length = st.T.length + U.length:=by rw [hxT,List.length_append]
  have lM:x.st.M.length = st.M.length + N.length:=by rw [hxM,List.length_append]
  let x':Full:=⟨st,x.pb,x.pt,x.pm,x.F,x.w⟩
  have hf:Fewer x x' st.S.length st.T.length st.M.length:=⟨rfl,rfl,fun _ _=>rfl,fun _ _=>rfl,fun _ _=>rfl,Nat.le_refl _,fun t k ht hk=>by
    rw [hxT,getElem?_left ht] at hk
    exact hk,Nat.le_refl _⟩
  have inMs:∀ {cs:List BV} {us:List Value},q9 st.S.length st.T.length cs = true →(N ≠ [] → jdh st.S.length st.T.length st.M.length cs = true) → RepBs x cs us → jdh st.S.length st.T.length st.M.length cs = true:=fun {cs us} h1 h2 h3=>by
    rcases hN with hN|hN
    · have:=m9 h3
      rw [lM,hN,List.length_nil,Nat.add_zero] at this
      exact yp h1 this
    · by_cases hne:N = []
      · have:=m9 h3
        rw [lM,hne,List.length_nil,Nat.add_zero] at this
        exact yp h1 this
      · exact h2 hne
  have inSt':N ≠ [] → jte st = true ∧ jdh st.S.length st.T.length st.M.length ars = true:=fun hne=>hN.resolve_left hne
  have inMD:∀ {d:DV} {v:Value},(N ≠ [] → inD st.M.length d = true) → RepD x d v → inD st.M.length d = true:=fun {d v} h2 h3=>by
    by_cases hne:N = []
    · have:=qp h3
      rwa [lM,hne,List.length_nil,Nat.add_zero] at this
    · exact h2 hne
  have hg':Good x':=by
    constructor
    · intro id cs t hid
      have hlt:=(List.getElem?_eq_some_iff.1 hid).1
      obtain ⟨us,h1,h2,h3⟩:=hg.box id cs t (by rw [hxS,getElem?_left hlt];exact hid)
      refine ⟨us,h1,m8 hf h2 (inMs (List.all_eq_true.1 hi _ (List.mem_of_getElem? hid)) (fun hne=>?_) h2),h3⟩
      have:=(inSt' hne).1
      rw [jte,Bool.and_eq_true] at this
      exact List.all_eq_true.1 this.1 _ (List.mem_of_getElem? hid)
    · exact fun i j h1 h2 e=>hg.inj i j (by have:i < st.S.length:=h1;omega) (by have:j < st.S.length:=h2;omega) e
    · intro t k b ht hb
      have hlt:=(List.getElem?_eq_some_iff.1 ht).1
      obtain ⟨h1,h2,h3,h4⟩:=hg.tag t k b (by rw [hxT,getElem?_left hlt];exact ht) hb
      exact ⟨h1,h2,fun i hi=>h3 i (by have:i < st.S.length:=hi;omega),fun u hu he=>h4 u (by have:u < st.T.length:=hu;omega) he⟩
    · intro id es hid
      have hlt:=(List.getElem?_eq_some_iff.1 hid).1
      refine (hg.map id es (by rw [hxM,getElem?_left hlt];exact hid)).of rfl (fun p hp v h5=>?_)
      refine m7 hf h5 (inMD (fun hne=>?_) h5)
      have:=(inSt' hne).1
      rw [jte,Bool.and_eq_true] at this
      exact List.all_eq_true.1 (List.all_eq_true.1 this.2 _ (List.mem_of_getElem? hid)) _ hp
    · exact fun i j h1 h2 e=>hg.mapinj i j (by have:i < st.M.length:=h1;omega) (by have:j < st.M.length:=h2;omega) e
    · exact fun t b i h1 h2 h3=>hg.tmap t b i (by have:t < st.T.length:=h1;omega) h2 (by have:i < st.M.length:=h3;omega)
    · exact fun i h1=>⟨(hg.mp i (by have:i < st.M.length:=h1;omega)).1,fun j h2=>(hg.mp i (by have:i < st.M.length:=h1;omega)).2 j (by have:j < st.S.length:=h2;omega)⟩
  refine (h x' vs rfl hg' (m8 hf hargs (inMs ha (fun hne=>(inSt' hne).2) hargs))).mono fun e w' ⟨r,v,z,he,⟨l1,l2,l3,hq⟩,hv,hgz,hs,hw⟩=>?_
  subst hw
  let y:Full:=⟨jex z.st B U N,fun i=>if i < st.S.length then z.pb i else x.pb i,fun t=>if t < st.T.length then z.pt t else x.pt t,fun i=>if i < st.M.length then z.pm i else x.pm i,z.F,z.w⟩
  have yS:y.st.S.length = st.S.length + B.length:=by show (z.st.S ++ B).length = _;rw [List.length_append,l1]
  have yT:y.st.T.length = st.T.length + U.length:=by show (z.st.T ++ U).length = _;rw [List.length_append,l2]
  have yM:y.st.M.length = st.M.length + N.length:=by show (z.st.M ++ N).length = _;rw [List.length_append,l3]
  have old:∀ b,b < x.w.heap.size →(∀ i,i < st.S.length → x.pb i ≠ b) →(∀ t,t < st.T.length → x.pt t ≠ some b) → z.w.heap[b]? = x.w.heap[b]?:=fun b hb h1 h2 =>
    hs.frame b hb (fun i hi hl=>h1 i hl) (by simp) (fun t ht=>h2 t ht)
  have pbz:∀ i,i < st.S.length → z.pb i = x.pb i:=fun i hi=>hs.ids i hi
  have pmz:∀ i,i < st.M.length → z.pm i = x.pm i:=fun i hi=>hs.mids i hi
  have ptz:∀ t b,t < st.T.length → z.pt t = some b → x.pt t = some b ∨ x.w.heap.size ≤ b:=fun t b ht hb=>by
    obtain ⟨_,_,_,_,hq⟩:=hs.tags t _ (List.getElem?_eq_getElem (l:=x'.st.T) ht)
    rcases hq with hq|hq|⟨q,hq,hlt⟩
    · exact .inl (hq ▸ hb)
    · rw [hq] at hb
      cases hb
    · rw [hq] at hb
      injection hb with hb
      exact .inr (hb ▸ hlt)
  have yb:∀ i,i < x.st.S.length → y.pb i = x.pb i:=fun i hi=>by
    by_cases hlt:i < st.S.length
    · simp only [y,if_pos hlt];exact pbz i hlt
    · simp only [y,if_neg hlt]
  have ym:∀ i,i < x.st.M.length → y.pm i = x.pm i:=fun i hi=>by
    by_cases hlt:i < st.M.length
    · simp only [y,if_pos hlt];exact pmz i hlt
    · simp only [y,if_neg hlt]
  have ubox:∀ i b,i < x.st.S.length → x.pb i = b → ∀ t,t < x.st.T.length → x.pt t ≠ some b:=fun i b hi hb t ht he =>
    (hg.tag t _ b (List.getElem?_eq_getElem ht) he).2.2.1 i hi hb
  have hstep:Step Wr [] x y:=by
    refine ⟨hs.os,hs.tape,hs.output,hs.size,fun b hb h1 h2 h3=>?_,hs.keep,by omega,fun i hi=>yb i hi,fun i h1 h2=>by omega,by omega,fun i hi=>ym i hi,fun i h1 h2=>by omega,fun t k ht=>?_,fun t b h1 h2=>by omega,fun b hb h3=>?_⟩
    · refine hs.frame b hb (fun i hi hl=>?_) (by simp) (fun t ht=>?_)
      · exact h1 i hi (by have:i < st.S.length:=hl;omega)
      · exact h3 t (by have:t < st.T.length:=ht;omega)
    · by_cases hlt:t < st.T.length
      · have ht':x'.st.T[t]? = some k:=by rw [hxT,getElem?_left hlt] at ht;exact ht
        obtain ⟨k',g1,g2,g3,g4⟩:=hs.tags t k ht'
        refine ⟨k',?_,g2,fun e=>?_,?_⟩
        · show (z.st.T ++ U)[t]? = _
          rw [getElem?_left (by omega)]
          exact g1
        · simp only [y,if_pos hlt]
          exact g3 e
        · simp only [y,if_pos hlt]
          exact g4
      · refine ⟨k,?_,Nat.le_refl _,fun _=>⟨by simp only [y,if_neg hlt],fun b hb=>?_⟩,.inl (by simp only [y,if_neg hlt])⟩
        · show (z.st.T ++ U)[t]? = _
          rw [hxT,getElem?_right (by omega)] at ht
          rw [getElem?_right (by omega),l2]
          exact ht
        · obtain ⟨g1,_,g3,g4⟩:=hg.tag t k b ht hb
          have hne:∀ u,u < st.T.length → x.pt u ≠ some b:=fun u hu he=>by
            have:=g4 u (by omega) he
            omega
          exact ⟨old b g1 (fun i hi=>g3 i (by omega)) hne,hs.fro b g1 hne⟩
    · exact hs.fro b hb (fun t ht=>h3 t (by have:t < st.T.length:=ht;omega))
  have hmore:Fewer z y z.st.S.length z.st.T.length z.st.M.length:=by
    refine ⟨rfl,rfl,fun i hi=>?_,fun t ht=>?_,fun i hi=>?_,by omega,fun t k ht hk=>?_,by omega⟩
    · simp only [y,if_pos (show i < st.S.length by omega)]
    · simp only [y,if_pos (show t < st.T.length by omega)]
    · simp only [y,if_pos (show i < st.M.length by omega)]
    · show (z.st.T ++ U)[t]? = _
      rw [getElem?_left ht]
      exact hk
  refine ⟨r,v,y,he,⟨z.st,rfl,hq⟩,jew hmore hv (jey hv),?_,hstep,rfl⟩
  constructor
  · intro id cs t hid
    have hlt:=(List.getElem?_eq_some_iff.1 hid).1
    by_cases hlt':id < st.S.length
    · have hid':z.st.S[id]? = some (cs,t):=by
        have:(z.st.S ++ B)[id]? = some (cs,t):=hid
        rwa [getElem?_left (by omega)] at this
      obtain ⟨us,h1,h2,h3⟩:=hgz.box id cs t hid'
      simp only [y,if_pos hlt']
      exact ⟨us,h1,m8 hmore h2 (m9 h2),h3⟩
    · have hid':x.st.S[id]? = some (cs,t):=by
        have:(z.st.S ++ B)[id]? = some (cs,t):=hid
        rw [getElem?_right (by omega),l1] at this
        rw [hxS,getElem?_right (by omega)]
        exact this
      have hxl:id < x.st.S.length:=by omega
      obtain ⟨us,h1,h2,h3⟩:=hg.box id cs t hid'
      have hb:=hg.box_lt hxl
      have hno:∀ t,t < st.T.length → x.pt t ≠ some (x.pb id):=fun t ht=>ubox id _ hxl rfl t (by omega)
      simp only [y,if_neg hlt']
      refine ⟨us,?_,h2.mono hstep,?_⟩
      · rw [old _ hb (fun i hi e=>?_) hno]
        · exact h1
        · have:=hg.inj i id (by omega) hxl e
          omega
      · rw [hs.fro _ hb hno]
        exact h3
  · intro i j h1 h2 e
    rw [yb i (by omega),yb j (by omega)] at e
    exact hg.inj i j (by omega) (by omega) e
  · intro t k b ht hb
    have hlt:=(List.getElem?_eq_some_iff.1 ht).1
    by_cases hlt':t < st.T.length
    · have ht':z.st.T[t]? = some k:=by
        have:(z.st.T ++ U)[t]? = some k:=ht
        rwa [getElem?_left (by omega)] at this
      simp only [y,if_pos hlt'] at hb
      obtain ⟨g1,g2,g3,g4⟩:=hgz.tag t k b ht' hb
      have hxb:=ptz t b hlt' hb
      refine ⟨g1,g2,fun i hi e=>?_,fun u hu he=>?_⟩
      · rw [yb i (by omega)] at e
        rcases hxb with hxb|hxb
        · exact ubox i b (by omega) e t (by omega) hxb
        · have:=hg.box_lt (show i < x.st.S.length by omega)
          omega
      · by_cases hu':u < st.T.length
        · simp only [y,if_pos hu'] at he
          exact g4 u (by omega) he
        · simp only [y,if_neg hu'] at he
          rcases hxb with hxb|hxb
          · exact (hg.tag t _ b (List.getElem?_eq_getElem (show t < x.st.T.length by omega)) hxb).2.2.2 u (by omega) he
          · have:=hg.tag_lt (show u < x.st.T.length by omega) he
            omega
    · have ht':x.st.T[t]? = some k:=by
        have:(z.st.T ++ U)[t]? = some k:=ht
        rw [getElem?_right (by omega),l2] at this
        rw [hxT,getElem?_right (by omega)]
        exact this
      simp only [y,if_neg hlt'] at hb
      obtain ⟨g1,g2,g3,g4⟩:=hg.tag t k b ht' hb
      have hno:∀ u,u < st.T.length → x.pt u ≠ some b:=fun u hu he=>by
        have:=g4 u (by omega) he
        omega
      refine ⟨Nat.lt_of_lt_of_le g1 hs.size,?_,fun i hi e=>?_,fun u hu he=>?_⟩
      · show z.F b ≤ k
        rw [hs.fro b g1 hno]
        exact g2
      · rw [yb i (by omega)] at e
        exact g3 i (by omega) e
      · by_cases hu':u < st.T.length
        · simp only [y,if_pos hu'] at he
          rcases ptz u b hu' he with hx1|hx1
          · exact absurd hx1 (hno u hu')
          · omega
        · simp only [y,if_neg hu'] at he
          exact g4 u (by omega) he
  · intro id es hid
    have hlt:=(List.getElem?_eq_some_iff.1 hid).1
    by_cases hlt':id < st.M.length
    · have hid':z.st.M[id]? = some es:=by
        have:(z.st.M ++ N)[id]? = some es:=hid
        rwa [getElem?_left (by omega)] at this
      simp only [y,if_pos hlt']
      exact (hgz.map id es hid').of rfl (fun p hp v h5=>m7 hmore h5 (qp h5))
    · have hid':x.st.M[id]? = some es:=by
        have:(z.st.M ++ N)[id]? = some es:=hid
        rw [getElem?_right (by omega),l3] at this
        rw [hxM,getElem?_right (by omega)]
        exact this
      have hxl:id < x.st.M.length:=by omega
      have hb:=hg.map_lt hxl
      simp only [y,if_neg hlt']
      exact (hg.map id es hid').le (old _ hb (fun i hi e=>hg.map_ne hxl (show i < x.st.S.length by omega) e.symm) (fun t ht he=>hg.tmap t _ id (by omega) he hxl rfl)) hstep.le
  · intro i j h1 h2 e
    rw [ym i (by omega),ym j (by omega)] at e
    exact hg.mapinj i j (by omega) (by omega) e
  · intro t b i h1 h2 h3
    rw [ym i (by omega)]
    by_cases hlt':t < st.T.length
    · simp only [y,if_pos hlt'] at h2
      rcases ptz t b hlt' h2 with hx1|hx1
      · exact hg.tmap t b i (by omega) hx1 (by omega)
      · have:=hg.map_lt (show i < x.st.M.length by omega)
        omega
    · simp only [y,if_neg hlt'] at h2
      exact hg.tmap t b i (by omega) h2 (by omega)
  · intro i h1
    have hi':i < x.st.M.length:=by omega
    rw [ym i hi']
    have hF:z.F (x.pm i) = x.F (x.pm i):=hs.fro _ (hg.map_lt hi') (fun t ht he=>by
      have:t < st.T.length:=ht
      exact hg.tmap t _ i (by omega) he hi' rfl)
    refine ⟨hF.trans (hg.mp i hi').1,fun j hj=>?_⟩
    rw [yb j (by omega)]
    exact (hg.mp i hi').2 j (by omega)
end Go.Proofs.YtinffhimfoicdaaGreat.Calc
