/- Texts of the claim, merged: MJ. No conditions. -/
import Derived.Test.YtinffhimfoicdaaGreatPq12
import Derived.Test.YtinffhimfoicdaaGreatPq18
namespace Go.Proofs.YtinffhimfoicdaaGreat
open Go Go.RowKit Go.Proofs.YtinffhimfoicdaaGreat.Calc
set_option linter.unusedVariables false
set_option linter.unusedSimpArgs false
set_option maxRecDepth 100000
set_option maxHeartbeats 8000000
theorem jha {P:Program} {st:St} {ρ:Rg} {x y:Operand} {t ty:Nat} {k:IntKind} {a b w:Int} (hw:a.tmod b = w) (hx:fl ρ x = some (.int k a)) (hy:fl ρ y = some (.int k b)) (h:b ≠ 0):bn P st ρ (.binOp .rem t x y ty) = some (.d (.flat (.int k w))):=hw ▸ jnu hx hy h
attribute [local irreducible] Tri ew er ci bn db d7 inQ jb jhl
theorem sp3 (l:List (List Int)) (ops:List Stp) (hops:∀ o ∈ ops,OkS o):ci Tryz.prog [] [] 3 [.d (cy yl l),.d (cy nd ops)] ⟨[],[],[]⟩ (fun r s=>r = vB true):=by
  have h7:=sp7 l
  refine am [] [] Tryz.func3 rfl Tryz.ntmps3 Tryz.results3 ?_
  repeat' (first|apply ab|(apply V;rfl;(first|(apply bl;rfl)|(apply bg;rfl)))|(apply Vp;rfl;rfl;apply fnT;rfl;apply h7;rintro _ ⟨p,rfl,hp⟩)|(show Tri _ (.seq (.region 2 _ _) _) _ _ _;refine ju (fun ρ st=>∃ S1 T1 M1 id id2,st = ⟨S1 ++ [],T1 ++ [],M1⟩ ∧ ng ρ [(1,.d (cy nd ops)),(5,.ptr 0 0),(6,.ptr id 0),(7,.ptr id2 0)] ∧ HE p id id2 S1 T1 M1 ∧ S1[0]? = some ([.d (cy df p)],26)) ?_ ?_)|(apply Vw;rfl;(apply cd;rfl;(apply tyT;rfl)))|(apply Vs;rfl;(apply bw;rfl;(apply tyT;rfl);rfl;rfl;rfl;(first|apply bc|(apply bh;omega));rfl;rfl;(first|decide|(apply Nat.le_of_ble_eq_true;rfl))))|(apply ac;rfl))
  · have g:=jsm hp
    have hF:=hp.2.2.2.1
    repeat' (first|(apply de (nt:=204) (.take 0 (.take 2 (.one 1 (.one 3 (.take 4 (.take 5 .nil)))))) [] [];exact co;rfl;decide +kernel)|(apply oC;rfl;rfl;rfl;apply fnT;rfl;exact jvd g hF _ _ _;(intro i_ hi_;cases hi_);(intro i_ hi_;cases hi_);rintro _ _ ⟨rfl,S1,T1,M1,rfl,hl1,ho1,hA1,hT1⟩;(have hb0:=(ho1 0 (by simp)).trans rfl))|(apply oC;rfl;rfl;rfl;apply fnT;rfl;exact jve g (hA1.more [] []);(intro i_ hi_;cases hi_);(intro i_ hi_;cases hi_);rintro _ _ ⟨rfl,S2,T2,M2,rfl,hl2,ho2,hE⟩)|apply ap|apply dg|(apply tV;rfl;rfl;(first|(apply bg;rfl)|(apply bj;(apply tyT;rfl);rfl;(apply at_;rfl;rfl);rfl));rfl))
    have hS1:0 <(S1 ++ []).length:=by
      rw [List.append_nil,hl1]
      omega
    exact ⟨S2,T2,M2,_,_,rfl,⟨rfl,rfl,rfl,rfl,trivial⟩,hE,(ho2 0 hS1).trans (by rw [List.append_nil];exact hb0)⟩
  · rintro ρ st ⟨S1,T1,M1,id,id2,rfl,hρ,hE,hb0⟩
    refine c9 (dt hρ) ?_
    have g:=jsm hp
    have hpl:p.length ≠ 0:=fun e=>hp.2.2.2.2 (List.eq_nil_of_length_eq_zero e)
    have hp1:=g.small.1
    clear hρ ρ
    repeat' (first|apply ab|(apply V;rfl;(first|(apply bl;rfl)|(apply bg;rfl)|(apply cb;(apply plT;rfl);rfl;rfl;decide)|(apply bz;(apply tyT;rfl);rfl;(apply aa;assumption);rfl)|(apply bq;(apply elT;rfl);rfl;rfl)|(apply bu;rfl;rfl)|(apply jf6;exact qj;rfl)))|(apply Vc;rfl;rfl;apply fnT;rfl;exact jwt _ _ _;(intro i_ hi_;cases hi_);(intro i_ hi_;cases hi_);rintro _ _ ⟨rfl,N_,rfl⟩)|(exact zc _ (.inr rfl) List.nil_prefix (a9 rfl a8) rfl rfl)|(apply Vd;rfl;(first|(apply gj;rfl;rfl)|(apply dq;rfl;rfl));all_goals intro h_)|(apply Vw;rfl;(apply d8;rfl;(apply elT;rfl);(apply tyT;rfl);rfl;decide;rfl;rfl))|(apply ac;rfl)|apply ak|apply aj|apply ah|apply ai|(apply ae;rfl)|(apply af;rfl)|apply ap|apply aw|(exfalso;omega))
    refine cx (fun q:Nat × List ByteArray=>p.length - q.1) (fun q=>[(1,.d (cy nd ops)),(5,.ptr 0 0),(6,.ptr id 0),(7,.ptr id2 0),(8,.own 9 1 (T1.length + 0) (q.2.flatMap dw) q.2.length),(9,vI q.1)]) (fun q S2 T2=>q.1 ≤ p.length ∧ q.2 = [⟨#[90,101,114,111,70,97,117,108,116]⟩,⟨#[81,113]⟩] ++(p.take q.1).map (·.name) ∧ S1 <+: S2 ∧ T1 <+: T2 ∧ S2[0]? = some ([.d (cy df p)],26) ∧ T2[T1.length + 0]? = some (q.2.flatMap dw).length) (0,[⟨#[90,101,114,111,70,97,117,108,116]⟩,⟨#[81,113]⟩]) ⟨Nat.zero_le _,rfl,List.prefix_append _ _,List.prefix_append _ _,aa hb0,at_ rfl rfl⟩ ⟨rfl,rfl,rfl,rfl,rfl,rfl,trivial⟩ ?_
    rintro ⟨i,ns⟩ S2 T2 ⟨hi,hns,hS2,hT2,hb2,hTg⟩
    dsimp only at *
    have hnl:ns.length = i + 2:=by rw [hns];simp;omega
    by_cases hlt:i < p.length
    · obtain ⟨cl,hc⟩:∃ cl,p[i]? = some cl:=⟨_,List.getElem?_eq_getElem hlt⟩
      repeat' (first|apply ab|(apply V;rfl;(first|(apply bl;rfl)|(apply bg;rfl)|(apply cb;(apply plT;rfl);rfl;rfl;decide)|(apply fz;(apply plT;rfl);rfl;rfl;decide)|(apply bz;(apply tyT;rfl);rfl;(apply aa;assumption);rfl)|(apply ef;(apply tyT;rfl);rfl;rfl)|(apply bq;(apply elT;rfl);rfl;rfl)|(apply az;rfl;rfl;rfl;omega)|(apply bp (c:=cl);apply elT;rfl;rfl;rfl;rfl;exact da;omega;simpa using hc)))|(apply Vd;rfl;(apply cu;rfl;rfl);all_goals intro h_)|(apply Vw;rfl;(first|(apply d8;rfl;(apply elT;rfl);(apply tyT;rfl);rfl;decide;rfl;rfl)|(apply mf;(apply elT;rfl);(apply tyT;rfl);(apply byT;rfl);rfl;rfl;rfl;decide;rfl;(apply ee (f:=dw) (c:=cl.name);omega;omega;assumption))))|(apply ac;rfl)|apply ak|(apply al;rfl)|apply aj|apply ah|apply bd|(apply ae;rfl)|(apply af;rfl)|apply ap|apply ey|apply cq|apply bo|(exfalso;omega))
      exact ⟨(i + 1,ns ++ [cl.name]),_,_,by dsimp only;omega,⟨by dsimp only;omega,by dsimp only;rw [List.take_add_one,hc,hns];simp,hS2.trans (List.prefix_append _ _),av (dc hT2 (by omega)),aa hb2,aq (List.getElem?_eq_some_iff.1 hTg).1⟩,⟨rfl,rfl,rfl,rfl,rfl,di (by dsimp only;omega),trivial⟩,rfl⟩
    · have hn0:0 < ns.length:=by omega
      have hn1:ns.length ≤ 1000000000:=by omega
      have hsz:∀ c ∈ ns,c.size ≤ 1000000:=by
        intro c hc
        rw [hns,List.mem_append] at hc
        rcases hc with hc|hc
        · simp only [List.mem_cons,List.not_mem_nil,or_false] at hc
          rcases hc with rfl|rfl <;> decide
        · obtain ⟨x,hx,rfl⟩:=List.mem_map.1 hc
          exact g.nm x (List.mem_of_mem_take hx)
      have hne:IntKind.u64.wrap (ns.length:Int) ≠ 0:=by
        rw [jkk hn1]
        omega
      repeat' (first|apply ab|(apply V;rfl;(first|(apply bl;rfl)|(apply bg;rfl)|(apply cb;(apply plT;rfl);rfl;rfl;decide)|(apply bz;(apply tyT;rfl);rfl;(apply aa;assumption);rfl)|(apply bq;(apply elT;rfl);rfl;rfl)))|(apply Vd;rfl;(apply cu;rfl;rfl);all_goals intro h_)|(apply ac;rfl)|apply ak|(apply al;rfl)|apply aj|apply ah|apply bd|(apply ae;rfl)|(apply af;rfl)|apply ap|apply ey|apply bo|(exfalso;omega))
      refine nu (fun i:Nat=>ops.length - i) (fun i=>[(1,.d (cy nd ops)),(6,.ptr id 0),(7,.ptr id2 0),(8,.own 9 1 (T1.length + 0) (ns.flatMap dw) ns.length),(10,vI i)]) (fun i S3 T3 M3=>i ≤ ops.length ∧ HE p id id2 S3 T3 M3) 0 ⟨Nat.zero_le _,(hE.pre hS2 hT2).more [] []⟩ ⟨rfl,rfl,rfl,rfl,rfl,trivial⟩ ?_
      clear hnl hns hTg hb2 hT2 hS2 hi hlt hE
      rintro k S3 T3 M3 ⟨hk,hE⟩
      by_cases hlt:k < ops.length
      · obtain ⟨o,ho⟩:∃ o,ops[k]? = some o:=⟨_,List.getElem?_eq_getElem hlt⟩
        obtain ⟨ho1,ho2,ho3⟩:=hops o (List.mem_of_getElem? ho)
        obtain ⟨hj1,hj1'⟩:=jnk o.cls hn0 hn1
        obtain ⟨hj2,hj2'⟩:=jnk o.own hn0 hn1
        obtain ⟨c1,hc1⟩:∃ c,ns[((IntKind.u64.wrap o.cls).tmod (IntKind.u64.wrap ns.length)).toNat]? = some c:=⟨_,List.getElem?_eq_getElem (by omega)⟩
        obtain ⟨c2,hc2⟩:∃ c,ns[((IntKind.u64.wrap o.own).tmod (IntKind.u64.wrap ns.length)).toNat]? = some c:=⟨_,List.getElem?_eq_getElem (by omega)⟩
        have hs1:=hsz c1 (List.mem_of_getElem? hc1)
        have hs2:=hsz c2 (List.mem_of_getElem? hc2)
        have hnil:([]:List (List BV × Nat)).length ≤ S3.length:=Nat.zero_le _
        generalize hw1:(IntKind.u64.wrap o.cls).tmod (IntKind.u64.wrap ns.length) = w1 at *
        generalize hw2:(IntKind.u64.wrap o.own).tmod (IntKind.u64.wrap ns.length) = w2 at *
        repeat' (first|apply ab|(apply V;rfl;(first|(apply jha hw1;rfl;rfl;exact hne)|(apply jha hw2;rfl;rfl;exact hne)|(apply jnu;rfl;rfl;decide)|(apply bl;rfl)|(apply bg;rfl)|(apply cb;(apply plT;rfl);rfl;rfl;decide)|(apply bz;(apply tyT;rfl);rfl;(apply at_;rfl;rfl);rfl)|(apply dp;(apply tyT;rfl);rfl;(first|rfl|apply ay|apply ba))|(apply ef;(apply tyT;rfl);rfl;rfl)|(apply bq;(apply elT;rfl);rfl;rfl)|(apply fx;(apply udT;rfl);rfl)|(apply ed;(apply plT;rfl);rfl)|(apply kt;rfl;(apply udT;rfl);(apply udT;rfl))|(apply bp (c:=o);apply elT;rfl;rfl;rfl;rfl;exact uz;omega;simpa using ho)|(apply bp (c:=c1);apply elT;rfl;rfl;rfl;rfl;exact cv;exact hj1;exact hc1)|(apply bp (c:=c2);apply elT;rfl;rfl;rfl;rfl;exact cv;exact hj2;exact hc2)))|(apply bt (nt:=204) (.take 0 (.take 1 (.take 2 (.take 3 (.take 4 (.take 5 (.take 6 (.take 7 (.take 8 (.take 9 (.take 10 (.take 11 (.take 12 (.take 13 (.take 14 (.take 15 (.take 16 (.take 17 (.take 18 (.take 19 (.take 20 (.take 21 .nil)))))))))))))))))))))) [] [];exact co;rfl;decide +kernel)|(show Tri _ (.seq (.seq (.region 21 _ _) _) _) _ _ _;refine ju (fun ρ st=>∃ v:Vl,okV v ∧ ng ρ [(1,.d (cy nd ops)),(6,.ptr id 0),(7,.ptr id2 0),(8,.own 9 1 (T1.length + 0) (ns.flatMap dw) ns.length),(10,vI k),(11,.ptr (S3.length + 0) 0),(12,vS c1),(14,.ptr (S3.length + 1) 0),(15,.ptr (S3.length + 2) 0)] ∧ st = ⟨S3 ++ [((nd o).map .d,41),([vS c2,vI o.nth],44),([.d (.flat (.int .i64 v.kind)),.d (.flat (.int .i32 v.n)),.d (.flat (.string v.s))],39)],T3 ++ [],M3⟩) ?_ ?_)|(apply Vc;rfl;rfl;apply fnT;rfl;exact jwt _ _ _;(intro i_ hi_;cases hi_);(intro i_ hi_;cases hi_);rintro _ _ ⟨rfl,N_,rfl⟩)|(exact zc _ (.inr rfl) List.nil_prefix (a9 rfl a8) rfl rfl)|(apply Vd;rfl;(first|(apply cu;rfl;rfl)|(apply gj;rfl;rfl)|(apply dq;rfl;rfl));all_goals intro h_)|(apply Vw;rfl;(apply cd;rfl;(apply tyT;rfl)))|(apply Vs;rfl;(apply bw;rfl;(apply tyT;rfl);rfl;rfl;rfl;(first|apply bc|(apply bh;omega));rfl;rfl;(first|decide|(apply Nat.le_of_ble_eq_true;rfl))))|(apply ac;rfl)|apply ak|(apply al;rfl)|apply aj|apply ah|apply bd|apply ai|(apply ae;rfl)|(apply af;rfl)|apply ap|apply ey|apply dm|apply aw|apply bo|apply dg|(apply tV;rfl;rfl;(first|(apply jha hw1;rfl;rfl;exact hne)|(apply jha hw2;rfl;rfl;exact hne)|(apply jnu;rfl;rfl;decide)|(apply bl;rfl)|(apply bg;rfl)|(apply cb;(apply plT;rfl);rfl;rfl;decide)|(apply bz;(apply tyT;rfl);rfl;(apply at_;rfl;rfl);rfl)|(apply dp;(apply tyT;rfl);rfl;(first|rfl|apply ay|apply ba))|(apply ef;(apply tyT;rfl);rfl;rfl)|(apply bq;(apply elT;rfl);rfl;rfl)|(apply fx;(apply udT;rfl);rfl)|(apply ed;(apply plT;rfl);rfl)|(apply kt;rfl;(apply udT;rfl);(apply udT;rfl))|(apply bp (c:=o);apply elT;rfl;rfl;rfl;rfl;exact uz;omega;simpa using ho)|(apply bp (c:=c1);apply elT;rfl;rfl;rfl;rfl;exact cv;exact hj1;exact hc1)|(apply bp (c:=c2);apply elT;rfl;rfl;rfl;rfl;exact cv;exact hj2;exact hc2));rfl))
        · exact ⟨vl0,by unfold okV vl0;decide,⟨rfl,rfl,rfl,rfl,rfl,rfl,rfl,rfl,rfl,trivial⟩,rfl⟩
        · have hr12:0 ≤(IntKind.u64.wrap o.n).tmod 12 ∧(IntKind.u64.wrap o.n).tmod 12 < 12:=⟨Int.tmod_nonneg _ (qe o.n),Int.tmod_lt_of_pos _ (by decide)⟩
          have h32:IntKind.i32.wrap ((IntKind.u64.wrap o.n).tmod 12) =(IntKind.u64.wrap o.n).tmod 12:=IntWalk.i32_in _ (by omega)
          exact ⟨⟨4,IntKind.i32.wrap ((IntKind.u64.wrap o.n).tmod 12),⟨#[]⟩⟩,by unfold okV;dsimp only;omega,⟨rfl,rfl,rfl,rfl,rfl,rfl,rfl,rfl,rfl,trivial⟩,rfl⟩
        · have hs100:o.v.s.size ≤ 100:=by omega
          rintro ρ st ⟨v,hv,hρ,rfl⟩
          refine c9 (dt hρ) ?_
          clear hρ ρ
          have hE':=hE
          obtain ⟨sid,tg,la,ts,tb,tg2,lo,ss,sv,ov,hh⟩:=hE'
          have hidl:=(List.getElem?_eq_some_iff.1 hh.a.box).1
          have hid2l:=(List.getElem?_eq_some_iff.1 hh.b.box).1
          have hkT:okT ⟨c2,o.nth⟩:=⟨Nat.le_trans hs2 (by decide),ho1⟩
          have hidL:id < S3.length:=hidl
          refine ju (fun ρ st=>∃ S4 T4 M4,ng ρ [(1,.d (cy nd ops)),(6,.ptr id 0),(7,.ptr id2 0),(8,.own 9 1 (T1.length + 0) (ns.flatMap dw) ns.length),(10,vI k),(12,vS c1),(14,.ptr (S3.length + 1) 0),(15,.ptr (S3.length + 2) 0)] ∧ st = ⟨S4,T4,M4⟩ ∧ HE p id id2 S4 T4 M4 ∧ S3.length + 2 < S4.length ∧ S4[S3.length + 1]? = some ([vS c2,vI o.nth],44) ∧ S4[S3.length + 2]? = some ([.d (.flat (.int .i64 v.kind)),.d (.flat (.int .i32 v.n)),.d (.flat (.string v.s))],39)) ?_ ?_
          · have hov:OkV o.v:=⟨ho2,ho3,Nat.le_trans hs100 (by decide)⟩
            obtain ⟨v0,b0,S4,T4,M4,hv0,hc11,hl4,ho4,hc12⟩:=ji5 g (hE.more [((nd o).map .d,41),([vS c2,vI o.nth],44),([.d (.flat (.int .i64 v.kind)),.d (.flat (.int .i32 v.n)),.d (.flat (.string v.s))],39)] []) c1
            obtain ⟨b1,m1,m2,M5,M6,hc13,hc14,hE6⟩:=jlf g hh v hv ⟨c2,o.nth⟩ hkT o.v hov
            obtain ⟨x0,hx0,hc15,hc16⟩:=jgj g hh o.v hov.ok ⟨c2,o.nth⟩ hkT
            obtain ⟨c0,hc17,hc18⟩:=z3 hh o.v hov.ok
            have hl4':S4.length = S3.length + 3:=by rw [hl4];simp
            repeat' (first|apply ab|(apply V;rfl;(first|(apply jnj;rfl;rfl)|(apply jb0;rfl;rfl)|(apply bl;rfl)|(apply bg;rfl)|(apply cb;(apply plT;rfl);rfl;rfl;decide)|(apply bj;(apply tyT;rfl);rfl;(first|(apply at_;rfl;rfl)|(apply aa;assumption));rfl)|(apply bz;(apply tyT;rfl);rfl;(first|(apply at_;rfl;rfl)|(apply aa;assumption));rfl)|(apply bu;rfl;rfl)|(apply eu;rfl;rfl)|(apply y8;rfl;rfl)))|(apply bt (nt:=204) (.take 0 (.take 1 (.take 2 (.take 3 (.take 4 (.take 6 (.take 7 (.take 8 (.take 9 (.take 10 (.one 5 (.one 11 (.take 12 .nil))))))))))))) [] [];exact co;rfl;decide +kernel)|(apply bt (nt:=204) (.take 0 (.take 1 (.take 2 (.take 3 (.take 5 (.take 6 (.take 7 (.take 8 (.one 4 (.one 9 (.one 10 (.take 11 (.take 12 (.take 13 (.take 14 (.take 16 (.take 17 (.take 18 (.one 15 (.one 19 (.take 20 (.take 21 .nil)))))))))))))))))))))) [] [];exact co;rfl;decide +kernel)|(apply Vc;rfl;rfl;apply fnT;rfl;exact hc11;(intro i_ hi_ _;simp [okC]);(intro i_ hi_;cases hi_);rintro _ _ ⟨rfl,rfl⟩)|(apply Vc;rfl;rfl;apply fnT;rfl;exact hc12 _ _;(intro i_ hi_ _;simp [okC]);(intro i_ hi_;cases hi_);rintro _ _ ⟨rfl,S5,T5,M5',rfl,hl5,ho5,hE5⟩;(have hb16:=(ho5 (S4.length + [].length) (by omega)).trans (at_ rfl rfl));(have hnil5:([]:List (List BV × Nat)).length ≤ S5.length:=Nat.zero_le _))|(apply oC;rfl;rfl;rfl;apply fnT;rfl;exact hc13 _ _;(intro i_ hi_;cases hi_);(intro i_ hi_ _;simp [okM]);rintro _ _ ⟨rfl,rfl⟩)|(apply oC;rfl;rfl;rfl;apply fnT;rfl;exact hc14 _ _;(intro i_ hi_;cases hi_);(intro i_ hi_ _;simp [okM]);rintro _ _ ⟨rfl,rfl⟩)|(apply oP;rfl;rfl;rfl;apply fnT;rfl;apply hc15 _ _;rintro _ rfl)|(apply oP;rfl;rfl;rfl;apply fnT;rfl;apply hc16 _ _;rintro _ rfl)|(apply oP;rfl;rfl;rfl;apply fnT;rfl;apply hc17 _ _;rintro _ rfl)|(apply oP;rfl;rfl;rfl;apply fnT;rfl;apply hc18 _ _;rintro _ rfl)|(apply VR;rfl;(apply te;rfl;rfl;rfl;(first|exact fun w=>rb hv0 _ _ w|exact fun w=>rb hx0 _ _ w)))|(apply oR;rfl;rfl;(apply te;rfl;rfl;rfl;(first|exact fun w=>rb hv0 _ _ w|exact fun w=>rb hx0 _ _ w)))|(apply Vd;rfl;(apply dq;rfl;rfl);all_goals intro h_)|(apply Vw;rfl;(apply cd;rfl;(apply tyT;rfl)))|(apply Vs;rfl;(apply bw;rfl;(apply tyT;rfl);rfl;rfl;rfl;(first|apply bc|(apply bh;omega));rfl;rfl;(first|decide|(apply Nat.le_of_ble_eq_true;rfl))))|(apply ac;rfl)|apply ak|(apply al;rfl)|apply aj|apply ah|(apply ae;rfl)|(apply af;rfl)|apply ap|apply cq|apply dg|(apply tV;rfl;rfl;(first|(apply jnj;rfl;rfl)|(apply jb0;rfl;rfl)|(apply bl;rfl)|(apply bg;rfl)|(apply cb;(apply plT;rfl);rfl;rfl;decide)|(apply bj;(apply tyT;rfl);rfl;(first|(apply at_;rfl;rfl)|(apply aa;assumption));rfl)|(apply bz;(apply tyT;rfl);rfl;(first|(apply at_;rfl;rfl)|(apply aa;assumption));rfl)|(apply bu;rfl;rfl)|(apply eu;rfl;rfl)|(apply y8;rfl;rfl));rfl))
            · have hl5':S5.length = S3.length + 4:=by rw [hl5,List.length_append,hl4'];rfl
              refine ⟨_,_,_,⟨rfl,rfl,rfl,rfl,rfl,rfl,rfl,rfl,trivial⟩,rfl,hE5.more _ _,by simp only [List.length_append];omega,aa ?_,aa ?_⟩
              · exact (ho5 _ (by omega)).trans (aa ((ho4 _ (by omega)).trans (at_ rfl rfl)))
              · exact (ho5 _ (by omega)).trans (aa ((ho4 _ (by omega)).trans (at_ rfl rfl)))
            · exact ⟨_,_,_,⟨rfl,rfl,rfl,rfl,rfl,rfl,rfl,rfl,trivial⟩,rfl,hE6.more _ _,by simp,at_ rfl rfl,at_ rfl rfl⟩
            · exact ⟨_,_,_,⟨rfl,rfl,rfl,rfl,rfl,rfl,rfl,rfl,trivial⟩,rfl,hE6.more _ _,by simp,at_ rfl rfl,at_ rfl rfl⟩
            · exact ⟨_,_,_,⟨rfl,rfl,rfl,rfl,rfl,rfl,rfl,rfl,trivial⟩,rfl,hE.more _ _,by simp,at_ rfl rfl,at_ rfl rfl⟩
          · rintro ρ st ⟨S4,T4,M4,hρ,rfl,hE4,hl4,hb14,hb15⟩
            refine c9 (dt hρ) ?_
            clear hρ ρ hh
            rw [← List.append_nil S4,← List.append_nil T4]
            have hE4':=hE4
            obtain ⟨sid',tg',la',ts',tb',tg2',lo',ss',sv',ov',hh⟩:=hE4'
            have hlen:=jvc hh
            have hbB:=hh.b.box
            obtain ⟨x0,hx0,hc15,hc16⟩:=jgj g hh v hv ⟨c2,o.nth⟩ hkT
            obtain ⟨c0,hc17,hc18⟩:=z3 hh v hv
            have h20:=js1 c1
            have h21:=ju3 c1
            have hz0:=ja6 c1
            repeat' (first|apply ab|(apply V;rfl;(first|(apply jni;rfl;rfl)|(apply jb0;rfl;rfl)|(apply bl;rfl)|(apply bg;rfl)|(apply cb;(apply plT;rfl);rfl;rfl;decide)|(apply bj;(apply tyT;rfl);rfl;(apply aa;assumption);rfl)|(apply bz;(apply tyT;rfl);rfl;(apply aa;assumption);rfl)|(apply bq;(apply elT;rfl);rfl;rfl)|(apply ck;rfl)|(apply bu;rfl;rfl)|(apply az;rfl;rfl;rfl;omega)))|(apply bt (nt:=204) (.take 0 (.take 2 (.take 3 (.take 4 (.take 5 (.take 6 (.one 1 (.take 7 (.take 8 (.take 9 (.take 10 (.take 11 (.take 13 (.take 14 (.take 15 (.one 12 (.one 16 (.one 17 (.take 18 (.take 19 (.take 20 (.take 21 (.take 23 (.take 24 (.one 22 (.one 25 (.take 26 (.take 27 (.take 28 (.take 29 (.take 31 (.one 30 (.one 32 (.one 33 (.take 34 .nil))))))))))))))))))))))))))))))))))) [] [];exact co;rfl;decide +kernel)|(apply oP;rfl;rfl;rfl;apply fnT;rfl;apply hlen _ _;rintro _ rfl)|(apply oP;rfl;rfl;rfl;apply fnT;rfl;apply hc15 _ _;rintro _ rfl)|(apply oP;rfl;rfl;rfl;apply fnT;rfl;apply hc16 _ _;rintro _ rfl)|(apply oP;rfl;rfl;rfl;apply fnT;rfl;apply hc17 _ _;rintro _ rfl)|(apply oP;rfl;rfl;rfl;apply fnT;rfl;apply hc18 _ _;rintro _ rfl)|(apply oP;rfl;rfl;rfl;apply fnT;rfl;apply h20;rintro _ rfl)|(apply oP;rfl;rfl;rfl;apply fnT;rfl;apply h21;rintro _ rfl)|(apply oR;rfl;rfl;(apply te;rfl;rfl;rfl;(first|exact fun w=>rb hx0 _ _ w|exact fun w=>rb hz0 _ _ w)))|(apply al;rfl)|apply ah|(apply af;rfl)|apply ap|apply cq|apply dg|(apply tV;rfl;rfl;(first|(apply jni;rfl;rfl)|(apply jb0;rfl;rfl)|(apply bl;rfl)|(apply bg;rfl)|(apply cb;(apply plT;rfl);rfl;rfl;decide)|(apply bj;(apply tyT;rfl);rfl;(apply aa;assumption);rfl)|(apply bz;(apply tyT;rfl);rfl;(apply aa;assumption);rfl)|(apply bq;(apply elT;rfl);rfl;rfl)|(apply ck;rfl)|(apply bu;rfl;rfl)|(apply az;rfl;rfl;rfl;omega));rfl))
            exact ⟨k + 1,_,_,_,by omega,⟨by omega,hE4.more _ _⟩,⟨rfl,rfl,rfl,rfl,di (by omega),trivial⟩,rfl⟩
      · repeat' (first|apply ab|(apply V;rfl;(first|(apply bl;rfl)|(apply bg;rfl)|(apply bq;(apply elT;rfl);rfl;rfl)))|(apply Vc;rfl;rfl;apply fnT;rfl;exact jwt _ _ _;(intro i_ hi_;cases hi_);(intro i_ hi_;cases hi_);rintro _ _ ⟨rfl,N_,rfl⟩)|(exact zc _ (.inr rfl) List.nil_prefix (a9 rfl a8) rfl rfl)|(apply Vd;rfl;(apply cu;rfl;rfl);all_goals intro h_)|(apply ac;rfl)|apply ak|apply aj|apply ah|apply bd|apply ai|(apply ae;rfl)|(apply af;rfl)|apply ap|apply ey|apply bo|(exfalso;omega))
end Go.Proofs.YtinffhimfoicdaaGreat
