/- Texts of the claim, merged: Calc7, Calc8, Calc9, Calc10, Tab, Calc11, Ty, A, B. No conditions. -/
import Derived.Test.YtinffhimfoicdaaGreatPq0
import Derived.Laws.Strings
import Derived.IntWalk
import Derived.Test.YtinffhimfoicdaaGreatProg
import Derived.KernelRfl
namespace Go.Proofs.YtinffhimfoicdaaGreat.Calc
open Go Go.RowKit
set_option linter.unusedVariables false
def gB (ops:Array Oper) (ρ:Rg):Option (Nat × Bool) → Option Bool
  | none=>some true
  | some (j,t)=>match (ops[j]?).bind (fun o:Oper=>o.dst) with
    | some d=>match ρ d with
      | some (.d (.flat (.bool b)))=>some (b == t)
      | some (.tup [])=>some false
      | _=>none
    | none=>none
theorem zl {ops:Array Oper} {ρ:Rg} {o:Oper} {b:Bool} (h:gB ops ρ o.guard = some b) {nt:Nat} {x:Full} {a:Act} (hn:∀(j d:Nat),(ops[j]?).bind (fun o:Oper=>o.dst) = some d → d < nt) (hr:Regs nt x ρ a):Region.wanted o (yielded ops a.tmps) = b:=by
  obtain ⟨dst,op,type,pos,after,guard⟩:=o
  cases guard with
  | none=>obtain rfl:=Option.some.inj h;rfl
  | some g =>
    obtain ⟨j,t⟩:=g
    simp only [gB] at h
    split at h
    case h_2=>cases h
    rename_i d hd
    have hlt:=hn j d hd
    have hs:=hr.size
    have hget:∀ v,a.tmps.getD d undef = v → a.tmps[d]? = some v:=fun v hv=>by
      rw [Array.getD_eq_getD_getElem?] at hv
      rw [Array.getElem?_eq_getElem (by omega)] at hv ⊢
      simpa using hv
    split at h
    · rename_i c hc
      have hv:=j7 (hr.reg d _ hc)
      obtain rfl:=Option.some.inj h
      simp [Region.wanted,yielded,hd,hget _ hv]
    · rename_i hc
      have hv:=hr.reg d _ hc
      obtain rfl:=Option.some.inj h
      generalize hq:a.tmps.getD d undef = v at hv
      cases hv with
      | tup _ vs hvs =>
        cases hvs
        simp [Region.wanted,yielded,hd,hget _ hq]
    · cases h
def jck (nt:Nat) (ops:Array Oper):Bool:=ops.toList.all fun o=>match o.dst with|some d=>decide (d < nt)|none=>true
theorem sg {nt:Nat} {ops:Array Oper} (h:jck nt ops = true) {o:Oper} (ho:o ∈ ops.toList) {d:Nat} (hd:o.dst = some d):d < nt:=by
  have:=List.all_eq_true.1 h o ho
  rw [hd] at this
  simpa using this
theorem nn {nt:Nat} {ops:Array Oper} (h:jck nt ops = true) (j d:Nat) (hd:(ops[j]?).bind (fun o:Oper=>o.dst) = some d):d < nt:=by
  obtain ⟨o,ho,hd⟩:=Option.bind_eq_some_iff.1 hd
  exact sg h (by simpa using Array.mem_of_getElem? ho) hd
def OpR (P:Program) (ok okm:Nat → Bool) (o:Oper) (ρ:Rg) (st:St) (Q:Rg → St → Prop):Prop :=
  ∀(nt:Nat) (y:Full) (a:Act) (K:Exit → Act → World → Prop),y.st = st → Good y → Regs nt y ρ a →(∀ d,o.dst = some d → d < nt) →
    o.wp P a y.w (fun a' w'=>∃ ρ' z W V,z.w = w' ∧ Q ρ' z.st ∧ Good z ∧ Step W V y z ∧(∀ i ∈ W,i < y.st.S.length → ok i = true) ∧(∀ i ∈ V,i < y.st.M.length → okm i = true) ∧ Regs nt z ρ' a') K
theorem Regs.putW {nt:Nat} {x:Full} {ρ:Rg} {a:Act} (h:Regs nt x ρ a) {d:Option Nat} (hd:∀ t,d = some t → t < nt):Regs nt x (ke ρ d (.tup [])) (a.put d undef):=h.put hd (.tup [] [] .nil)
theorem jnr {P:Program} {ok okm:Nat → Bool} {o:Oper} {ρ:Rg} {st:St} {Q:Rg → St → Prop} (b:BV) (h:bn P st ρ o.op = some b) (hq:Q (ke ρ o.dst b) st):OpR P ok okm o ρ st Q:=by
  intro nt y a K h1 h2 h3 h4
  obtain ⟨v,hv,hb⟩:=jch [] h (jcg _ _) h1 h2 h3
  have hv:=hv y.w (Same.refl _ _)
  unfold Oper.wp
  rw [hv]
  exact ⟨_,y,[],[],rfl,h1 ▸ hq,h2,Step.refl _ _ _,by simp,by simp,h3.put h4 hb⟩
theorem jkx {P:Program} {ok okm:Nat → Bool} {o:Oper} {ρ:Rg} {st:St} {Q:Rg → St → Prop} (st':St) (b:BV) (h:db P ok st ρ o.op = some (st',some b)) (hq:Q (ke ρ o.dst b) st'):OpR P ok okm o ρ st Q:=by
  intro nt y a K h1 h2 h3 h4
  obtain ⟨nx,z,W,r1,r2,r3,r4,r5,v,rfl,r6⟩:=jcj h h1 h2 h3
  unfold Oper.wp
  rw [r1]
  exact ⟨_,z,W,[],rfl,r2 ▸ hq,r3,r4,fun i hi _=>r5 i hi,by simp,(h3.step r4).put h4 r6⟩
theorem jns {P:Program} {ok okm:Nat → Bool} {o:Oper} {ρ:Rg} {st:St} {Q:Rg → St → Prop} (st':St) (h:db P ok st ρ o.op = some (st',none)) (hq:Q (ke ρ o.dst (.tup [])) st'):OpR P ok okm o ρ st Q:=by
  intro nt y a K h1 h2 h3 h4
  obtain ⟨nx,z,W,r1,r2,r3,r4,r5,rfl⟩:=jcj h h1 h2 h3
  unfold Oper.wp
  rw [r1]
  exact ⟨_,z,W,[],rfl,r2 ▸ hq,r3,r4,fun i hi _=>r5 i hi,by simp,(h3.step r4).putW h4⟩
def np (ρ:Rg) (c:Call):Option (Nat × List BV) :=
  match c.callee with
  | .value f=>match evB ρ f,jh4 ρ c.args.toList with
    | some (.fn g cap),some l=>some (g,l ++ cap)
    | _,_=>none
  | _=>none
def jdz (P:Program) (f:Nat):Bool :=
  match P.funcs[f]? with
  | some fn=>!(fn.name == "runtime.NumGoroutine") && fn.body.isSome
  | none=>false
theorem jic {P:Program} {f:Nat} (h:jdz P f = true) (args:Array Value) (w:World):(callFunc f args).run P w = .ok (.enter f args) w:=by
  unfold jdz at h
  split at h
  · rename_i fn hf
    simp only [Bool.and_eq_true,Bool.not_eq_true'] at h
    obtain ⟨h1,h2⟩:=h
    have h1:fn.name ≠ "runtime.NumGoroutine" := by simpa using h1
    obtain ⟨c,hc⟩:=Option.isSome_iff_exists.1 h2
    simp [callFunc,hf,h1,hc]
  · cases h
theorem v8 {P:Program} {ok okm:Nat → Bool} {o:Oper} {ρ:Rg} {st:St} {Q:Rg → St → Prop} (c:Call) (f:Nat) (l:List BV) (Wr Wm:List Nat) (R:BV → St → Prop) (ho:o.op = .call c) (hc:np ρ c = some (f,l)) (hf:jdz P f = true)
    (h:ci P Wr Wm f l st R) (h1:∀ i ∈ Wr,i < st.S.length → ok i = true) (h2:∀ i ∈ Wm,i < st.M.length → okm i = true) (hq:∀ r st',R r st' → Q (ke ρ o.dst r) st'):OpR P ok okm o ρ st Q:=by
  intro nt y a K g1 g2 g3 g4
  obtain ⟨callee,args,ats⟩:=c
  unfold np at hc
  split at hc
  case h_2=>cases hc
  rename_i ff hff
  simp only at hff
  subst hff
  split at hc
  case h_2=>cases hc
  rename_i g cap ars hfn has
  simp only [Option.some.injEq,Prod.mk.injEq] at hc
  obtain ⟨rfl,rfl⟩:=hc
  have hv:=g3.ev hfn
  have hargs:=jae g3 has
  generalize hw:a.eval ff = v at hv
  cases hv with
  | fn _ _ vs hcap =>
    have hrun:(execOp a.eval o).run P y.w = .ok (.enter g (args.toList.map a.eval ++ vs).toArray) y.w:=by
      have he:=jic hf (args.toList.map a.eval ++ vs).toArray y.w
      have hm:args.map a.eval ++ vs.toArray =(args.toList.map a.eval ++ vs).toArray:=by
        apply Array.ext'
        simp
      unfold execOp
      simp only [ho,resolve,hw,Deferred.ofValue,Sem.run_bind,Sem.run_pure,Result.andThen_ok,invoke,Array.empty_append,hm,he]
    unfold Oper.wp
    rw [hrun,Oper.upon_enter]
    refine (h y _ g1 g2 (hargs.append hcap)).mono fun e w' hh=>?_
    obtain ⟨r,v,z,rfl,k1,k2,k3,k4,rfl⟩:=hh
    exact ⟨_,z,Wr,Wm,rfl,hq r z.st k1,k3,k4,fun i hi hl=>h1 i hi (g1 ▸ hl),fun i hi hl=>h2 i hi (g1 ▸ hl),(g3.step k4).put g4 k2⟩
theorem jky {P:Program} {ok okm:Nat → Bool} {o:Oper} {ρ:Rg} {st:St} {Q Q':Rg → St → Prop} (h:OpR P ok okm o ρ st Q) (hq:∀ ρ st,Q ρ st → Q' ρ st):OpR P ok okm o ρ st Q' :=
  fun nt y a K h1 h2 h3 h4=>Oper.wp_mono (fun a' w' ⟨ρ',z,W,V,e1,e2,e3⟩=>⟨ρ',z,W,V,e1,hq _ _ e2,e3⟩) (h nt y a K h1 h2 h3 h4)
def OpG (P:Program) (ok okm:Nat → Bool) (ops:Array Oper) (o:Oper) (ρ:Rg) (st:St) (Q:Rg → St → Prop):Prop :=
  (gB ops ρ o.guard = some true ∧ OpR P ok okm o ρ st Q) ∨(gB ops ρ o.guard = some false ∧ Q (ke ρ o.dst (.tup [])) st)
def okC (C:Cx) (i:Nat):Bool:=C.Wr.contains i || decide (C.nb ≤ i)
def okM (C:Cx) (i:Nat):Bool:=C.Wm.contains i || decide (C.nm ≤ i)
theorem jid {C:Cx} {i:Nat} (h:okC C i = true):i ∈ C.Wr ∨ C.nb ≤ i:=by simpa [okC] using h
theorem jie {C:Cx} {i:Nat} (h:okM C i = true):i ∈ C.Wm ∨ C.nm ≤ i:=by simpa [okM] using h
def ew (C:Cx) (ops:Array Oper) (l:List Oper) (ρ:Rg) (st:St) (Q:Rg → St → Prop):Prop :=
  (∀ o ∈ l,∀ d:Nat,o.dst = some d → d < C.nt) →(∀(j d:Nat),(ops[j]?).bind (fun o:Oper=>o.dst) = some d → d < C.nt) →
  ∀(x y:Full) (a:Act),x.st.S.length = C.nb → x.st.M.length = C.nm → Step C.Wr C.Wm x y → y.st = st → Good y → Regs C.nt y ρ a → ∀ K:Exit → Act → World → Prop,
    (∀ ρ' z a',Q ρ' z.st → Step C.Wr C.Wm x z → Good z → Regs C.nt z ρ' a' → K .normal a' z.w) → wpList C.P ops K l a y.w
theorem ab {C:Cx} {ops:Array Oper} {ρ:Rg} {st:St} {Q:Rg → St → Prop} (h:Q ρ st):ew C ops [] ρ st Q :=
  fun _ _ x y a _ _ h2 h3 h4 h5 K hK=>wpList_nil (hK ρ y a (h3 ▸ h) h2 h4 h5)
theorem rk {C:Cx} {ops:Array Oper} {o:Oper} {l:List Oper} {ρ:Rg} {st:St} {Q:Rg → St → Prop} (h:OpG C.P (okC C) (okM C) ops o ρ st (fun ρ st=>ew C ops l ρ st Q)):ew C ops (o :: l) ρ st Q:=by
  intro g1 g2 x y a h1 h1m h2 h3 h4 h5 K hK
  refine wpList_step fun K' hK'=>?_
  rcases h with ⟨hg,h⟩|⟨hg,h⟩
  · have hw:=zl hg g2 h5
    rw [if_pos hw]
    refine Oper.wp_mono (fun a' w' hh=>?_) (h C.nt y a K h3 h4 h5 (g1 o (by simp)))
    obtain ⟨ρ',z,W,V,rfl,q1,q2,q3,q4,q5,q6⟩:=hh
    exact hK' _ _ (q1 (fun o ho=>g1 o (by simp [ho])) g2 x z a' h1 h1m (h2.trans' q3 (fun i hi hl=>h1 ▸ jid (q4 i hi hl)) (fun i hi hl=>h1m ▸ jie (q5 i hi hl))) rfl q2 q6 K hK)
  · have hw:=zl hg g2 h5
    rw [if_neg (by rw [hw];decide)]
    exact hK' _ _ (h (fun o ho=>g1 o (by simp [ho])) g2 x y _ h1 h1m h2 h3 h4 (h5.putW (g1 o (by simp))) K hK)
theorem al {C:Cx} {id:Nat} {ops:Array Oper} {ρ:Rg} {st:St} {Q:nl} (hd:jck C.nt ops = true) (h:ew C ops ops.toList ρ st (fun ρ st=>Q .normal ρ st)):Tri C (.region id ops false) ρ st Q:=by
  intro x y a h1 h1m h2 h3 h4 h5 K hK
  refine wp_region_list (h (fun o ho d hod=>sg hd ho hod) (nn hd) x y a h1 h1m h2 h3 h4 h5 K (fun ρ' z a' q1 q2 q3 q4=>hK .normal ρ' z a' q1 q2 q3 q4))
end Go.Proofs.YtinffhimfoicdaaGreat.Calc
namespace Go.Proofs.YtinffhimfoicdaaGreat.Calc
open Go Go.RowKit
set_option linter.unusedVariables false
mutual
def low (nb k:Nat):BV → Option BV
  | .d x=>some (.d x)
  | .tight cs n=>some (.tight cs n)
  | .own e sz t cs n=>if t < k then some (.own e sz t cs n) else some (.d (.sl cs n))
  | .agg l=>(my nb k l).map .agg
  | .ptr id off=>if id < nb then some (.ptr id off) else none
  | .eptr cs=>some (.eptr cs)
  | .fn f l=>(my nb k l).map (.fn f)
  | .tup l=>none
  | .bsl id n=>if id < nb then some (.bsl id n) else none
  | .fresh e sz t cs n=>if t < k then some (.fresh e sz t cs n) else none
  | .mp id off=>some (.mp id off)
  | .any=>some .any
def my (nb k:Nat):List BV → Option (List BV)
  | []=>some []
  | b :: l=>match low nb k b,my nb k l with
    | some x,some xs=>some (x :: xs)
    | _,_=>none
end
structure Less (z z':Full):Prop where
  w:z'.w = z.w
  F:z'.F = z.F
  pb:z'.pb = z.pb
  pt:z'.pt = z.pt
  pm:z'.pm = z.pm
  M:z'.st.M = z.st.M
  T:∀ t,t < z'.st.T.length → z'.st.T[t]? = z.st.T[t]?
theorem Less.le {z z':Full} (h:Less z z'):Le z z':=⟨fun b i u hi hc=>⟨by rw [h.F];exact hi,by rw [h.w];exact hc⟩,fun i hi=>⟨by rw [h.M];exact hi,by rw [h.pm]⟩⟩
mutual
theorem jnt {z z':Full} (h:Less z z'):∀ {b b':BV} {v:Value},low z'.st.S.length z'.st.T.length b = some b' → RepB z b v → RepB z' b' v
  | .d x,b',v,hl,hr=>by
    rw [low] at hl
    obtain rfl:=Option.some.inj hl
    cases hr with
    | d _ _ hr=>exact .d _ _ (hr.mono h.le)
  | .tight cs n,b',v,hl,hr=>by
    rw [low] at hl
    obtain rfl:=Option.some.inj hl
    cases hr with
    | tight _ _ base hr=>exact .tight _ _ base (hr.mono h.le)
  | .own e sz t cs n,b',v,hl,hr=>by
    rw [low] at hl
    cases hr with
    | own _ _ _ _ _ k _ hr hk hle ho =>
      split at hl
      · rename_i ht
        obtain rfl:=Option.some.inj hl
        refine .own e sz t cs n k v (hr.mono h.le) ((h.T t ht).trans hk) hle (fun e1=>?_)
        rcases ho e1 with ⟨o1,vs,o2,o3⟩|⟨o1,o2⟩
        · exact .inl ⟨by rw [h.pt];exact o1,vs,by rw [h.w];exact o2,o3.mono h.le⟩
        · exact .inr ⟨by rw [h.pt];exact o1,o2⟩
      · obtain rfl:=Option.some.inj hl
        exact .d _ _ (hr.mono h.le)
  | .agg l,b',v,hl,hr=>by
    rw [low] at hl
    obtain ⟨l',hl',rfl⟩:=Option.map_eq_some_iff.1 hl
    cases hr with
    | agg _ vs hs=>exact .agg _ _ (pp h hl' hs)
  | .ptr id off,b',v,hl,hr=>by
    rw [low] at hl
    split at hl
    · rename_i hid
      obtain rfl:=Option.some.inj hl
      cases hr with
      | ptr _ _ _=>rw [← h.pb];exact .ptr id off hid
    · cases hl
  | .eptr cs,b',v,hl,hr=>by
    rw [low] at hl
    obtain rfl:=Option.some.inj hl
    cases hr with
    | eptr b off _ vs hv hs=>exact .eptr b off _ vs (fun i u hu=>⟨by rw [h.F];exact (hv i u hu).1,by rw [h.w];exact (hv i u hu).2⟩) (hs.mono h.le)
  | .fn f l,b',v,hl,hr=>by
    rw [low] at hl
    obtain ⟨l',hl',rfl⟩:=Option.map_eq_some_iff.1 hl
    cases hr with
    | fn _ _ vs hs=>exact .fn f _ vs (pp h hl' hs)
  | .tup l,b',v,hl,hr=>by simp [low] at hl
  | .bsl id n,b',v,hl,hr=>by
    rw [low] at hl
    split at hl
    · rename_i hid
      obtain rfl:=Option.some.inj hl
      cases hr with
      | bsl _ _ cap _ hc hm=>rw [← h.pb];exact .bsl id n cap hid hc hm
    · cases hl
  | .fresh e sz t cs n,b',v,hl,hr=>by
    rw [low] at hl
    split at hl
    · rename_i ht
      obtain rfl:=Option.some.inj hl
      cases hr with
      | fresh _ _ _ _ _ k _ hv hp hk hle ho =>
        refine .fresh e sz t cs n k v hv hp ((h.T t ht).trans hk) hle (fun e1=>?_)
        rcases ho e1 with ⟨o1,o0,vs,o2,o3⟩|⟨o1,o2⟩
        · exact .inl ⟨by rw [h.pt];exact o1,by rw [h.pt,h.F];exact o0,vs,by rw [h.w];exact o2,o3.mono h.le⟩
        · exact .inr ⟨by rw [h.pt];exact o1,o2⟩
    · cases hl
  | .mp id off,b',v,hl,hr=>by
    rw [low] at hl
    obtain rfl:=Option.some.inj hl
    cases hr with
    | mp _ _ hid=>rw [← h.pm];exact .mp id off (by rw [h.M];exact hid)
  | .any,b',v,hl,hr=>by
    rw [low] at hl
    obtain rfl:=Option.some.inj hl
    exact .any v
theorem pp {z z':Full} (h:Less z z'):∀ {l l':List BV} {vs:List Value},my z'.st.S.length z'.st.T.length l = some l' → RepBs z l vs → RepBs z' l' vs
  | [],l',vs,hl,hr=>by
    rw [my] at hl
    obtain rfl:=Option.some.inj hl
    cases hr
    exact .nil
  | b :: l,l',vs,hl,hr=>by
    rw [my] at hl
    cases hr with
    | cons _ v _ vs h1 h2 =>
      split at hl
      · rename_i x xs hx hxs
        obtain rfl:=Option.some.inj hl
        exact .cons _ _ _ _ (jnt h hx h1) (pp h hxs h2)
      · cases hl
end
def jhh (nb k:Nat):List Nat → List (List BV × Nat) → List (List BV × Nat) → Option (List (List BV × Nat))
  | [],S0,_=>some S0
  | i :: l,S0,S1=>match S1[i]? with
    | some (cs,ty)=>match my nb k cs with
      | some cs'=>jhh nb k l (S0.set i (cs',ty)) S1
      | none=>none
    | none=>none
theorem rl {nb k:Nat}:∀ {Wr:List Nat} {S0 S1 S':List (List BV × Nat)},jhh nb k Wr S0 S1 = some S' → S'.length = S0.length
  | [],S0,S1,S',h=>by obtain rfl:=Option.some.inj h;rfl
  | i :: l,S0,S1,S',h=>by
    rw [jhh] at h
    split at h
    · split at h
      · rw [rl h,List.length_set]
      · cases h
    · cases h
theorem jfv {nb k:Nat}:∀ {Wr:List Nat} {S0 S1 S':List (List BV × Nat)},jhh nb k Wr S0 S1 = some S' → ∀(j:Nat) (cs:List BV) (ty:Nat),S'[j]? = some (cs,ty) →
    (j ∉ Wr ∧ S0[j]? = some (cs,ty)) ∨(∃ cs0,S1[j]? = some (cs0,ty) ∧ my nb k cs0 = some cs)
  | [],S0,S1,S',h,j,cs,ty,hj=>by
    obtain rfl:=Option.some.inj h
    exact .inl ⟨by simp,hj⟩
  | i :: l,S0,S1,S',h,j,cs,ty,hj=>by
    rw [jhh] at h
    split at h
    · rename_i cs0 ty0 h0
      split at h
      · rename_i cs' h1
        rcases jfv h j cs ty hj with ⟨h2,h3⟩|h2
        · by_cases hij:i = j
          · subst hij
            have hlt:=(List.getElem?_eq_some_iff.1 h3).1
            rw [List.length_set] at hlt
            rw [List.getElem?_set_self hlt] at h3
            simp only [Option.some.injEq,Prod.mk.injEq] at h3
            obtain ⟨rfl,rfl⟩:=h3
            exact .inr ⟨cs0,h0,h1⟩
          · rw [List.getElem?_set_ne hij] at h3
            exact .inl ⟨by simp only [List.mem_cons,not_or];exact ⟨fun e=>hij e.symm,h2⟩,h3⟩
        · exact .inr h2
      · cases h
    · cases h
def sh (P:Program) (ρ:Rg) (st:St):List ResultVar → Option (List BV)
  | []=>some []
  | .tmp t :: l=>match ρ t,sh P ρ st l with
    | some b,some bs=>some (b :: bs)
    | _,_=>none
  | .cell t ty :: l=>match ρ t,pi P ty,sh P ρ st l with
    | some (.ptr id off),some (ag,sz,_),some bs=>match st.S[id]? with
      | some (cs,_)=>match part ag sz off cs with
        | some b=>some (b :: bs)
        | none=>none
      | none=>none
    | _,_,_=>none
def jb5:List BV → BV
  | [b]=>b
  | l=>.tup l
def zm (tmps:Array Value):ResultVar → Sem Value
  | .tmp t=>pure (tmps.getD t undef)
  | .cell t ty=>do loadVar ty (← asAddr (tmps.getD t undef))
theorem zn (fn:Func) (tmps:Array Value):results fn tmps =(do let vs ← fn.results.mapM (zm tmps);pure (if h:vs.size = 1 then vs[0] else .tuple vs)):=by
  unfold results
  refine congrArg (fun g=>Bind.bind (Array.mapM g fn.results) fun vs:Array Value=>(pure (if h:vs.size = 1 then vs[0] else .tuple vs):Sem Value)) (funext fun r=>?_)
  cases r <;> rfl
theorem uc {P:Program} {nt:Nat} {y:Full} {ρ:Rg} {a:Act} (hg:Good y) (hr:Regs nt y ρ a):∀ {rs:List ResultVar} {l:List BV},sh P ρ y.st rs = some l →
    ∃ vs,(rs.mapM (zm a.tmps)).run P y.w = .ok vs y.w ∧ RepBs y l vs
  | [],l,h=>by
    rw [sh] at h
    obtain rfl:=Option.some.inj h
    exact ⟨[],by simp,.nil⟩
  | .tmp t :: rs,l,h=>by
    rw [sh] at h
    split at h
    · rename_i b bs hb hbs
      obtain rfl:=Option.some.inj h
      obtain ⟨vs,h1,h2⟩:=uc hg hr hbs
      exact ⟨_,by simp only [List.mapM_cons,zm,Sem.run_bind,Sem.run_pure,Result.andThen_ok,h1],.cons _ _ _ _ (hr.reg t b hb) h2⟩
    · cases h
  | .cell t ty :: rs,l,h=>by
    rw [sh] at h
    split at h
    · rename_i id off ag sz z bs hb ht hbs
      split at h
      · rename_i cs ty' hs
        split at h
        · rename_i b hp
          obtain rfl:=Option.some.inj h
          obtain ⟨vs,h1,h2⟩:=uc hg hr hbs
          obtain ⟨us,q1,q2⟩:=jcf hg hs
          obtain ⟨u,hu,hub⟩:=v7 (x:=y) ht hp q1 (y.pb id) 0
          have hu:=hu y.w (fun j u hu=>by rw [Nat.zero_add];exact q2 [] y.w (Same.refl _ _) (by simp) j u hu)
          rw [Nat.zero_add] at hu
          have hv:=hr.reg t _ hb
          generalize hw:a.tmps.getD t undef = v at hv
          cases hv with
          | ptr _ _ _ =>
            have hload:(loadVar ty ⟨y.pb id,off,none⟩).run P y.w = .ok u y.w:=by
              simpa [Instr.loadAt,Instr.sureAddr] using hu
            refine ⟨u :: vs,?_,.cons _ _ _ _ hub h2⟩
            simp only [List.mapM_cons,zm,Sem.run_bind,hw,asAddr,Sem.run_pure,Result.andThen_ok,hload,h1]
        · cases h
      · cases h
    · cases h
mutual
def wk:BV → BV
  | .own _ _ _ cs n=>.d (.sl cs n)
  | .tight cs n=>.d (.sl cs n)
  | .agg l=>.agg (wks l)
  | .d x=>.d x
  | .ptr i o=>.ptr i o
  | .eptr cs=>.eptr cs
  | .fn f l=>.fn f l
  | .tup l=>.tup l
  | .bsl id n=>.bsl id n
  | .fresh e sz t cs n=>.fresh e sz t cs n
  | .mp id off=>.mp id off
  | .any=>.any
def wks:List BV → List BV
  | []=>[]
  | b :: l=>wk b :: wks l
end
mutual
theorem jqj {x:Full}:∀ {b:BV} {v:Value},RepB x b v → RepB x (wk b) v
  | _,_,.d y v h=>by rw [wk];exact .d y v h
  | _,_,.agg l vs h=>by rw [wk];exact .agg _ _ (ue h)
  | _,_,.own e sz t cs n k v h _ _ _=>by rw [wk];exact .d _ _ h
  | _,_,.tight cs n base h=>by rw [wk];exact .d _ _ h
  | _,_,.ptr id off h=>by rw [wk];exact .ptr id off h
  | _,_,.eptr b off cs vs hv h=>by rw [wk];exact .eptr b off cs vs hv h
  | _,_,.fn f cap vs h=>by rw [wk];exact .fn f cap vs h
  | _,_,.tup l vs h=>by rw [wk];exact .tup l vs h
  | _,_,.bsl id n cap h hc hm=>by rw [wk];exact .bsl id n cap h hc hm
  | _,_,.fresh e sz t cs n k v hv hp hk hle ho=>by rw [wk];exact .fresh e sz t cs n k v hv hp hk hle ho
  | _,_,.mp id off h=>by rw [wk];exact .mp id off h
  | _,_,.any v=>by rw [wk];exact .any v
theorem ue {x:Full}:∀ {l:List BV} {vs:List Value},RepBs x l vs → RepBs x (wks l) vs
  | _,_,.nil=>by rw [wks];exact .nil
  | _,_,.cons y v l vs h hs=>by rw [wks];exact .cons _ _ _ _ (jqj h) (ue hs)
end
def jb (P:Program) (rs:List ResultVar) (Wr:List Nat) (st0:St) (Q:BV → St → Prop):nl:=fun ex ρ st =>
  (ex = .normal ∨ ex = .ret) ∧ ∃ l l' S' T',(sh P ρ st rs = some l ∨(sh P ρ st rs).map wks = some l) ∧ my st0.S.length T'.length l = some l' ∧ jhh st0.S.length T'.length Wr st0.S st.S = some S' ∧ T' <+: st.T ∧ st0.T.length ≤ T'.length ∧ Q (jb5 l') ⟨S',T',st.M⟩
def zo (args:List BV):Rg:=fun i=>args[i]?
theorem wu {P:Program} {f:Nat} {fn:Func} {c:Code} {args:List BV} {st:St} {Q:BV → St → Prop} (Wr Wm:List Nat) (hf:P.funcs[f]? = some fn) (hb:fn.body = some c)
    (h:∀(x:Full) (a:Act),x.st = st → Good x → Regs fn.ntmps x (zo args) a → ∀ K:Exit → Act → World → Prop,(∀ ex ρ' z a',jb P fn.results.toList Wr st Q ex ρ' z.st → Step Wr Wm x z → Good z → Regs fn.ntmps z ρ' a' → K ex.to a' z.w) → c.wp P K a x.w):ci P Wr Wm f args st Q:=by
  intro x vs hx hg hargs
  subst hx
  refine calls_of_wp hf hb (h x _ rfl hg ?_ _ (fun ex ρ z a hq hs hgz hr=>?_))
  · refine ⟨rfl,by simp;omega,fun t v ht=>?_⟩
    obtain ⟨u,hu,hru⟩:=hargs.get ht
    have hlt:=(List.getElem?_eq_some_iff.1 hu).1
    have:(vs.toArray ++ Array.replicate (fn.ntmps - vs.toArray.size) undef).getD t undef = u:=by
      rw [Array.getD_eq_getD_getElem?,Array.getElem?_append_left (by simpa using hlt)]
      simp [hu]
    rw [this]
    exact hru
  · obtain ⟨hex,l,l',S',T',q1,q2,q3,q4,q5,q6⟩:=hq
    obtain ⟨us,r1,r2⟩:∃ vs,(fn.results.toList.mapM (zm a.tmps)).run P z.w = .ok vs z.w ∧ RepBs z l vs:=by
      rcases q1 with q1|q1
      · exact uc hgz hr q1
      · obtain ⟨l0,q0,rfl⟩:=Option.map_eq_some_iff.1 q1
        obtain ⟨us,r1,r2⟩:=uc hgz hr q0
        exact ⟨us,r1,ue r2⟩
    obtain ⟨Tr,hT⟩:=q4
    have hTl:z.st.T.length = T'.length + Tr.length:=by rw [← hT,List.length_append]
    have hTg:∀ t,t < T'.length → T'[t]? = z.st.T[t]?:=fun t ht=>by rw [← hT,List.getElem?_append_left ht]
    let z':Full:=⟨⟨S',T',z.st.M⟩,z.pb,z.pt,z.pm,z.F,z.w⟩
    have hSl:S'.length = x.st.S.length:=rl q3
    have hless:Less z z':=⟨rfl,rfl,rfl,rfl,rfl,rfl,hTg⟩
    have hstep:Step Wr Wm x z':=by
      refine ⟨hs.os,hs.tape,hs.output,hs.size,hs.frame,hs.keep,Nat.le_of_eq hSl.symm,hs.ids,fun i h1 h2=>?_,hs.mlen,hs.mids,hs.mfresh,fun t k ht=>?_,fun t b h1 h2 h3=>hs.tfresh t b h1 ?_ h3,hs.fro⟩
      · have:i < S'.length:=h2
        omega
      · obtain ⟨k',g1,g2⟩:=hs.tags t k ht
        have:=(List.getElem?_eq_some_iff.1 ht).1
        exact ⟨k',(hTg t (by omega)).trans g1,g2⟩
      · have:t < T'.length:=h2
        omega
    have hgood:Good z':=by
      constructor
      · intro id cs ty hid
        have hid':id < x.st.S.length:=by rw [← hSl];exact (List.getElem?_eq_some_iff.1 hid).1
        have hz:id < z.st.S.length:=Nat.lt_of_lt_of_le hid' hs.slen
        obtain ⟨us0,_,_,hF⟩:=hgz.box id _ _ (List.getElem?_eq_getElem hz)
        rcases jfv q3 id cs ty hid with ⟨h1,h2⟩|⟨cs0,h1,h2⟩
        · obtain ⟨us1,k1,k2,_⟩:=hg.box id cs ty h2
          have hsame:=(hs.same hg).box id hid' h1
          refine ⟨us1,?_,k2.mono hstep,hF⟩
          show z.w.heap[z.pb id]? = _
          rw [hs.ids id hid',hsame]
          exact k1
        · obtain ⟨us1,k1,k2,_⟩:=hgz.box id cs0 ty h1
          refine ⟨us1,k1,pp hless ?_ k2,hF⟩
          show my S'.length T'.length cs0 = some cs
          rw [hSl]
          exact h2
      · intro i j hi hj e
        exact hgz.inj i j (Nat.lt_of_lt_of_le (show i < x.st.S.length by rw [← hSl];exact hi) hs.slen) (Nat.lt_of_lt_of_le (show j < x.st.S.length by rw [← hSl];exact hj) hs.slen) e
      · intro t k b ht hpt
        have htl:=(List.getElem?_eq_some_iff.1 ht).1
        obtain ⟨k1,k2,k3,k4⟩:=hgz.tag t k b ((hTg t htl).symm.trans ht) hpt
        exact ⟨k1,k2,fun i hi=>k3 i (Nat.lt_of_lt_of_le (show i < x.st.S.length by rw [← hSl];exact hi) hs.slen),fun u hu he=>k4 u (by have:u < T'.length:=hu;omega) he⟩
      · intro id es hid
        exact (hgz.map id es hid).le rfl hless.le
      · exact hgz.mapinj
      · exact fun t b i ht hb hi=>hgz.tmap t b i (by have:t < T'.length:=ht;omega) hb hi
      · exact fun i hi=>⟨(hgz.mp i hi).1,fun j hj=>(hgz.mp i hi).2 j (Nat.lt_of_lt_of_le (show j < x.st.S.length by rw [← hSl];exact hj) hs.slen)⟩
    have hres:RepBs z' l' us:=pp hless (by show my S'.length T'.length l = some l';rw [hSl];exact q2) r2
    have hret:(results fn a.tmps).run P z.w = .ok (if h:us.length = 1 then us[0] else .tuple us.toArray) z.w:=by
      rw [zn,Array.mapM_eq_mapM_toList]
      simp only [Sem.run_bind,map_eq_pure_bind,Sem.run_pure,r1]
      simp
    have hrep:RepB z' (jb5 l') (if h:us.length = 1 then us[0] else .tuple us.toArray):=by
      have hlen:=hres.length
      unfold jb5
      split
      · rename_i b
        cases hres with
        | cons _ v _ vs' h1 h2 =>
          cases h2
          simpa using h1
      · rename_i hne
        split
        · rename_i h1
          exfalso
          rw [h1] at hlen
          match l',hlen,hne with
          | [b],_,hne=>exact hne b rfl
        · exact .tup _ _ hres
    have hfin:bodyPost P fn (fun e w'=>∃ r v z,e = .returned v ∧ Q r z.st ∧ RepB z r v ∧ Good z ∧ Step Wr Wm x z ∧ z.w = w') .ret a z.w:=⟨hr.defers,_,hret,_,_,z',rfl,q6,hrep,hgood,hstep,rfl⟩
    rcases hex with rfl|rfl
    · exact hfin
    · exact hfin
theorem jhi {P:Program} {f:Nat} {fn:Func} {c:Code} {args:List BV} {st:St} {Q:BV → St → Prop} (Wr Wm:List Nat) (hf:P.funcs[f]? = some fn) (hb:fn.body = some c)
    (h:Tri ⟨P,fn.ntmps,Wr,Wm,st.S.length,st.M.length⟩ c (zo args) st (jb P fn.results.toList Wr st Q)):ci P Wr Wm f args st Q :=
  wu Wr Wm hf hb fun x a hx hg hr K hK=>h x x a (by rw [hx]) (by rw [hx]) (Step.refl _ _ _) hx hg hr K hK
end Go.Proofs.YtinffhimfoicdaaGreat.Calc
namespace Go.Proofs.YtinffhimfoicdaaGreat.Calc
open Go Go.RowKit
set_option linter.unusedVariables false
theorem Same.trans {Wr Wm:List Nat} {y y':Full} {w:World} (hs:Step Wr Wm y y') (h:Same Wr y y'.w) (k:Same Wr y' w):Same Wr y w where
  row:=fun b i u hi hc=>by
    obtain ⟨h1,h2⟩:=hs.keep b i u hi hc
    exact k.row b i u h1 h2
  box:=fun id hid hn=>by
    have h1:=k.box id (Nat.lt_of_lt_of_le hid hs.slen) hn
    rw [hs.ids id hid] at h1
    exact h1.trans (h.box id hid hn)
def qb (md:Region.Mode) (ops:Array Oper) (i:Nat):Nat → Nat → Bool
  | 0,_=>false
  | fuel + 1,d=>match ops[d]? with
    | some o=>o.after.any fun e=>Region.binds md e && (e.on == i || qb md ops i fuel e.on)
    | none=>false
def wv (md:Region.Mode) (ops:Array Oper) (listed:Array Bool):Prop :=
  ∀ j oj,ops[j]? = some oj → listed.getD j false = true → ∀ e ∈ oj.after,Region.binds md e = true → listed.getD e.on false = true
theorem wv.set {md:Region.Mode} {ops:Array Oper} {listed:Array Bool} {i:Nat} (h:wv md ops listed) (hi:i ∈ Region.ready md ops listed):wv md ops (listed.setIfInBounds i true):=by
  obtain ⟨_,oi,hoi,hall⟩:=mem_ready.1 hi
  intro j oj hj hl e he hb
  by_cases hij:i = j
  · subst hij
    have:oj = oi:=Option.some.inj (hj.symm.trans hoi)
    subst this
    exact getD_set_true (hall e he hb)
  · rw [getD_set_ne false hij] at hl
    exact getD_set_true (h j oj hj hl e he hb)
theorem vb {md:Region.Mode} {ops:Array Oper} {listed:Array Bool} {i:Nat} (hc:wv md ops listed):∀(fuel d:Nat),qb md ops i fuel d = true → listed.getD d false = true → listed.getD i false = true
  | 0,_,h,_=>by simp [qb] at h
  | fuel + 1,d,h,hl=>by
    unfold qb at h
    cases ho:ops[d]? with
    | none=>rw [ho] at h;simp at h
    | some o =>
      rw [ho] at h
      obtain ⟨e,he,h1⟩:=Array.any_eq_true'.1 h
      simp only [Bool.and_eq_true,Bool.or_eq_true,beq_iff_eq] at h1
      have hle:=hc d o ho hl e he h1.1
      rcases h1.2 with h2|h2
      · rw [← h2];exact hle
      · exact vb hc fuel e.on h2 hle
theorem ww {md:Region.Mode} {ops:Array Oper} {listed:Array Bool} {i d fuel:Nat} (hc:wv md ops listed) (hr:qb md ops i fuel d = true) (hun:listed.getD i true = false):d ∉ Region.ready md ops listed:=by
  intro hd
  obtain ⟨_,o,ho,hall⟩:=mem_ready.1 hd
  have hi:listed.getD i false = true:=by
    cases fuel with
    | zero=>simp [qb] at hr
    | succ n =>
      unfold qb at hr
      rw [ho] at hr
      obtain ⟨e,he,h1⟩:=Array.any_eq_true'.1 hr
      simp only [Bool.and_eq_true,Bool.or_eq_true,beq_iff_eq] at h1
      have hle:=hall e he h1.1
      rcases h1.2 with h2|h2
      · rw [← h2];exact hle
      · exact vb hc n e.on h2 hle
  rcases Nat.lt_or_ge i listed.size with h' | h'
  · simp [h'] at hun hi
    rw [hun] at hi
    cases hi
  · simp [Array.getElem?_eq_none h'] at hun
section
variable {P:Program} {ops:Array Oper} {K:Exit → Act → World → Prop} {md:Region.Mode} {Wr ds:List Nat}
def wpG (P:Program) (md:Region.Mode) (ops:Array Oper) (K:Exit → Act → World → Prop) (Wr ds:List Nat):Nat → Array Bool → Act → Full → Prop
  | 0,listed,a,y=>Region.ready md ops listed = [] ∧ K .normal a y.w
  | fuel + 1,listed,a,y =>
    (Region.ready md ops listed = [] → K .normal a y.w) ∧
    ∀ i ∈ Region.ready md ops listed,wpOp P ops K i (fun a' w'=>∃ y',y'.w = w' ∧(i ∉ ds → ∃ Wm,Step Wr Wm y y') ∧ Good y' ∧ wpG P md ops K Wr ds fuel (listed.setIfInBounds i true) a' y') a y.w
theorem zp:∀(fuel:Nat) (listed:Array Bool) (a:Act) (y:Full),wpG P md ops K Wr ds fuel listed a y → wpAny P md ops K fuel listed a y.w
  | 0,_,_,_,h=>h
  | fuel + 1,_,_,_,h=>⟨h.1,fun i hi=>wpOp_mono (fun a' w' ⟨y',e,_,_,h'⟩=>e ▸ zp fuel _ a' y' h') (h.2 i hi)⟩
theorem jal {S S':World → Prop} {o:Oper} {v:Value} {a:Act} (h:YieldsIf P ops S o v a) (hs:∀ w,S' w → S w):YieldsIf P ops S' o v a :=
  h.imp (fun ⟨h1,h2⟩=>⟨h1,fun w hw=>h2 w (hs w hw)⟩) id
theorem jcl {i:Nat} {oi:Oper} {v:Value} (hi:ops[i]? = some oi) (hsel:∀(j:Nat) (o:Oper) cs b,ops[j]? = some o → o.op ≠ .select cs b)
    (hQ:∀ c a w,K (.panic c) (a.put oi.dst v) w → K (.panic c) a w) (n:Nat) :
    ∀(fuel:Nat) (listed:Array Bool) (a:Act) (y:Full),
      (∀ j oj,ops[j]? = some oj → j ≠ i → listed.getD j true = false →(∀ e ∈ oj.after,Region.binds md e = true → e.on ≠ i) → oi.apart ops oj = true) →
      wv md ops listed →(∀ d ∈ ds,listed.getD d true = false → d = i ∨ qb md ops i n d = true) →
      i ∈ Region.ready md ops listed → Good y → YieldsIf P ops (Same Wr y) oi v a →
      wpG P md ops K Wr ds fuel (listed.setIfInBounds i true) (a.put oi.dst v) y → wpG P md ops K Wr ds (fuel + 1) listed a y:=by
  intro fuel
  induction fuel with
  | zero =>
    intro listed a y _ _ _ hr hg hy H
    refine ⟨fun h=>(by rw [h] at hr;cases hr),fun j hj=>?_⟩
    by_cases hji:j = i
    · subst hji;exact hy.wpOp hi (Same.refl _ _) ⟨y,rfl,fun _=>⟨[],Step.refl _ _ _⟩,hg,H⟩
    · have:=ready_mono hj hji
      rw [H.1] at this
      cases this
  | succ fuel ih =>
    intro listed a y hfree hc hd hr hg hy H
    refine ⟨fun h=>(by rw [h] at hr;cases hr),fun j hj=>?_⟩
    by_cases hji:j = i
    · subst hji;exact hy.wpOp hi (Same.refl _ _) ⟨y,rfl,fun _=>⟨[],Step.refl _ _ _⟩,hg,H⟩
    · have h1:=H.2 j (ready_mono hj hji)
      obtain ⟨hjun,oj,hoj,hall⟩:=mem_ready.1 hj
      have hiun:=(mem_ready.1 hr).1
      have hnot:∀ e ∈ oj.after,Region.binds md e = true → e.on ≠ i:=fun e he hb heq=>by
        have h1:=hall e he hb
        rw [heq] at h1
        rcases Nat.lt_or_ge i listed.size with h' | h'
        · simp [h'] at hiun h1;rw [hiun] at h1;cases h1
        · simp [Array.getElem?_eq_none h'] at h1
      have hjd:j ∉ ds:=fun hm=>by
        rcases hd j hm hjun with e|e
        · exact hji e
        · exact ww hc e hiun hj
      have h2:=wpOp_putIf hoj (hfree j oj hoj hji hjun hnot) (fun cs b=>hsel i oi cs b hi) (fun cs b=>hsel j oj cs b hoj) hQ hy h1
      have hfree':∀ k ok,ops[k]? = some ok → k ≠ i →(listed.setIfInBounds j true).getD k true = false →
          (∀ e ∈ ok.after,Region.binds md e = true → e.on ≠ i) → oi.apart ops ok = true:=fun k ok hk hki hun hno=>by
        refine hfree k ok hk hki ?_ hno
        by_cases hjk:j = k
        · subst hjk;exact hjun
        · rw [getD_set_ne true hjk] at hun;exact hun
      have hd':∀ d ∈ ds,(listed.setIfInBounds j true).getD d true = false → d = i ∨ qb md ops i n d = true:=fun d hm hun=>by
        refine hd d hm ?_
        by_cases hjk:j = d
        · subst hjk;exact hjun
        · rw [getD_set_ne true hjk] at hun;exact hun
      refine wpOp_mono (fun a' w' h3=>?_) h2
      obtain ⟨h4,y',e,h5,h6,h7⟩:=h3
      obtain ⟨Wm,h5⟩:=h5 hjd
      refine ⟨y',e,fun _=>⟨Wm,h5⟩,h6,ih (listed.setIfInBounds j true) a' y' hfree' (hc.set hj) hd' (ready_mono hr (Ne.symm hji)) h6 (jal h4 fun w hw=>(h5.same hg).trans h5 hw) ?_⟩
      rw [Array.setIfInBounds_comm _ _ hji]
      exact h7
end
inductive Plan where
  | nil
  | take (i:Nat) (p:Plan)
  | one (i:Nat) (p:Plan)
  | fork (i:Nat) (p:Plan) (j:Nat) (q:Plan)
def Plan.size:Plan → Nat
  | .nil=>0
  | .take _ p=>p.size + 1
  | .one _ p=>p.size + 1
  | .fork _ p _ q=>max p.size q.size + 1
def Plan.okB (ops:Array Oper) (ds:List Nat):Plan → Array Bool → Bool
  | .nil,l=>Region.ready .any ops l == []
  | .take i p,l=>(Region.ready .any ops l).contains i && Region.free .any ops l i && (ds.all fun d=>l.getD d true || d == i || qb .any ops i ops.size d) && p.okB ops ds (l.setIfInBounds i true)
  | .one i p,l=>Region.ready .any ops l == [i] && p.okB ops ds (l.setIfInBounds i true)
  | .fork i p j q,l=>Region.ready .any ops l == [i,j] && p.okB ops ds (l.setIfInBounds i true) && q.okB ops ds (l.setIfInBounds j true)
def okD (C:Cx) (Wr ds:List Nat) (i id:Nat):Bool:=okC C id && (ds.contains i || Wr.contains id)
def jtu (C:Cx) (Wr:List Nat) (ops:Array Oper) (o:Oper) (ρ:Rg) (st:St) (Q:Rg → St → Prop):Prop :=
  (gB ops ρ o.guard = some true ∧ ∃ b,bn C.P st ρ o.op = some b ∧ wl Wr ρ o.op = true ∧ Q (ke ρ o.dst b) st) ∨(gB ops ρ o.guard = some false ∧ Q (ke ρ o.dst (.tup [])) st)
def er (C:Cx) (ops:Array Oper) (Wr ds:List Nat):Plan → Rg → St →(Rg → St → Prop) → Prop
  | .nil,ρ,st,Q=>Q ρ st
  | .take i p,ρ,st,Q=>∃ o,ops[i]? = some o ∧ jtu C Wr ops o ρ st (fun ρ st=>er C ops Wr ds p ρ st Q)
  | .one i p,ρ,st,Q=>∃ o,ops[i]? = some o ∧ OpG C.P (okD C Wr ds i) (okM C) ops o ρ st (fun ρ st=>er C ops Wr ds p ρ st Q)
  | .fork i p j q,ρ,st,Q=>(∃ o,ops[i]? = some o ∧ OpG C.P (okD C Wr ds i) (okM C) ops o ρ st (fun ρ st=>er C ops Wr ds p ρ st Q)) ∧(∃ o,ops[j]? = some o ∧ OpG C.P (okD C Wr ds j) (okM C) ops o ρ st (fun ρ st=>er C ops Wr ds q ρ st Q))
theorem jtv {C:Cx} {Wr ds:List Nat} {i id:Nat} (h:okD C Wr ds i id = true):okC C id = true:=by
  simp only [okD,Bool.and_eq_true] at h
  exact h.1
theorem jtw {C:Cx} {Wr ds:List Nat} {i id:Nat} (h:okD C Wr ds i id = true) (hn:i ∉ ds):id ∈ Wr:=by
  simp only [okD,Bool.and_eq_true,Bool.or_eq_true,List.contains_iff_mem] at h
  exact h.2.resolve_left hn
theorem jd8 {C:Cx} {ops:Array Oper} {Wr ds:List Nat} {i:Nat} {o:Oper} {ρ:Rg} {st:St} {Q:Rg → St → Prop} (hd:jck C.nt ops = true) (ho:ops[i]? = some o) (h:OpG C.P (okD C Wr ds i) (okM C) ops o ρ st Q)
    {x y:Full} {a:Act} (h1:x.st.S.length = C.nb) (h1m:x.st.M.length = C.nm) (h2:Step C.Wr C.Wm x y) (h3:y.st = st) (h4:Good y) (h5:Regs C.nt y ρ a) {K:Exit → Act → World → Prop} {N:Act → Full → Prop}
    (hN:∀ ρ' z a',Q ρ' z.st → Step C.Wr C.Wm x z → Good z → Regs C.nt z ρ' a' → N a' z) :
    wpOp C.P ops K i (fun a' w'=>∃ y',y'.w = w' ∧(i ∉ ds → ∃ Wm,Step Wr Wm y y') ∧ Good y' ∧ N a' y') a y.w:=by
  have hdst:∀ d,o.dst = some d → d < C.nt:=fun d hod=>sg hd (by simpa using Array.mem_of_getElem? ho) hod
  unfold wpOp
  simp only [ho]
  rcases h with ⟨hg,h⟩|⟨hg,h⟩
  · rw [if_pos (zl hg (nn hd) h5)]
    refine .inl (Oper.wp_mono (fun a' w' hh=>?_) (h C.nt y a K h3 h4 h5 hdst))
    obtain ⟨ρ',z,W,V,rfl,q1,q2,q3,q4,q5,q6⟩:=hh
    refine ⟨z,rfl,fun hn=>⟨V,(Step.refl Wr V y).trans' q3 (fun k hk hl=>.inl (jtw (q4 k hk hl) hn)) (fun k hk _=>.inl hk)⟩,q2,hN ρ' z a' q1 (h2.trans' q3 (fun k hk hl=>h1 ▸ jid (jtv (q4 k hk hl))) (fun k hk hl=>h1m ▸ jie (q5 k hk hl))) q2 q6⟩
  · rw [if_neg (by rw [zl hg (nn hd) h5];decide)]
    exact ⟨y,rfl,fun _=>⟨[],Step.refl _ _ _⟩,h4,hN _ y _ (h3 ▸ h) h2 h4 (h5.putW hdst)⟩
theorem qw {C:Cx} {ops:Array Oper} {Wr ds:List Nat} (hd:jck C.nt ops = true) (hsel:Region.noSelect ops = true) {Q:Rg → St → Prop}:∀(p:Plan) (fuel:Nat) (listed:Array Bool) (ρ:Rg) (st:St) (x y:Full) (a:Act) (K:Exit → Act → World → Prop),
    p.okB ops ds listed = true → p.size ≤ fuel → wv .any ops listed → er C ops Wr ds p ρ st Q → x.st.S.length = C.nb → x.st.M.length = C.nm → Step C.Wr C.Wm x y → y.st = st → Good y → Regs C.nt y ρ a →
    (∀ ρ' z a',Q ρ' z.st → Step C.Wr C.Wm x z → Good z → Regs C.nt z ρ' a' → K .normal a' z.w) →(∀ c a w,¬ K (.panic c) a w) → wpG C.P .any ops K Wr ds fuel listed a y
  | .nil,fuel,listed,ρ,st,x,y,a,K,hp,hf,hc,h,h1,h1m,h2,h3,h4,h5,hK,hn=>by
    simp only [Plan.okB,beq_iff_eq] at hp
    have hk:=hK ρ y a (by rw [h3];exact h) h2 h4 h5
    cases fuel with
    | zero=>exact ⟨hp,hk⟩
    | succ n=>exact ⟨fun _=>hk,by rw [hp];simp⟩
  | .take i p,0,listed,ρ,st,x,y,a,K,hp,hf,hc,h,h1,h1m,h2,h3,h4,h5,hK,hn=>by simp [Plan.size] at hf
  | .take i p,fuel + 1,listed,ρ,st,x,y,a,K,hp,hf,hc,h,h1,h1m,h2,h3,h4,h5,hK,hn=>by
    simp only [Plan.okB,Bool.and_eq_true] at hp
    obtain ⟨⟨⟨p1,p2⟩,p3⟩,p4⟩:=hp
    have p1:i ∈ Region.ready .any ops listed:=by simpa using p1
    obtain ⟨o,ho,h⟩:=h
    have hdst:∀ d,o.dst = some d → d < C.nt:=fun d hod=>sg hd (by simpa using Array.mem_of_getElem? ho) hod
    have hds:∀ d ∈ ds,listed.getD d true = false → d = i ∨ qb .any ops i ops.size d = true:=fun d hm hun=>by
      have:=List.all_eq_true.1 p3 d hm
      rw [hun] at this
      simpa using this
    rcases h with ⟨hg,b,hb,hst,h⟩|⟨hg,h⟩
    · obtain ⟨v,hv,hrep⟩:=jch Wr hb hst h3 h4 h5
      refine jcl ho (Region.noSelect_spec hsel) (fun c a w hk=>absurd hk (hn _ _ _)) ops.size fuel listed a y (Region.free_spec ho p2) hc hds p1 h4 (.inl ⟨zl hg (nn hd) h5,hv⟩) ?_
      exact qw hd hsel p fuel _ _ st x y _ K p4 (by simp only [Plan.size] at hf;omega) (hc.set p1) h h1 h1m h2 h3 h4 (h5.put hdst hrep) hK hn
    · refine jcl ho (Region.noSelect_spec hsel) (fun c a w hk=>absurd hk (hn _ _ _)) ops.size fuel listed a y (Region.free_spec ho p2) hc hds p1 h4 (.inr ⟨zl hg (nn hd) h5,rfl⟩) ?_
      exact qw hd hsel p fuel _ _ st x y _ K p4 (by simp only [Plan.size] at hf;omega) (hc.set p1) h h1 h1m h2 h3 h4 (h5.putW hdst) hK hn
  | .one i p,0,listed,ρ,st,x,y,a,K,hp,hf,hc,h,h1,h1m,h2,h3,h4,h5,hK,hn=>by simp [Plan.size] at hf
  | .one i p,fuel + 1,listed,ρ,st,x,y,a,K,hp,hf,hc,h,h1,h1m,h2,h3,h4,h5,hK,hn=>by
    simp only [Plan.okB,Bool.and_eq_true,beq_iff_eq] at hp
    obtain ⟨p1,p2⟩:=hp
    obtain ⟨o,ho,h⟩:=h
    refine ⟨fun h0=>(by rw [p1] at h0;cases h0),fun j hj=>?_⟩
    have hij:j = i:=by rw [p1] at hj;simpa using hj
    subst hij
    exact jd8 hd ho h h1 h1m h2 h3 h4 h5 fun ρ' z a' q1 q2 q3 q4=>qw hd hsel p fuel _ ρ' z.st x z a' K p2 (by simp only [Plan.size] at hf;omega) (hc.set hj) q1 h1 h1m q2 rfl q3 q4 hK hn
  | .fork i p j q,0,listed,ρ,st,x,y,a,K,hp,hf,hc,h,h1,h1m,h2,h3,h4,h5,hK,hn=>by simp [Plan.size] at hf
  | .fork i p j q,fuel + 1,listed,ρ,st,x,y,a,K,hp,hf,hc,h,h1,h1m,h2,h3,h4,h5,hK,hn=>by
    simp only [Plan.okB,Bool.and_eq_true,beq_iff_eq] at hp
    obtain ⟨⟨p1,p2⟩,p3⟩:=hp
    obtain ⟨⟨o,ho,hl⟩,⟨o',ho',hr⟩⟩:=h
    refine ⟨fun h0=>(by rw [p1] at h0;cases h0),fun k hk=>?_⟩
    have hij:k = i ∨ k = j:=by rw [p1] at hk;simpa using hk
    rcases hij with rfl|rfl
    · exact jd8 hd ho hl h1 h1m h2 h3 h4 h5 fun ρ' z a' q1 q2 q3 q4=>qw hd hsel p fuel _ ρ' z.st x z a' K p2 (by simp only [Plan.size] at hf;omega) (hc.set hk) q1 h1 h1m q2 rfl q3 q4 hK hn
    · exact jd8 hd ho' hr h1 h1m h2 h3 h4 h5 fun ρ' z a' q1 q2 q3 q4=>qw hd hsel q fuel _ ρ' z.st x z a' K p3 (by simp only [Plan.size] at hf;omega) (hc.set hk) q1 h1 h1m q2 rfl q3 q4 hK hn
def Plan.goodB (p:Plan) (nt:Nat) (ops:Array Oper) (ds:List Nat):Bool :=
  jck nt ops && Region.noSelect ops && decide (p.size ≤ ops.size) && p.okB ops ds (Array.replicate ops.size false)
theorem wx {C:Cx} {id:Nat} {ops:Array Oper} {ρ:Rg} {st:St} {Q:nl} (p:Plan) (Wr ds:List Nat) (hm:C.P.follows .mixedOrders = true) (hp:p.goodB C.nt ops ds = true)
    (h:er C ops Wr ds p ρ st (fun ρ st=>Q .normal ρ st)):Tri C (.region id ops true) ρ st Q:=by
  intro x y a h1 h1m h2 h3 h4 h5 K hK
  simp only [Plan.goodB,Bool.and_eq_true,decide_eq_true_eq] at hp
  obtain ⟨⟨⟨p1,p2⟩,p3⟩,p4⟩:=hp
  let y':Full:={ y with w:={ y.w with drawn:=y.w.drawn + 1 } }
  have hstep:Step C.Wr C.Wm x y':=⟨h2.os,h2.tape,h2.output,h2.size,h2.frame,h2.keep,h2.slen,h2.ids,h2.fresh,h2.mlen,h2.mids,h2.mfresh,h2.tags,h2.tfresh,h2.fro⟩
  have hyy:Step [] [] y y':=⟨rfl,rfl,rfl,Nat.le_refl _,fun _ _ _ _ _=>rfl,jfm.refl _ _,Nat.le_refl _,fun _ _=>rfl,fun i q1 q2=>by simp only [y'] at q2;omega,Nat.le_refl _,fun _ _=>rfl,fun i q1 q2=>by simp only [y'] at q2;omega,fun t k ht=>⟨k,ht,Nat.le_refl _,fun _=>⟨rfl,fun _ _=>⟨rfl,rfl⟩⟩,.inl rfl⟩,fun t b q1 q2=>by simp only [y'] at q2;omega,fun _ _ _=>rfl⟩
  have hgood:Good y':=by
    refine ⟨fun i cs t hi=>?_,h4.inj,h4.tag,fun i es hi=>?_,h4.mapinj,h4.tmap,h4.mp⟩
    · obtain ⟨vs,q1,q2,q3⟩:=h4.box i cs t hi
      exact ⟨vs,q1,q2.mono hyy,q3⟩
    · exact (h4.map i es hi).le rfl hyy.le
  refine wp_mono (Q:=fun ex a w=>ex = .normal ∧ K .normal a w) ?_ (fun e a w ⟨he,hk⟩=>he ▸ hk)
  refine wp_region_any hm (zp (Wr:=Wr) (ds:=ds) _ _ _ y' ?_)
  refine qw p1 p2 p _ _ ρ st x y' a _ p4 p3 (fun j oj _ hl=>?_) h h1 h1m hstep h3 hgood (h5.step hyy) (fun ρ' z a' q1 q2 q3 q4=>⟨rfl,hK .normal ρ' z a' q1 q2 q3 q4⟩) (fun c a w hh=>by cases hh.1)
  rw [Array.getD_eq_getD_getElem?,Array.getElem?_replicate] at hl
  split at hl <;> cases hl
end Go.Proofs.YtinffhimfoicdaaGreat.Calc
namespace Go.Proofs.YtinffhimfoicdaaGreat.Calc
open Go Go.RowKit
set_option linter.unusedVariables false
set_option linter.unusedSimpArgs false
abbrev vI (n:Int):BV:=.d (.flat (.int .i64 n))
abbrev vB (b:Bool):BV:=.d (.flat (.bool b))
abbrev vS (s:ByteArray):BV:=.d (.flat (.string s))
abbrev cy {α:Type} (f:α → List DV) (l:List α):DV:=.sl (l.flatMap f) l.length
theorem ma {α:Type} {f:α → List DV} {k:Nat} (h:∀ c,(f c).length = k):∀ l:List α,(l.flatMap f).length = l.length * k
  | []=>by simp
  | c :: l=>by rw [List.flatMap_cons,List.length_append,h,ma h l,List.length_cons,Nat.add_mul];omega
theorem uf {α:Type} {f:α → List DV} {k:Nat} (h:∀ c,(f c).length = k):∀ {l:List α} {i:Nat} {c:α},l[i]? = some c →((l.flatMap f).drop (i * k)).take k = f c
  | [],i,c,hi=>by simp at hi
  | d :: l,0,c,hi=>by
    simp only [List.getElem?_cons_zero,Option.some.injEq] at hi
    subst hi
    rw [List.flatMap_cons,Nat.zero_mul,List.drop_zero,List.take_append_of_le_length (by rw [h];exact Nat.le_refl _),List.take_of_length_le (by rw [h];exact Nat.le_refl _)]
  | d :: l,i + 1,c,hi=>by
    simp only [List.getElem?_cons_succ] at hi
    have hd:(i + 1) * k =(f d).length + i * k:=by rw [h,Nat.add_mul];omega
    rw [List.flatMap_cons,hd,List.drop_append]
    have h1:(f d).drop ((f d).length + i * k) = []:=List.drop_of_length_le (by omega)
    have h2:(f d).length + i * k - (f d).length = i * k:=by omega
    rw [h1,h2,List.nil_append]
    exact uf h hi
theorem cw (a:Array UInt8):(ByteArray.mk a).size = a.size:=rfl
theorem jmo (a b:ByteArray):(a.toList == b.toList) = decide (a = b):=by
  rw [ByteArray.toList_eq,ByteArray.toList_eq]
  by_cases h:a = b
  · subst h;simp
  · rw [decide_eq_false h]
    simp only [beq_eq_false_iff_ne,ne_eq]
    intro e
    apply h
    cases a;cases b
    congr
    exact Array.ext' e
theorem dl {α:Type} {P:Program} (a:α):gb P (pure a:Sem α) = some a:=rfl
theorem c8 {α β:Type} {P:Program} (f:α → Sem β):∀ e:Sem α,gb P (e >>= f) =(gb P e).bind fun a=>gb P (f a)
  | .pure a=>rfl
  | .program k=>by show gb P (k P >>= f) =(gb P (k P)).bind _;exact c8 f (k P)
  | .mark _ k=>by show gb P (k >>= f) =(gb P k).bind _;exact c8 f k
  | .choose q k=>by
    show (if q.forced = true then gb P (k 0 >>= f) else none) =(if q.forced = true then gb P (k 0) else none).bind _
    split
    · exact c8 f (k 0)
    · rfl
  | .load _ _ _=>rfl
  | .store _ _ _ _=>rfl
  | .new _ _=>rfl
  | .shape _ _=>rfl
  | .freeze _ _ _=>rfl
  | .frozen _ _=>rfl
  | .getObj _ _=>rfl
  | .setObj _ _ _=>rfl
  | .sys _ _=>rfl
  | .halt _=>rfl
theorem qc {P:Program} {t:Nat} {d:TypeDesc} (h:P.underlying t = some d):gb P (underlying t) = some d:=by
  simp only [underlying,program,c8]
  show (some P).bind _ = _
  simp only [Option.bind_some,h]
  rfl
section
variable {P:Program} {st:St} {ρ:Rg} {x y:Operand} {t ty:Nat}
theorem qd {k:IntKind} {a b:Int} (hx:fl ρ x = some (.int k a)) (hy:fl ρ y = some (.int k b)):bn P st ρ (.binOp .add t x y ty) = some (.d (.flat (.int k (k.wrap (a + b))))):=by
  simp [bn,hx,hy,eqGuard,binOp,Op.intArith,dl,c8,d6,jt,js]
theorem rc {k:IntKind} {a b:Int} (hx:fl ρ x = some (.int k a)) (hy:fl ρ y = some (.int k b)):bn P st ρ (.binOp .sub t x y ty) = some (.d (.flat (.int k (k.wrap (a - b))))):=by
  simp [bn,hx,hy,eqGuard,binOp,Op.intArith,dl,c8,d6,jt,js]
theorem jd9 {k:IntKind} {a b:Int} (hx:fl ρ x = some (.int k a)) (hy:fl ρ y = some (.int k b)):bn P st ρ (.binOp .mul t x y ty) = some (.d (.flat (.int k (k.wrap (a * b))))):=by
  simp [bn,hx,hy,eqGuard,binOp,Op.intArith,dl,c8,d6,jt,js]
theorem az {a b c:Int} (hx:fl ρ x = some (.int .i64 a)) (hy:fl ρ y = some (.int .i64 b)) (hc:a + b = c) (h:-9223372036854775808 ≤ c ∧ c ≤ 9223372036854775807):bn P st ρ (.binOp .add t x y ty) = some (vI c):=by
  subst hc
  rw [qd hx hy,IntWalk.i64_in _ h]
theorem ei {a b c:Int} (hx:fl ρ x = some (.int .i64 a)) (hy:fl ρ y = some (.int .i64 b)) (hc:a - b = c) (h:-9223372036854775808 ≤ c ∧ c ≤ 9223372036854775807):bn P st ρ (.binOp .sub t x y ty) = some (vI c):=by
  subst hc
  rw [rc hx hy,IntWalk.i64_in _ h]
theorem cu {k:IntKind} {a b:Int} (hx:fl ρ x = some (.int k a)) (hy:fl ρ y = some (.int k b)):bn P st ρ (.binOp .lss t x y ty) = some (vB (decide (a < b))):=by
  simp [bn,hx,hy,eqGuard,binOp,Op.intCmp,dl,c8,d6,jt,js]
theorem mj {k:IntKind} {a b:Int} (hx:fl ρ x = some (.int k a)) (hy:fl ρ y = some (.int k b)):bn P st ρ (.binOp .leq t x y ty) = some (vB (decide (a ≤ b))):=by
  simp [bn,hx,hy,eqGuard,binOp,Op.intCmp,dl,c8,d6,jt,js]
theorem gj {k:IntKind} {a b:Int} (hx:fl ρ x = some (.int k a)) (hy:fl ρ y = some (.int k b)):bn P st ρ (.binOp .gtr t x y ty) = some (vB (decide (b < a))):=by
  simp [bn,hx,hy,eqGuard,binOp,Op.intCmp,dl,c8,d6,jt,js]
theorem ep {k:IntKind} {a b:Int} (hx:fl ρ x = some (.int k a)) (hy:fl ρ y = some (.int k b)):bn P st ρ (.binOp .geq t x y ty) = some (vB (decide (b ≤ a))):=by
  simp [bn,hx,hy,eqGuard,binOp,Op.intCmp,dl,c8,d6,jt,js]
theorem dq {k:IntKind} {a b:Int} (hx:fl ρ x = some (.int k a)) (hy:fl ρ y = some (.int k b)):bn P st ρ (.binOp .eql t x y ty) = some (vB (decide (a = b))):=by
  simp [bn,hx,hy,eqGuard,binOp,Op.intCmp,dl,c8,d6,jt,js]
  rfl
theorem fb {k:IntKind} {a b:Int} (hx:fl ρ x = some (.int k a)) (hy:fl ρ y = some (.int k b)):bn P st ρ (.binOp .neq t x y ty) = some (vB (decide (¬ a = b))):=by
  simp [bn,hx,hy,eqGuard,binOp,Op.intCmp,dl,c8,d6,jt,js]
  rfl
theorem du {a b:ByteArray} (hx:fl ρ x = some (.string a)) (hy:fl ρ y = some (.string b)):bn P st ρ (.binOp .eql t x y ty) = some (vB (decide (a = b))):=by
  simp [bn,hx,hy,eqGuard,binOp,Op.stringOp,dl,c8,d6,jt,js,jmo]
theorem fy {a b:ByteArray} (hx:fl ρ x = some (.string a)) (hy:fl ρ y = some (.string b)):bn P st ρ (.binOp .neq t x y ty) = some (vB (decide (¬ a = b))):=by
  simp [bn,hx,hy,eqGuard,binOp,Op.stringOp,dl,c8,d6,jt,js,jmo]
theorem kr {a b:ByteArray} (hx:fl ρ x = some (.string a)) (hy:fl ρ y = some (.string b)) (h:a.size + b.size ≤ 9223372036854775807):bn P st ρ (.binOp .add t x y ty) = some (vS (a ++ b)):=by
  have h':¬(9223372036854775807 <((a.size:Int) +(b.size:Int))):=by omega
  simp [bn,hx,hy,eqGuard,binOp,Op.stringOp,dl,c8,d6,jt,js,h']
theorem jnu {k:IntKind} {a b:Int} (hx:fl ρ x = some (.int k a)) (hy:fl ρ y = some (.int k b)) (h:b ≠ 0):bn P st ρ (.binOp .rem t x y ty) = some (.d (.flat (.int k (a.tmod b)))):=by
  simp [bn,hx,hy,eqGuard,binOp,Op.intDiv,dl,c8,d6,jt,js,h]
theorem cg {b:Bool} (hx:fl ρ x = some (.bool b)):bn P st ρ (.unOp .not t x) = some (vB (!b)):=by
  simp [bn,hx,Op.unary,dl,c8,d6,jt,js]
theorem kt {s d:Nat} {u:TypeDesc} {j k:IntKind} {n:Int} (hx:fl ρ x = some (.int j n)) (hs:P.underlying s = some u) (hd:P.underlying d = some (.int k)):bn P st ρ (.convert s d x) = some (.d (.flat (.int k (k.wrap n)))):=by
  have:gb P (convert s d (.int j n)) = some (.int k (k.wrap n)):=by
    simp only [convert,c8,qc hs,qc hd,Option.bind_some,Conv.intToInt,dl]
  simp [bn,hx,this,d6,jt,js]
theorem jcm {k:IntKind} {a b:Int} {ats:Array TypeId} (hx:fl ρ x = some (.int k a)) (hy:fl ρ y = some (.int k b)):bn P st ρ (.call { callee:=.builtin .max,args:=#[x,y],argTypes:=ats }) = some (.d (.flat (.int k (if b > a then b else a)))):=by
  simp [bn,hx,hy,Builtin.max_,Builtin.max2,dl,c8,d6,jt,js]
theorem jea {k:IntKind} {a b:Int} {ats:Array TypeId} (hx:fl ρ x = some (.int k a)) (hy:fl ρ y = some (.int k b)):bn P st ρ (.call { callee:=.builtin .min,args:=#[x,y],argTypes:=ats }) = some (.d (.flat (.int k (if b < a then b else a)))):=by
  simp [bn,hx,hy,Builtin.min_,Builtin.min2,dl,c8,d6,jt,js]
theorem y8 {k:IntKind} {a b:Int} (hx:fl ρ x = some (.int k a)) (hy:fl ρ y = some (.int k b)):bn P st ρ (.binOp .and t x y ty) = some (.d (.flat (.int k (k.wrap (BitVec.ofInt k.bits a &&& BitVec.ofInt k.bits b).toNat)))):=by
  simp [bn,hx,hy,eqGuard,binOp,Op.intBits,dl,c8,d6,jt,js]
theorem jnv {k:IntKind} {a b:Int} (hx:fl ρ x = some (.int k a)) (hy:fl ρ y = some (.int k b)):bn P st ρ (.binOp .or t x y ty) = some (.d (.flat (.int k (k.wrap (BitVec.ofInt k.bits a ||| BitVec.ofInt k.bits b).toNat)))):=by
  simp [bn,hx,hy,eqGuard,binOp,Op.intBits,dl,c8,d6,jt,js]
theorem jcn {k k':IntKind} {a b:Int} (hx:fl ρ x = some (.int k a)) (hy:fl ρ y = some (.int k' b)) (h:0 ≤ b):bn P st ρ (.binOp .shl t x y ty) = some (.d (.flat (.int k (k.wrap (a * 2 ^ (min b.toNat k.bits)))))):=by
  simp [bn,hx,hy,eqGuard,binOp,Op.shift,dl,c8,d6,jt,js,Int.not_lt.2 h]
theorem qe (n:Int):0 ≤ IntKind.u64.wrap n:=by
  simp only [IntKind.wrap,IntKind.signed,Bool.false_and,Bool.false_eq_true,if_false]
  exact Int.emod_nonneg _ (by decide)
theorem jmp {k:IntKind} {s:ByteArray} {i:Int} {u:UInt8} (ht:P.underlying t = some .string) (hx:fl ρ x = some (.string s)) (hy:fl ρ y = some (.int k i)) (h0:0 ≤ i) (hu:s.data.toList[i.toNat]? = some u):bn P st ρ (.index t x y) = some (.d (.flat (.int .u8 u.toNat))):=by
  have hu':s[i.toNat]? = some u:=by
    rw [Array.getElem?_toList] at hu
    exact hu
  have:gb P (Instr.index t (.string s) (.int k i)) = some (.int .u8 u.toNat):=by
    simp only [Instr.index,asIntOf,c8,dl,Option.bind_some,qc ht,if_pos h0,hu']
  simp [bn,hx,hy,this,d6,jt,js]
theorem nq {k:IntKind} {s:ByteArray} {i:Int} (ht:P.underlying t = some .string) (hx:fl ρ x = some (.string s)) (hy:fl ρ y = some (.int k i)) (h0:0 ≤ i ∧ i < s.size):bn P st ρ (.index t x y) = some (.d (.flat (.int .u8 (s.data.toList.getD i.toNat 0).toNat))):=by
  have hlt:i.toNat < s.data.toList.length:=by
    have:s.size = s.data.toList.length:=Array.length_toList.symm
    omega
  refine jmp ht hx hy h0.1 ?_
  rw [List.getElem?_eq_getElem hlt,List.getD_eq_getElem?_getD,List.getElem?_eq_getElem hlt]
  rfl
theorem cb {pl:List (Nat × Nat)} {z:List BV} {s f o sz id off:Nat} (hp:jku P s = some (pl,z)) (hx:evB ρ x = some (.ptr id off)) (hf:pl[f]? = some (o,sz)) (hs:sz ≠ 0):bn P st ρ (.fieldAddr s x f) = some (.ptr id (off + o)):=by
  simp [bn,hp,hx,hf,hs]
theorem fz {pl:List (Nat × Nat)} {z:List BV} {s f o sz:Nat} {cs:List DV} (hp:jku P s = some (pl,z)) (hx:evB ρ x = some (.eptr cs)) (hf:pl[f]? = some (o,sz)) (hs:sz ≠ 0):bn P st ρ (.fieldAddr s x f) = some (.eptr (cs.drop o)):=by
  simp [bn,hp,hx,hf,hs]
theorem bz {ag:Bool} {sz id off ty:Nat} {z cs:List BV} {b:BV} (ht:pi P t = some (ag,sz,z)) (hx:evB ρ x = some (.ptr id off)) (hb:st.S[id]? = some (cs,ty)) (hp:part ag sz off cs = some b):bn P st ρ (.load t x) = some b:=by
  simp [bn,ht,hx,hb,hp]
theorem bj {sz id ty:Nat} {z cs:List BV} (ht:pi P t = some (true,sz,z)) (hx:evB ρ x = some (.ptr id 0)) (hb:st.S[id]? = some (cs,ty)) (hl:cs.length = sz):bn P st ρ (.load t x) = some (.agg cs):=by
  subst hl
  simp [bn,ht,hx,hb,part]
theorem ef {ag:Bool} {sz:Nat} {z:List BV} {cs:List DV} {b:BV} (ht:pi P t = some (ag,sz,z)) (hx:evB ρ x = some (.eptr cs)) (hp:part ag sz 0 (cs.map .d) = some b):bn P st ρ (.load t x) = some b:=by
  simp [bn,ht,hx,hp]
theorem dp {sz:Nat} {z:List BV} {cs:List DV} (ht:pi P t = some (true,sz,z)) (hx:evB ρ x = some (.eptr cs)) (hl:cs.length = sz):bn P st ρ (.load t x) = some (.agg (cs.map .d)):=by
  subst hl
  have:(cs.map BV.d).length = cs.length:=List.length_map ..
  simp only [bn,ht,hx,part,Nat.zero_add,this,Nat.le_refl,if_true,List.drop_zero]
  rw [← this,List.take_length]
theorem jtx {k:IntKind} {e sz n:Nat} {j:Int} {b:BV} {cs:List DV} (he:u9 P t = some (e,sz)) (hx:evB ρ x = some b) (hr:mg b = some (cs,n)) (hy:fl ρ y = some (.int k j)) (h:0 ≤ j ∧ j < n):bn P st ρ (.indexAddr t x y) = some (.eptr ((cs.drop (j.toNat * sz)).take sz)):=by
  simp [bn,he,hx,hr,hy,h]
theorem bp {α:Type} {f:α → List DV} {l:List α} {c:α} {k:IntKind} {e sz:Nat} {j:Int} {b:BV} (he:u9 P t = some (e,sz)) (hx:evB ρ x = some b) (hr:mg b = some (l.flatMap f,l.length)) (hy:fl ρ y = some (.int k j)) (hf:∀ c,(f c).length = sz) (h0:0 ≤ j) (hg:l[j.toNat]? = some c):bn P st ρ (.indexAddr t x y) = some (.eptr (f c)):=by
  have hlt:=(List.getElem?_eq_some_iff.1 hg).1
  rw [jtx he hx hr hy ⟨h0,by omega⟩,uf hf hg]
theorem j0 {α:Type} {f:α → List DV} {l:List α} {c:α} {cs:List DV} {k:IntKind} {e sz:Nat} {j:Int} {b:BV} (hcs:cs = l.flatMap f) (hf:∀ c,(f c).length = sz) (he:u9 P t = some (e,sz)) (hx:evB ρ x = some b) (hr:mg b = some (cs,l.length)) (hy:fl ρ y = some (.int k j)) (h0:0 ≤ j) (hg:l[j.toNat]? = some c):bn P st ρ (.indexAddr t x y) = some (.eptr (f c)):=by
  subst hcs
  exact bp he hx hr hy hf h0 hg
theorem bq {t0 e sz n:Nat} {b:BV} {cs:List DV} (he:u9 P t0 = some (e,sz)) (hx:evB ρ x = some b) (hr:mg b = some (cs,n)):bn P st ρ (.call { callee:=.builtin .len,args:=#[x],argTypes:=#[t0] }) = some (vI n):=by
  cases b with
  | d y=>cases y with
    | sl cs' n' =>
      simp only [mg,Option.some.injEq,Prod.mk.injEq] at hr
      obtain ⟨rfl,rfl⟩:=hr
      simp [bn,hx,mg,he]
    | _=>simp [mg] at hr
  | own e sz t cs' n' =>
    simp only [mg,Option.some.injEq,Prod.mk.injEq] at hr
    obtain ⟨rfl,rfl⟩:=hr
    simp [bn,hx,mg,he]
  | tight cs' n' =>
    simp only [mg,Option.some.injEq,Prod.mk.injEq] at hr
    obtain ⟨rfl,rfl⟩:=hr
    simp [bn,hx,mg,he]
  | _=>simp [mg] at hr
theorem fx {t0:Nat} {s:ByteArray} (he:P.underlying t0 = some .string) (hx:evB ρ x = some (vS s)):bn P st ρ (.call { callee:=.builtin .len,args:=#[x],argTypes:=#[t0] }) = some (vI s.size):=by
  have:gb P (Builtin.len_ #[t0] 0 #[.string s]) = some (.int .i64 s.size):=by
    simp [Builtin.len_,c8,qc he,dl,goInt]
  simp [bn,hx,this,d6,jt,js]
theorem jty {s:ByteArray} {lo hi:Option Value} {l h:Nat} (ht:P.underlying t = some .string) (hl:(lo = none ∧ l = 0) ∨ ∃ k v,lo = some (.int k v) ∧ 0 ≤ v ∧ l = v.toNat) (hh:(hi = none ∧ h = s.size) ∨ ∃ k v,hi = some (.int k v) ∧ 0 ≤ v ∧ h = v.toNat) (h1:l ≤ h) (h2:h ≤ s.size) :
    gb P (Instr.sliceAt t (.string s) lo hi none) = some (.string (s.extract l h)):=by
  have hb:∀(y:Nat) (k:IntKind) (m:Int) (code:BoundsCode),0 ≤ m → m ≤ y → gb P (Instr.sliceBound (.int k m) y code) = some m.toNat:=fun y k m code h0 h1=>by
    simp only [Instr.sliceBound,asIntOf,c8,dl,Option.bind_some]
    rw [if_pos ⟨h0,by omega⟩]
    rfl
  rcases hl with ⟨rfl,rfl⟩|⟨k,v,rfl,hv,rfl⟩ <;> rcases hh with ⟨rfl,rfl⟩|⟨k',v',rfl,hv',rfl⟩ <;>
    simp only [Instr.sliceAt,Instr.slice,c8,qc ht,dl,Option.bind_some,Instr.sliceBounds,Option.isSome_none,Bool.false_eq_true,if_false]
  · rw [hb _ _ _ _ hv' (by omega)]
    rfl
  · rw [hb _ _ _ _ hv (by omega)]
    rfl
  · rw [hb _ _ _ _ hv' (by omega)]
    simp only [Option.bind_some]
    rw [hb _ _ _ _ hv (by omega)]
    rfl
theorem ug {lo hi:Option Operand} {lo' hi':Option Value} {s:ByteArray} {l h:Nat} (ht:P.underlying t = some .string) (hx:evB ρ x = some (vS s)) (hl:flO ρ lo = some lo') (hh:flO ρ hi = some hi')
    (hl':(lo' = none ∧ l = 0) ∨ ∃ k v,lo' = some (.int k v) ∧ 0 ≤ v ∧ l = v.toNat) (hh':(hi' = none ∧ h = s.size) ∨ ∃ k v,hi' = some (.int k v) ∧ 0 ≤ v ∧ h = v.toNat) (h1:l ≤ h) (h2:h ≤ s.size):bn P st ρ (.slice t x lo hi none) = some (vS (s.extract l h)):=by
  have h0:flO ρ none = some none:=rfl
  simp only [bn,hx,hl,hh,h0,jty ht hl' hh' h1 h2]
  simp [d6,jt,js]
theorem bl {b:BV} (h:evB ρ x = some b):bn P st ρ (.move x) = some b:=h
theorem bg {b:BV} (h:evB ρ x = some b):bn P st ρ (.assign x) = some b:=h
theorem ca {a b:Operand} {v:BV} (hx:evB ρ x = some (vB true)) (h:evB ρ a = some v):bn P st ρ (.pick x a b) = some v:=by
  simp [bn,hx,h]
theorem bu {a b:Operand} {v:BV} (hx:evB ρ x = some (vB false)) (h:evB ρ b = some v):bn P st ρ (.pick x a b) = some v:=by
  simp [bn,hx,h]
theorem ck {id off:Nat} (hx:evB ρ x = some (.ptr id off)):bn P st ρ (.nilCheck x) = some (.ptr id off):=by
  simp [bn,hx]
theorem jeb {cs:List DV} (hx:evB ρ x = some (.eptr cs)):bn P st ρ (.nilCheck x) = some (.eptr cs):=by
  simp [bn,hx]
theorem jec {f:Nat} {cap:List BV} (hx:evB ρ x = some (.fn f cap)):bn P st ρ (.nilCheck x) = some (.fn f cap):=by
  simp [bn,hx]
theorem eu {l:List BV} {i:Nat} {b:BV} (hx:evB ρ x = some (.tup l)) (h:l[i]? = some b):bn P st ρ (.extract x i) = some b:=by
  simp [bn,hx,h]
theorem ed {pl:List (Nat × Nat)} {z cs:List BV} {ps:Array (Nat × Operand)} (hp:jku P t = some (pl,z)) (h:nf ρ (pl[·]?) ps.toList z = some cs):bn P st ρ (.build t ps) = some (.agg cs):=by
  simp [bn,hp,h]
theorem jb6 {f:Nat} {caps:Array Operand} {l:List BV} (h:jh4 ρ caps.toList = some l):bn P st ρ (.makeFunc (.func f) #[] caps) = some (.fn f l):=by
  simp [bn,h]
theorem jtz {l:List BV} {f u off sz:Nat} {ag:Bool} {z:List BV} {b:BV} (hx:evB ρ x = some (.agg l)) (hf:jmn P t f = some (u,off)) (ht:pi P u = some (ag,sz,z)) (hp:part ag sz off l = some b):bn P st ρ (.field t x f) = some b:=by
  simp [bn,hx,hf,ht,hp]
theorem jt0 {lo hi:Option Operand} {b:BV} {cs:List DV} {n e sz l h:Nat} (he:u9 P t = some (e,sz)) (hx:evB ρ x = some b) (hr:mg b = some (cs,n)) (hn:∀ v,b ≠ .d (.flat v)) (hl:jfr ρ lo 0 = some l) (hh:jfr ρ hi n = some h) (h1:l ≤ h) (h2:h ≤ n) :
    bn P st ρ (.slice t x lo hi none) = some (.d (.sl ((cs.drop (l * sz)).take ((h - l) * sz)) (h - l))):=by
  have key:(match mg b,u9 P t,jfr ρ lo 0,(none:Option Operand) with
      | some (cs,n),some (_,sz),some 0,some m=>(match jfr ρ hi n,jfr ρ (some m) n with
        | some h,some m=>if h = m ∧ h ≤ n ∧ lo.isNone = true ∧ hi.isSome = true then some (.tight (cs.take (h * sz)) h) else none
        | _,_=>none)
      | some (cs,n),some (_,sz),some l,none=>(match jfr ρ hi n with
        | some h=>if l ≤ h ∧ h ≤ n then some (.d (.sl ((cs.drop (l * sz)).take ((h - l) * sz)) (h - l))) else none
        | none=>none)
      | _,_,_,_=>none) = some (BV.d (.sl ((cs.drop (l * sz)).take ((h - l) * sz)) (h - l))):=by
    simp only [hr,he,hl,hh,h1,h2,and_self,if_true]
  cases b with
  | d y=>cases y with
    | sl cs' n' =>
      simp only [mg,Option.some.injEq,Prod.mk.injEq] at hr
      obtain ⟨rfl,rfl⟩:=hr
      simp [bn,hx,mg,he,hl,hh,h1,h2]
    | _=>simp [mg] at hr
  | own e sz t cs' n' =>
    simp only [mg,Option.some.injEq,Prod.mk.injEq] at hr
    obtain ⟨rfl,rfl⟩:=hr
    simp [bn,hx,mg,he,hl,hh,h1,h2]
  | tight cs' n' =>
    simp only [mg,Option.some.injEq,Prod.mk.injEq] at hr
    obtain ⟨rfl,rfl⟩:=hr
    simp [bn,hx,mg,he,hl,hh,h1,h2]
  | _=>simp [mg] at hr
end
section
variable {P:Program} {ok:Nat → Bool} {S:List (List BV × Nat)} {T:List Nat} {M:List (List (Value × DV))} {ρ:Rg} {x y:Operand} {t ty:Nat}
theorem jxx {ag:Bool} {sz:Nat} {z:List BV} (ht:pi P t = some (ag,sz,z)):db P ok ⟨S,T,M⟩ ρ (.alloc t) = some (⟨S ++ [(z,t)],T,M⟩,some (.ptr S.length 0)):=by
  simp [db,ht]
theorem jxy {b:BV} (hx:evB ρ x = some b) (hk:f6 b = true):db P ok ⟨S,T,M⟩ ρ (.box t x) = some (⟨S ++ [(dh b,t)],T,M⟩,some (.ptr S.length 0)):=by
  simp [db,hx,hk]
theorem jxz {ag:Bool} {e sz len:Nat} {z:List BV} {ps:Array (Nat × Operand)} {ds:List DV} (he:u9 P t = some (e,sz)) (ht:pi P e = some (ag,sz,z)) (hz:z.length = sz) (h0:0 < len * sz ∧ len * sz ≤ 2 ^ 24 ∧ len ≤ maxLen) (hf:(nf ρ (fun i=>some (i * sz,sz)) ps.toList (jak len z)).bind jhc = some ds) (h1:ds.all jb3 = true) :
    db P ok ⟨S,T,M⟩ ρ (.buildSlice t len ps) = some (⟨S,T ++ [ds.length],M⟩,some (.own e sz T.length ds len)):=by
  simp only [db,he,ht,hz,h0,and_self,if_true,hf,h1]
theorem jwu {id off sz ty:Nat} {b:BV} {ag:Bool} {z cs:List BV} (ht:pi P t = some (ag,sz,z)) (hx:evB ρ x = some (.ptr id off)) (hy:evB ρ y = some b) (hb:S[id]? = some (cs,ty)) (hk:ok id = true) (hc:f6 b = true) (hl:(dh b).length = sz) (hf:off + sz ≤ cs.length) :
    db P ok ⟨S,T,M⟩ ρ (.store t x y) = some (⟨S.set id (mi off (dh b) cs,ty),T,M⟩,none):=by
  simp only [db,ht,hx,hy,hb,hk,hc,hl,hf,and_self,if_true]
theorem mf {e sz by' m:Nat} {b:BV} {ag:Bool} {z:List BV} {ys:List DV} {st':St} {b':BV} (he:u9 P t = some (e,sz)) (ht:pi P e = some (ag,sz,z)) (hb:jsw P e = some by') (hx:evB ρ x = some b) (hy:(evB ρ y).bind mg = some (ys,m)) (hz:z.length = sz) (h0:0 < sz) (hys:ys.length = m * sz) (h:jb4 e sz by' b ys m ⟨S,T,M⟩ = some (st',b')) :
    db P ok ⟨S,T,M⟩ ρ (.call { callee:=.builtin .append,args:=#[x,y],argTypes:=#[t,t] }) = some (st',some b'):=by
  simp only [db,if_true,he,ht,hb,hx,hy,hz,h0,hys,and_self,h,Option.map_some]
theorem jnw {e sz by' tg n m:Nat} {cs ys:List DV} (hm:m ≠ 0) (h1:(n + m) * by' ≤ 140737488355328) (h2:n + m ≤ 9223372036854775807) (hT:T[tg]? = some cs.length):jb4 e sz by' (.own e sz tg cs n) ys m ⟨S,T,M⟩ = some (⟨S,T.set tg (cs ++ ys).length,M⟩,.own e sz tg (cs ++ ys) (n + m)):=by
  have h2':n + m ≤ maxLen:=by simp only [maxLen];omega
  simp only [jb4,if_neg hm,h1,h2',hT,and_self,if_true]
theorem jqk {α:Type} {f:α → List DV} {l:List α} {c:α} {e sz by' tg:Nat} (h1:(l.length + 1) * by' ≤ 140737488355328) (h2:l.length + 1 ≤ 9223372036854775807) (hT:T[tg]? = some (l.flatMap f).length) :
    jb4 e sz by' (.own e sz tg (l.flatMap f) l.length) (f c) 1 ⟨S,T,M⟩ = some (⟨S,T.set tg ((l ++ [c]).flatMap f).length,M⟩,.own e sz tg ((l ++ [c]).flatMap f) (l ++ [c]).length):=by
  rw [jnw (by decide) h1 h2 hT]
  simp
theorem jnx {e sz by' n m:Nat} {cs ys:List DV} (hm:m ≠ 0) (h1:(n + m) * by' ≤ 140737488355328) (h2:n + m ≤ 9223372036854775807) (hl:cs.length = n * sz):jb4 e sz by' (.tight cs n) ys m ⟨S,T,M⟩ = some (⟨S,T ++ [(cs ++ ys).length],M⟩,.own e sz T.length (cs ++ ys) (n + m)):=by
  have h2':n + m ≤ maxLen:=by simp only [maxLen];omega
  simp only [jb4,if_neg hm,h1,h2',hl,and_self,if_true]
section
variable {α:Type} {A L:List α}
theorem at_ {k nb:Nat} {c:α} (hS:A.length = nb) (h:L[k]? = some c):(A ++ L)[nb + k]? = some c:=by
  subst hS
  rw [List.getElem?_append_right (by omega),show A.length + k - A.length = k by omega]
  exact h
theorem aa {id:Nat} {c:α} (h:A[id]? = some c):(A ++ L)[id]? = some c:=by
  rw [List.getElem?_append_left (List.getElem?_eq_some_iff.1 h).1]
  exact h
theorem aq {id:Nat} {c:α} (h:id < A.length):(A.set id c ++ L)[id]? = some c:=aa (List.getElem?_set_self h)
theorem wy {k nb:Nat} {c:α} (hS:A.length = nb):(A ++ L).set (nb + k) c = A ++ L.set k c:=by
  subst hS
  rw [List.set_append_right _ _ (by omega),show A.length + k - A.length = k by omega]
theorem uh {id:Nat} {c:α} (h:id < A.length):(A ++ L).set id c = A.set id c ++ L:=List.set_append_left _ _ h
theorem wz {nb:Nat} (hS:A.length = nb):(A ++ L).length = nb + L.length:=by rw [List.length_append,hS]
end
variable {L:List (List BV × Nat)} {X:List Nat} {nb nt:Nat}
theorem cd {ag:Bool} {sz:Nat} {z:List BV} (hS:S.length = nb) (ht:pi P t = some (ag,sz,z)):db P ok ⟨S ++ L,T,M⟩ ρ (.alloc t) = some (⟨S ++(L ++ [(z,t)]),T,M⟩,some (.ptr (nb + L.length) 0)):=by
  rw [jxx ht,wz hS,List.append_assoc]
theorem cj {b:BV} (hS:S.length = nb) (hx:evB ρ x = some b) (hk:f6 b = true):db P ok ⟨S ++ L,T,M⟩ ρ (.box t x) = some (⟨S ++(L ++ [(dh b,t)]),T,M⟩,some (.ptr (nb + L.length) 0)):=by
  rw [jxy hx hk,wz hS,List.append_assoc]
theorem d8 {ag:Bool} {e sz len:Nat} {z:List BV} {ps:Array (Nat × Operand)} {ds:List DV} (hT:T.length = nt) (he:u9 P t = some (e,sz)) (ht:pi P e = some (ag,sz,z)) (hz:z.length = sz) (h0:0 < len * sz ∧ len * sz ≤ 2 ^ 24 ∧ len ≤ maxLen) (hf:(nf ρ (fun i=>some (i * sz,sz)) ps.toList (jak len z)).bind jhc = some ds) (h1:ds.all jb3 = true) :
    db P ok ⟨S,T ++ X,M⟩ ρ (.buildSlice t len ps) = some (⟨S,T ++(X ++ [ds.length]),M⟩,some (.own e sz (nt + X.length) ds len)):=by
  rw [jxz he ht hz h0 hf h1,wz hT,List.append_assoc]
theorem bw {k off sz ty:Nat} {b:BV} {ag:Bool} {z cs:List BV} (hS:S.length = nb) (ht:pi P t = some (ag,sz,z)) (hx:evB ρ x = some (.ptr (nb + k) off)) (hy:evB ρ y = some b) (hb:L[k]? = some (cs,ty)) (hk:ok (nb + k) = true) (hc:f6 b = true) (hl:(dh b).length = sz) (hf:off + sz ≤ cs.length) :
    db P ok ⟨S ++ L,T,M⟩ ρ (.store t x y) = some (⟨S ++ L.set k (mi off (dh b) cs,ty),T,M⟩,none):=by
  rw [jwu ht hx hy (at_ hS hb) hk hc hl hf,wy hS]
theorem fg {id off sz ty:Nat} {b:BV} {ag:Bool} {z cs:List BV} (ht:pi P t = some (ag,sz,z)) (hx:evB ρ x = some (.ptr id off)) (hy:evB ρ y = some b) (hb:S[id]? = some (cs,ty)) (hk:ok id = true) (hc:f6 b = true) (hl:(dh b).length = sz) (hf:off + sz ≤ cs.length) :
    db P ok ⟨S ++ L,T,M⟩ ρ (.store t x y) = some (⟨S.set id (mi off (dh b) cs,ty) ++ L,T,M⟩,none):=by
  rw [jwu ht hx hy (aa hb) hk hc hl hf,uh (List.getElem?_eq_some_iff.1 hb).1]
theorem jmq {e sz by' k n m:Nat} {cs ys:List DV} (hT:T.length = nt) (hm:m ≠ 0) (h1:(n + m) * by' ≤ 140737488355328) (h2:n + m ≤ 9223372036854775807) (hX:X[k]? = some cs.length):jb4 e sz by' (.own e sz (nt + k) cs n) ys m ⟨S,T ++ X,M⟩ = some (⟨S,T ++ X.set k (cs ++ ys).length,M⟩,.own e sz (nt + k) (cs ++ ys) (n + m)):=by
  rw [jnw hm h1 h2 (at_ hT hX),wy hT]
theorem qf {e sz by' tg n m:Nat} {cs ys:List DV} (hm:m ≠ 0) (h1:(n + m) * by' ≤ 140737488355328) (h2:n + m ≤ 9223372036854775807) (hT:T[tg]? = some cs.length):jb4 e sz by' (.own e sz tg cs n) ys m ⟨S,T ++ X,M⟩ = some (⟨S,T.set tg (cs ++ ys).length ++ X,M⟩,.own e sz tg (cs ++ ys) (n + m)):=by
  rw [jnw hm h1 h2 (aa hT),uh (List.getElem?_eq_some_iff.1 hT).1]
theorem ee {α:Type} {f:α → List DV} {l:List α} {c:α} {e sz by' tg:Nat} (h1:(l.length + 1) * by' ≤ 140737488355328) (h2:l.length + 1 ≤ 9223372036854775807) (hT:T[tg]? = some (l.flatMap f).length) :
    jb4 e sz by' (.own e sz tg (l.flatMap f) l.length) (f c) 1 ⟨S,T ++ X,M⟩ = some (⟨S,T.set tg ((l ++ [c]).flatMap f).length ++ X,M⟩,.own e sz tg ((l ++ [c]).flatMap f) (l ++ [c]).length):=by
  rw [jqk h1 h2 (aa hT),uh (List.getElem?_eq_some_iff.1 hT).1]
theorem av {T T1:List Nat} (h:T <+: T1) {X:List Nat}:T <+: T1 ++ X:=h.trans (List.prefix_append _ _)
theorem dc {T T1:List Nat} (h:T <+: T1) {tg n:Nat} (ht:T.length ≤ tg):T <+: T1.set tg n:=by
  obtain ⟨X,rfl⟩:=h
  rw [List.set_append_right _ _ ht]
  exact List.prefix_append _ _
theorem jkz {e sz by' n m:Nat} {cs ys:List DV} (hT:T.length = nt) (hm:m ≠ 0) (h1:(n + m) * by' ≤ 140737488355328) (h2:n + m ≤ 9223372036854775807) (hl:cs.length = n * sz):jb4 e sz by' (.tight cs n) ys m ⟨S,T ++ X,M⟩ = some (⟨S,T ++(X ++ [(cs ++ ys).length]),M⟩,.own e sz (nt + X.length) (cs ++ ys) (n + m)):=by
  rw [jnx hm h1 h2 hl,wz hT,List.append_assoc]
end
end Go.Proofs.YtinffhimfoicdaaGreat.Calc
namespace Go.Proofs.YtinffhimfoicdaaGreat
open Go Go.Proofs.YtinffhimfoicdaaGreat.Calc
set_option maxRecDepth 100000
def jny:Nat → Option (Bool × Nat × List BV)
  | 2=>some ((false,1,[.d (.flat (.int .i64 0))]))
  | 3=>some ((false,1,[.d (.flat (.int .i64 0))]))
  | 4=>some ((false,1,[.d (.flat (.bool false))]))
  | 5=>some ((false,1,[.d (.flat (.int .u8 0))]))
  | 6=>some ((false,1,[.d (.flat (.int .u8 0))]))
  | 7=>some ((true,4,[.d (.flat (.int .i64 0)),.d (.flat (.int .i64 0)),.d (.flat (.bool false)),.d (.flat (.int .u8 0))]))
  | 8=>some ((true,4,[.d (.flat (.int .i64 0)),.d (.flat (.int .i64 0)),.d (.flat (.bool false)),.d (.flat (.int .u8 0))]))
  | 9=>some ((false,1,[.d (.flat (.string ⟨#[]⟩))]))
  | 10=>some ((false,1,[.d (.flat (.string ⟨#[]⟩))]))
  | 11=>some ((false,1,[.d (.flat (.string ⟨#[]⟩))]))
  | 12=>some ((false,1,[.d (.flat (.int .u64 0))]))
  | 13=>some ((true,2,[.d (.flat (.string ⟨#[]⟩)),.d (.flat (.int .u64 0))]))
  | 14=>some ((true,2,[.d (.flat (.string ⟨#[]⟩)),.d (.flat (.int .u64 0))]))
  | 18=>some ((true,1,[.d (.flat (.pointer none))]))
  | 19=>some ((true,1,[.d (.flat (.pointer none))]))
  | 21=>some ((false,1,[.d (.flat (.int .i32 0))]))
  | 22=>some ((false,1,[.tight [] 0]))
  | 23=>some ((false,1,[.tight [] 0]))
  | 24=>some ((false,1,[.tight [] 0]))
  | 25=>some ((true,1,[.tight [] 0]))
  | 26=>some ((true,1,[.tight [] 0]))
  | 33=>some ((false,1,[.tight [] 0]))
  | 34=>some ((false,1,[.tight [] 0]))
  | 35=>some ((false,1,[.tight [] 0]))
  | 36=>some ((true,4,[.d (.flat (.string ⟨#[]⟩)),.d (.flat (.string ⟨#[]⟩)),.tight [] 0,.tight [] 0]))
  | 37=>some ((true,4,[.d (.flat (.string ⟨#[]⟩)),.d (.flat (.string ⟨#[]⟩)),.tight [] 0,.tight [] 0]))
  | 38=>some ((true,3,[.d (.flat (.int .i64 0)),.d (.flat (.int .i32 0)),.d (.flat (.string ⟨#[]⟩))]))
  | 39=>some ((true,3,[.d (.flat (.int .i64 0)),.d (.flat (.int .i32 0)),.d (.flat (.string ⟨#[]⟩))]))
  | 40=>some ((true,8,[.d (.flat (.int .i64 0)),.d (.flat (.int .i64 0)),.d (.flat (.int .i64 0)),.d (.flat (.int .i64 0)),.d (.flat (.int .i64 0)),.d (.flat (.int .i64 0)),.d (.flat (.int .i32 0)),.d (.flat (.string ⟨#[]⟩))]))
  | 41=>some ((true,8,[.d (.flat (.int .i64 0)),.d (.flat (.int .i64 0)),.d (.flat (.int .i64 0)),.d (.flat (.int .i64 0)),.d (.flat (.int .i64 0)),.d (.flat (.int .i64 0)),.d (.flat (.int .i32 0)),.d (.flat (.string ⟨#[]⟩))]))
  | 42=>some ((false,1,[.d (.flat (.int .u64 0))]))
  | 43=>some ((true,2,[.d (.flat (.string ⟨#[]⟩)),.d (.flat (.int .i64 0))]))
  | 44=>some ((true,2,[.d (.flat (.string ⟨#[]⟩)),.d (.flat (.int .i64 0))]))
  | 51=>some ((false,1,[.tight [] 0]))
  | 52=>some ((false,1,[.tight [] 0]))
  | 53=>some ((true,3,[.tight [] 0,.tight [] 0,.tight [] 0]))
  | 54=>some ((true,3,[.tight [] 0,.tight [] 0,.tight [] 0]))
  | 60=>some ((false,1,[.tight [] 0]))
  | 62=>some ((false,1,[.tight [] 0]))
  | 63=>some ((false,1,[.tight [] 0]))
  | 71=>some ((false,1,[.tight [] 0]))
  | 72=>some ((true,3,[.tight [] 0,.tight [] 0,.d (.flat (.map none))]))
  | 73=>some ((true,3,[.tight [] 0,.tight [] 0,.d (.flat (.map none))]))
  | 74=>some ((false,1,[.tight [] 0]))
  | 75=>some ((true,4,[.d (.flat (.bool false)),.d (.flat (.string ⟨#[]⟩)),.d (.flat (.string ⟨#[]⟩)),.tight [] 0]))
  | 76=>some ((true,4,[.d (.flat (.bool false)),.d (.flat (.string ⟨#[]⟩)),.d (.flat (.string ⟨#[]⟩)),.tight [] 0]))
  | 78=>some ((true,2,[.d (.flat (.string ⟨#[]⟩)),.d (.flat (.map none))]))
  | 79=>some ((true,2,[.d (.flat (.string ⟨#[]⟩)),.d (.flat (.map none))]))
  | 83=>some ((true,3,[.d (.flat (.string ⟨#[]⟩)),.tight [] 0,.tight [] 0]))
  | 84=>some ((true,3,[.d (.flat (.string ⟨#[]⟩)),.tight [] 0,.tight [] 0]))
  | 95=>some ((false,1,[.tight [] 0]))
  | 96=>some ((false,1,[.tight [] 0]))
  | 97=>some ((true,6,[.d (.flat (.bool false)),.d (.flat (.bool false)),.d (.flat (.string ⟨#[]⟩)),.d (.flat (.string ⟨#[]⟩)),.tight [] 0,.tight [] 0]))
  | 98=>some ((true,6,[.d (.flat (.bool false)),.d (.flat (.bool false)),.d (.flat (.string ⟨#[]⟩)),.d (.flat (.string ⟨#[]⟩)),.tight [] 0,.tight [] 0]))
  | 100=>some ((false,1,[.tight [] 0]))
  | 104=>some ((true,8,[.tight [] 0,.d (.flat (.int .i64 0)),.d (.flat (.int .i64 0)),.d (.flat (.int .i64 0)),.d (.flat (.int .i64 0)),.d (.flat (.int .i64 0)),.d (.flat (.bool false)),.d (.flat (.int .i64 0))]))
  | 105=>some ((true,8,[.tight [] 0,.d (.flat (.int .i64 0)),.d (.flat (.int .i64 0)),.d (.flat (.int .i64 0)),.d (.flat (.int .i64 0)),.d (.flat (.int .i64 0)),.d (.flat (.bool false)),.d (.flat (.int .i64 0))]))
  | 123=>some ((true,8,[.d (.flat (.int .i64 0)),.d (.flat (.int .i32 0)),.d (.flat (.string ⟨#[]⟩)),.d (.flat (.string ⟨#[]⟩)),.d (.flat (.string ⟨#[]⟩)),.tight [] 0,.d (.flat (.string ⟨#[]⟩)),.d (.flat (.int .i64 0))]))
  | 124=>some ((true,8,[.d (.flat (.int .i64 0)),.d (.flat (.int .i32 0)),.d (.flat (.string ⟨#[]⟩)),.d (.flat (.string ⟨#[]⟩)),.d (.flat (.string ⟨#[]⟩)),.tight [] 0,.d (.flat (.string ⟨#[]⟩)),.d (.flat (.int .i64 0))]))
  | 125=>some ((true,9,[.d (.flat (.int .i64 0)),.d (.flat (.int .i32 0)),.d (.flat (.string ⟨#[]⟩)),.d (.flat (.string ⟨#[]⟩)),.tight [] 0,.tight [] 0,.tight [] 0,.tight [] 0,.d (.flat (.int .i64 0))]))
  | 126=>some ((true,9,[.d (.flat (.int .i64 0)),.d (.flat (.int .i32 0)),.d (.flat (.string ⟨#[]⟩)),.d (.flat (.string ⟨#[]⟩)),.tight [] 0,.tight [] 0,.tight [] 0,.tight [] 0,.d (.flat (.int .i64 0))]))
  | 128=>some ((true,3,[.d (.flat (.int .i64 0)),.d (.flat (.string ⟨#[]⟩)),.d (.flat (.int .i64 0))]))
  | 129=>some ((true,3,[.d (.flat (.int .i64 0)),.d (.flat (.string ⟨#[]⟩)),.d (.flat (.int .i64 0))]))
  | 146=>some ((true,3,[.d (.flat (.int .i32 0)),.d (.flat (.int .i64 0)),.d (.flat (.bool false))]))
  | 147=>some ((true,3,[.d (.flat (.int .i32 0)),.d (.flat (.int .i64 0)),.d (.flat (.bool false))]))
  | 154=>some ((true,2,[.d (.flat (.string ⟨#[]⟩)),.d (.flat (.string ⟨#[]⟩))]))
  | 155=>some ((true,2,[.d (.flat (.string ⟨#[]⟩)),.d (.flat (.string ⟨#[]⟩))]))
  | 165=>some ((true,3,[.d (.flat (.string ⟨#[]⟩)),.d (.flat (.bool false)),.tight [] 0]))
  | 166=>some ((true,3,[.d (.flat (.string ⟨#[]⟩)),.d (.flat (.bool false)),.tight [] 0]))
  | 172=>some ((true,2,[.d (.flat (.int .i64 0)),.d (.flat (.int .i64 0))]))
  | 173=>some ((true,2,[.d (.flat (.int .i64 0)),.d (.flat (.int .i64 0))]))
  | 195=>some ((true,10,[.tight [] 0,.d (.flat (.bool false)),.d (.flat (.bool false)),.d (.flat (.string ⟨#[]⟩)),.d (.flat (.string ⟨#[]⟩)),.tight [] 0,.tight [] 0,.d (.flat (.string ⟨#[]⟩)),.d (.flat (.bool false)),.tight [] 0]))
  | 196=>some ((true,10,[.tight [] 0,.d (.flat (.bool false)),.d (.flat (.bool false)),.d (.flat (.string ⟨#[]⟩)),.d (.flat (.string ⟨#[]⟩)),.tight [] 0,.tight [] 0,.d (.flat (.string ⟨#[]⟩)),.d (.flat (.bool false)),.tight [] 0]))
  | 214=>some ((true,4,[.d (.flat (.pointer none)),.d (.flat (.pointer none)),.d (.flat (.pointer none)),.d (.flat (.string ⟨#[]⟩))]))
  | 215=>some ((true,4,[.d (.flat (.pointer none)),.d (.flat (.pointer none)),.d (.flat (.pointer none)),.d (.flat (.string ⟨#[]⟩))]))
  | 217=>some ((true,0,[]))
  | 218=>some ((true,0,[]))
  | 219=>some ((false,1,[.d (.flat (.int .u32 0))]))
  | 220=>some ((false,1,[.d (.flat (.int .u8 0))]))
  | 221=>some ((false,1,[.d (.flat (.int .u8 0))]))
  | 224=>some ((false,1,[.d (.flat (.int .i32 0))]))
  | 225=>some ((false,1,[.d (.flat (.int .i32 0))]))
  | 226=>some ((true,11,[.d (.flat (.int .u64 0)),.d (.flat (.int .u64 0)),.d (.flat (.int .u32 0)),.d (.flat (.int .u8 0)),.d (.flat (.int .u8 0)),.d (.flat (.int .u8 0)),.d (.flat (.int .u8 0)),.d (.flat .nilFunc),.d (.flat (.pointer none)),.d (.flat (.int .i32 0)),.d (.flat (.int .i32 0))]))
  | 227=>some ((true,11,[.d (.flat (.int .u64 0)),.d (.flat (.int .u64 0)),.d (.flat (.int .u32 0)),.d (.flat (.int .u8 0)),.d (.flat (.int .u8 0)),.d (.flat (.int .u8 0)),.d (.flat (.int .u8 0)),.d (.flat .nilFunc),.d (.flat (.pointer none)),.d (.flat (.int .i32 0)),.d (.flat (.int .i32 0))]))
  | _=>none
theorem tyT {t:Nat} {r:Bool × Nat × List BV} (h:jny t = some r):pi Tryz.prog t = some r:=by
  unfold jny at h
  split at h
  all_goals first|(obtain rfl:=Option.some.inj h;kernel_rfl)|cases h
def jnz:Nat → Option (List (Nat × Nat) × List BV)
  | 7=>some (([(0,1),(1,1),(2,1),(3,1)],[.d (.flat (.int .i64 0)),.d (.flat (.int .i64 0)),.d (.flat (.bool false)),.d (.flat (.int .u8 0))]))
  | 8=>some (([(0,1),(1,1),(2,1),(3,1)],[.d (.flat (.int .i64 0)),.d (.flat (.int .i64 0)),.d (.flat (.bool false)),.d (.flat (.int .u8 0))]))
  | 13=>some (([(0,1),(1,1)],[.d (.flat (.string ⟨#[]⟩)),.d (.flat (.int .u64 0))]))
  | 14=>some (([(0,1),(1,1)],[.d (.flat (.string ⟨#[]⟩)),.d (.flat (.int .u64 0))]))
  | 18=>some (([(0,1)],[.d (.flat (.pointer none))]))
  | 19=>some (([(0,1)],[.d (.flat (.pointer none))]))
  | 25=>some (([(0,1)],[.tight [] 0]))
  | 26=>some (([(0,1)],[.tight [] 0]))
  | 36=>some (([(0,1),(1,1),(2,1),(3,1)],[.d (.flat (.string ⟨#[]⟩)),.d (.flat (.string ⟨#[]⟩)),.tight [] 0,.tight [] 0]))
  | 37=>some (([(0,1),(1,1),(2,1),(3,1)],[.d (.flat (.string ⟨#[]⟩)),.d (.flat (.string ⟨#[]⟩)),.tight [] 0,.tight [] 0]))
  | 38=>some (([(0,1),(1,1),(2,1)],[.d (.flat (.int .i64 0)),.d (.flat (.int .i32 0)),.d (.flat (.string ⟨#[]⟩))]))
  | 39=>some (([(0,1),(1,1),(2,1)],[.d (.flat (.int .i64 0)),.d (.flat (.int .i32 0)),.d (.flat (.string ⟨#[]⟩))]))
  | 40=>some (([(0,1),(1,1),(2,1),(3,1),(4,1),(5,3)],[.d (.flat (.int .i64 0)),.d (.flat (.int .i64 0)),.d (.flat (.int .i64 0)),.d (.flat (.int .i64 0)),.d (.flat (.int .i64 0)),.d (.flat (.int .i64 0)),.d (.flat (.int .i32 0)),.d (.flat (.string ⟨#[]⟩))]))
  | 41=>some (([(0,1),(1,1),(2,1),(3,1),(4,1),(5,3)],[.d (.flat (.int .i64 0)),.d (.flat (.int .i64 0)),.d (.flat (.int .i64 0)),.d (.flat (.int .i64 0)),.d (.flat (.int .i64 0)),.d (.flat (.int .i64 0)),.d (.flat (.int .i32 0)),.d (.flat (.string ⟨#[]⟩))]))
  | 43=>some (([(0,1),(1,1)],[.d (.flat (.string ⟨#[]⟩)),.d (.flat (.int .i64 0))]))
  | 44=>some (([(0,1),(1,1)],[.d (.flat (.string ⟨#[]⟩)),.d (.flat (.int .i64 0))]))
  | 53=>some (([(0,1),(1,1),(2,1)],[.tight [] 0,.tight [] 0,.tight [] 0]))
  | 54=>some (([(0,1),(1,1),(2,1)],[.tight [] 0,.tight [] 0,.tight [] 0]))
  | 72=>some (([(0,1),(1,1),(2,1)],[.tight [] 0,.tight [] 0,.d (.flat (.map none))]))
  | 73=>some (([(0,1),(1,1),(2,1)],[.tight [] 0,.tight [] 0,.d (.flat (.map none))]))
  | 75=>some (([(0,1),(1,1),(2,1),(3,1)],[.d (.flat (.bool false)),.d (.flat (.string ⟨#[]⟩)),.d (.flat (.string ⟨#[]⟩)),.tight [] 0]))
  | 76=>some (([(0,1),(1,1),(2,1),(3,1)],[.d (.flat (.bool false)),.d (.flat (.string ⟨#[]⟩)),.d (.flat (.string ⟨#[]⟩)),.tight [] 0]))
  | 78=>some (([(0,1),(1,1)],[.d (.flat (.string ⟨#[]⟩)),.d (.flat (.map none))]))
  | 79=>some (([(0,1),(1,1)],[.d (.flat (.string ⟨#[]⟩)),.d (.flat (.map none))]))
  | 83=>some (([(0,1),(1,1),(2,1)],[.d (.flat (.string ⟨#[]⟩)),.tight [] 0,.tight [] 0]))
  | 84=>some (([(0,1),(1,1),(2,1)],[.d (.flat (.string ⟨#[]⟩)),.tight [] 0,.tight [] 0]))
  | 97=>some (([(0,1),(1,1),(2,1),(3,1),(4,1),(5,1)],[.d (.flat (.bool false)),.d (.flat (.bool false)),.d (.flat (.string ⟨#[]⟩)),.d (.flat (.string ⟨#[]⟩)),.tight [] 0,.tight [] 0]))
  | 98=>some (([(0,1),(1,1),(2,1),(3,1),(4,1),(5,1)],[.d (.flat (.bool false)),.d (.flat (.bool false)),.d (.flat (.string ⟨#[]⟩)),.d (.flat (.string ⟨#[]⟩)),.tight [] 0,.tight [] 0]))
  | 104=>some (([(0,1),(1,1),(2,1),(3,1),(4,1),(5,1),(6,1),(7,1)],[.tight [] 0,.d (.flat (.int .i64 0)),.d (.flat (.int .i64 0)),.d (.flat (.int .i64 0)),.d (.flat (.int .i64 0)),.d (.flat (.int .i64 0)),.d (.flat (.bool false)),.d (.flat (.int .i64 0))]))
  | 105=>some (([(0,1),(1,1),(2,1),(3,1),(4,1),(5,1),(6,1),(7,1)],[.tight [] 0,.d (.flat (.int .i64 0)),.d (.flat (.int .i64 0)),.d (.flat (.int .i64 0)),.d (.flat (.int .i64 0)),.d (.flat (.int .i64 0)),.d (.flat (.bool false)),.d (.flat (.int .i64 0))]))
  | 123=>some (([(0,1),(1,1),(2,1),(3,1),(4,1),(5,1),(6,1),(7,1)],[.d (.flat (.int .i64 0)),.d (.flat (.int .i32 0)),.d (.flat (.string ⟨#[]⟩)),.d (.flat (.string ⟨#[]⟩)),.d (.flat (.string ⟨#[]⟩)),.tight [] 0,.d (.flat (.string ⟨#[]⟩)),.d (.flat (.int .i64 0))]))
  | 124=>some (([(0,1),(1,1),(2,1),(3,1),(4,1),(5,1),(6,1),(7,1)],[.d (.flat (.int .i64 0)),.d (.flat (.int .i32 0)),.d (.flat (.string ⟨#[]⟩)),.d (.flat (.string ⟨#[]⟩)),.d (.flat (.string ⟨#[]⟩)),.tight [] 0,.d (.flat (.string ⟨#[]⟩)),.d (.flat (.int .i64 0))]))
  | 125=>some (([(0,1),(1,1),(2,1),(3,1),(4,1),(5,1),(6,1),(7,1),(8,1)],[.d (.flat (.int .i64 0)),.d (.flat (.int .i32 0)),.d (.flat (.string ⟨#[]⟩)),.d (.flat (.string ⟨#[]⟩)),.tight [] 0,.tight [] 0,.tight [] 0,.tight [] 0,.d (.flat (.int .i64 0))]))
  | 126=>some (([(0,1),(1,1),(2,1),(3,1),(4,1),(5,1),(6,1),(7,1),(8,1)],[.d (.flat (.int .i64 0)),.d (.flat (.int .i32 0)),.d (.flat (.string ⟨#[]⟩)),.d (.flat (.string ⟨#[]⟩)),.tight [] 0,.tight [] 0,.tight [] 0,.tight [] 0,.d (.flat (.int .i64 0))]))
  | 128=>some (([(0,1),(1,1),(2,1)],[.d (.flat (.int .i64 0)),.d (.flat (.string ⟨#[]⟩)),.d (.flat (.int .i64 0))]))
  | 129=>some (([(0,1),(1,1),(2,1)],[.d (.flat (.int .i64 0)),.d (.flat (.string ⟨#[]⟩)),.d (.flat (.int .i64 0))]))
  | 146=>some (([(0,1),(1,1),(2,1)],[.d (.flat (.int .i32 0)),.d (.flat (.int .i64 0)),.d (.flat (.bool false))]))
  | 147=>some (([(0,1),(1,1),(2,1)],[.d (.flat (.int .i32 0)),.d (.flat (.int .i64 0)),.d (.flat (.bool false))]))
  | 154=>some (([(0,1),(1,1)],[.d (.flat (.string ⟨#[]⟩)),.d (.flat (.string ⟨#[]⟩))]))
  | 155=>some (([(0,1),(1,1)],[.d (.flat (.string ⟨#[]⟩)),.d (.flat (.string ⟨#[]⟩))]))
  | 165=>some (([(0,1),(1,1),(2,1)],[.d (.flat (.string ⟨#[]⟩)),.d (.flat (.bool false)),.tight [] 0]))
  | 166=>some (([(0,1),(1,1),(2,1)],[.d (.flat (.string ⟨#[]⟩)),.d (.flat (.bool false)),.tight [] 0]))
  | 172=>some (([(0,1),(1,1)],[.d (.flat (.int .i64 0)),.d (.flat (.int .i64 0))]))
  | 173=>some (([(0,1),(1,1)],[.d (.flat (.int .i64 0)),.d (.flat (.int .i64 0))]))
  | 195=>some (([(0,1),(1,6),(7,3)],[.tight [] 0,.d (.flat (.bool false)),.d (.flat (.bool false)),.d (.flat (.string ⟨#[]⟩)),.d (.flat (.string ⟨#[]⟩)),.tight [] 0,.tight [] 0,.d (.flat (.string ⟨#[]⟩)),.d (.flat (.bool false)),.tight [] 0]))
  | 196=>some (([(0,1),(1,6),(7,3)],[.tight [] 0,.d (.flat (.bool false)),.d (.flat (.bool false)),.d (.flat (.string ⟨#[]⟩)),.d (.flat (.string ⟨#[]⟩)),.tight [] 0,.tight [] 0,.d (.flat (.string ⟨#[]⟩)),.d (.flat (.bool false)),.tight [] 0]))
  | 214=>some (([(0,1),(1,1),(2,1),(3,1)],[.d (.flat (.pointer none)),.d (.flat (.pointer none)),.d (.flat (.pointer none)),.d (.flat (.string ⟨#[]⟩))]))
  | 215=>some (([(0,1),(1,1),(2,1),(3,1)],[.d (.flat (.pointer none)),.d (.flat (.pointer none)),.d (.flat (.pointer none)),.d (.flat (.string ⟨#[]⟩))]))
  | 226=>some (([(0,1),(1,1),(2,1),(3,1),(4,1),(5,1),(6,1),(7,1),(8,1),(9,1),(10,1)],[.d (.flat (.int .u64 0)),.d (.flat (.int .u64 0)),.d (.flat (.int .u32 0)),.d (.flat (.int .u8 0)),.d (.flat (.int .u8 0)),.d (.flat (.int .u8 0)),.d (.flat (.int .u8 0)),.d (.flat .nilFunc),.d (.flat (.pointer none)),.d (.flat (.int .i32 0)),.d (.flat (.int .i32 0))]))
  | 227=>some (([(0,1),(1,1),(2,1),(3,1),(4,1),(5,1),(6,1),(7,1),(8,1),(9,1),(10,1)],[.d (.flat (.int .u64 0)),.d (.flat (.int .u64 0)),.d (.flat (.int .u32 0)),.d (.flat (.int .u8 0)),.d (.flat (.int .u8 0)),.d (.flat (.int .u8 0)),.d (.flat (.int .u8 0)),.d (.flat .nilFunc),.d (.flat (.pointer none)),.d (.flat (.int .i32 0)),.d (.flat (.int .i32 0))]))
  | _=>none
theorem plT {t:Nat} {r:List (Nat × Nat) × List BV} (h:jnz t = some r):jku Tryz.prog t = some r:=by
  unfold jnz at h
  split at h
  all_goals first|(obtain rfl:=Option.some.inj h;kernel_rfl)|cases h
def jn0:Nat → Option (Nat × Nat)
  | 22=>some ((60,1))
  | 23=>some ((41,8))
  | 24=>some ((37,4))
  | 33=>some ((9,1))
  | 34=>some ((76,4))
  | 35=>some ((98,6))
  | 51=>some ((84,3))
  | 52=>some ((62,1))
  | 60=>some ((3,1))
  | 62=>some ((39,3))
  | 63=>some ((44,2))
  | 71=>some ((79,2))
  | 74=>some ((124,8))
  | 95=>some ((155,2))
  | 96=>some ((126,9))
  | 100=>some ((129,3))
  | _=>none
theorem elT {t:Nat} {r:Nat × Nat} (h:jn0 t = some r):u9 Tryz.prog t = some r:=by
  unfold jn0 at h
  split at h
  all_goals first|(obtain rfl:=Option.some.inj h;kernel_rfl)|cases h
def jql:Nat → Option (Nat)
  | 2=>some (8)
  | 3=>some (8)
  | 4=>some (1)
  | 5=>some (1)
  | 6=>some (1)
  | 7=>some (24)
  | 8=>some (24)
  | 9=>some (16)
  | 10=>some (16)
  | 11=>some (16)
  | 12=>some (8)
  | 13=>some (24)
  | 14=>some (24)
  | 18=>some (8)
  | 19=>some (8)
  | 21=>some (4)
  | 22=>some (24)
  | 23=>some (24)
  | 24=>some (24)
  | 25=>some (24)
  | 26=>some (24)
  | 33=>some (24)
  | 34=>some (24)
  | 35=>some (24)
  | 36=>some (80)
  | 37=>some (80)
  | 38=>some (32)
  | 39=>some (32)
  | 40=>some (72)
  | 41=>some (72)
  | 42=>some (8)
  | 43=>some (24)
  | 44=>some (24)
  | 51=>some (24)
  | 52=>some (24)
  | 53=>some (72)
  | 54=>some (72)
  | 60=>some (24)
  | 62=>some (24)
  | 63=>some (24)
  | 71=>some (24)
  | 72=>some (56)
  | 73=>some (56)
  | 74=>some (24)
  | 75=>some (64)
  | 76=>some (64)
  | 78=>some (24)
  | 79=>some (24)
  | 83=>some (64)
  | 84=>some (64)
  | 95=>some (24)
  | 96=>some (24)
  | 97=>some (88)
  | 98=>some (88)
  | 100=>some (24)
  | 104=>some (80)
  | 105=>some (80)
  | 123=>some (112)
  | 124=>some (112)
  | 125=>some (152)
  | 126=>some (152)
  | 128=>some (32)
  | 129=>some (32)
  | 146=>some (24)
  | 147=>some (24)
  | 154=>some (32)
  | 155=>some (32)
  | 165=>some (48)
  | 166=>some (48)
  | 172=>some (16)
  | 173=>some (16)
  | 195=>some (160)
  | 196=>some (160)
  | 214=>some (40)
  | 215=>some (40)
  | 217=>some (0)
  | 218=>some (0)
  | 219=>some (4)
  | 220=>some (1)
  | 221=>some (1)
  | 224=>some (4)
  | 225=>some (4)
  | 226=>some (48)
  | 227=>some (48)
  | _=>none
theorem byT {t:Nat} {r:Nat} (h:jql t = some r):jsw Tryz.prog t = some r:=by
  unfold jql at h
  split at h
  all_goals first|(obtain rfl:=Option.some.inj h;kernel_rfl)|cases h
def jn1:Nat → Option (TypeDesc)
  | 2=>some (.int .i64)
  | 3=>some (.int .i64)
  | 4=>some (.bool)
  | 5=>some (.int .u8)
  | 6=>some (.int .u8)
  | 9=>some (.string)
  | 10=>some (.string)
  | 11=>some (.string)
  | 12=>some (.int .u64)
  | 21=>some (.int .i32)
  | 42=>some (.int .u64)
  | 219=>some (.int .u32)
  | 220=>some (.int .u8)
  | 221=>some (.int .u8)
  | 224=>some (.int .i32)
  | 225=>some (.int .i32)
  | _=>none
theorem udT {t:Nat} {r:TypeDesc} (h:jn1 t = some r):Go.Program.underlying Tryz.prog t = some r:=by
  unfold jn1 at h
  split at h
  all_goals first|(obtain rfl:=Option.some.inj h;kernel_rfl)|cases h
def jmr:List Nat:=[3,4,5,6,7,8,9,10,11,12,13,14,15,16,17,18,19,20,21,22,23,24,25,26,27,28,29,30,31,32,33,34,35,36,37,38,39,40,41,42,43,44,45,46,47,48,49,50,51,52,53,54,55,56,57,58,59,60,61,62,63,64,65,66,67,68,69,70,71,72,73,74,75,76,77,78,79,80,81,82,83,84,85,86,87,88,89,90,91,92,93,94,95,96,97,98,99,100,101,102,103,104,105,106,107,108,109,110,111,112,113,114,115,116,117,118,119,120,121,122,123,124,125,126,127,128,129,130,131,132,133,134,135,136,137,138,139,140,141,142,143,144,145,146,147,148,149,150,151,152,153,154,155,156,157,158,159,160,161,162,163,164,165,166,167,168,169,170]
theorem jt1:jmr.all (jdz Tryz.prog) = true:=by kernel_rfl
theorem fnT {f:Nat} (h:jmr.contains f = true):jdz Tryz.prog f = true:=List.all_eq_true.1 jt1 f (by simpa using h)
theorem co:Tryz.prog.follows .mixedOrders = true:=by kernel_rfl
end Go.Proofs.YtinffhimfoicdaaGreat
namespace Go.Proofs.YtinffhimfoicdaaGreat.Calc
open Go Go.RowKit
set_option linter.unusedVariables false
theorem ea {P:Program} {Wr Wm:List Nat} {f:Nat} {l l':List BV} {st:St} {R:BV → St → Prop} (hl:wks l = l') (h:ci P Wr Wm f l' st R):ci P Wr Wm f l st R:=by
  subst hl
  exact fun x vs h1 h2 h3=>h x vs h1 h2 (ue h3)
section
variable {C:Cx} {ops:Array Oper} {l:List Oper} {dst:Option Nat} {op:Op} {ty:Nat} {pos:String} {aft:Array Edge} {g:Option (Nat × Bool)} {ρ:Rg} {st:St} {Q:Rg → St → Prop}
theorem V {b:BV} (hg:gB ops ρ g = some true) (h:bn C.P st ρ op = some b) (k:ew C ops l (ke ρ dst b) st Q):ew C ops (⟨dst,op,ty,pos,aft,g⟩ :: l) ρ st Q :=
  rk (.inl ⟨hg,jnr b h k⟩)
theorem Vd {p:Prop} {_:Decidable p} (hg:gB ops ρ g = some true) (h:bn C.P st ρ op = some (vB (decide p))) (k1:p → ew C ops l (ke ρ dst (vB true)) st Q) (k2:¬ p → ew C ops l (ke ρ dst (vB false)) st Q):ew C ops (⟨dst,op,ty,pos,aft,g⟩ :: l) ρ st Q:=by
  by_cases hp:p
  · exact V hg (h.trans (by rw [decide_eq_true hp])) (k1 hp)
  · exact V hg (h.trans (by rw [decide_eq_false hp])) (k2 hp)
theorem Vo (hg:gB ops ρ g = some false) (k:ew C ops l (ke ρ dst (.tup [])) st Q):ew C ops (⟨dst,op,ty,pos,aft,g⟩ :: l) ρ st Q :=
  rk (.inr ⟨hg,k⟩)
theorem Vw {b:BV} {st':St} (hg:gB ops ρ g = some true) (h:db C.P (okC C) st ρ op = some (st',some b)) (k:ew C ops l (ke ρ dst b) st' Q):ew C ops (⟨dst,op,ty,pos,aft,g⟩ :: l) ρ st Q :=
  rk (.inl ⟨hg,jkx st' b h k⟩)
theorem Vs {st':St} (hg:gB ops ρ g = some true) (h:db C.P (okC C) st ρ op = some (st',none)) (k:ew C ops l (ke ρ dst (.tup [])) st' Q):ew C ops (⟨dst,op,ty,pos,aft,g⟩ :: l) ρ st Q :=
  rk (.inl ⟨hg,jns st' h k⟩)
theorem Vc {c:Call} {f:Nat} {ars:List BV} {Wr Wm:List Nat} {R:BV → St → Prop} (hg:gB ops ρ g = some true) (hc:np ρ c = some (f,ars)) (hf:jdz C.P f = true) (h:ci C.P Wr Wm f ars st R) (h1:∀ i ∈ Wr,i < st.S.length → okC C i = true) (h2:∀ i ∈ Wm,i < st.M.length → okM C i = true)
    (k:∀ r st',R r st' → ew C ops l (ke ρ dst r) st' Q):ew C ops (⟨dst,.call c,ty,pos,aft,g⟩ :: l) ρ st Q :=
  rk (.inl ⟨hg,v8 c f ars Wr Wm R rfl hc hf h h1 h2 k⟩)
theorem Vp {c:Call} {f:Nat} {ars:List BV} {R:BV → Prop} (hg:gB ops ρ g = some true) (hc:np ρ c = some (f,ars)) (hf:jdz C.P f = true) (h:ci C.P [] [] f ars st (fun r s=>s = st ∧ R r))
    (k:∀ r,R r → ew C ops l (ke ρ dst r) st Q):ew C ops (⟨dst,.call c,ty,pos,aft,g⟩ :: l) ρ st Q :=
  Vc hg hc hf h (by simp) (by simp) (fun r st' ⟨e,hr⟩=>e ▸ k r hr)
end
section
variable {C:Cx} {ρ ρ':Rg} {st:St} {Q:nl}
theorem c9 {c:Code} (hr:∀ t v,ρ' t = some v → ρ t = some v) (h:Tri C c ρ' st Q):Tri C c ρ st Q :=
  fun x y a h1 h1m h2 h3 h4 h5 K hK=>h x y a h1 h1m h2 h3 h4 ⟨h5.defers,h5.size,fun t v ht=>h5.reg t v (hr t v ht)⟩ K hK
theorem ae {o:Operand} {c d:Code} (ho:evB ρ o = some (vB true)) (h:Tri C c ρ st Q):Tri C (.cond o c d) ρ st Q:=vz true ho (fun _=>h) (fun e=>by cases e)
theorem af {o:Operand} {c d:Code} (ho:evB ρ o = some (vB false)) (h:Tri C d ρ st Q):Tri C (.cond o c d) ρ st Q:=vz false ho (fun e=>by cases e) (fun _=>h)
end
section
variable {C:Cx} {ρ:Rg} {st:St} {Q:nl} {N:Rg → St → Prop} {id i:Nat} {c d:Code} {ops:Array Oper}
theorem ey (h:Q .normal ρ st):inQ id Q (.exit id) ρ st:=by
  show (if id = id then _ else _)
  rw [if_pos rfl]
  exact h
theorem jp3 (hn:(i == id) = false) (h:Q (.exit i) ρ st):inQ id Q (.exit i) ρ st:=by
  have hn:i ≠ id:=by simpa using hn
  show (if i = id then _ else _)
  rw [if_neg hn]
  exact h
theorem cq (h:Q .normal ρ st):inQ id Q .normal ρ st:=h
theorem dm (h:Q .ret ρ st):inQ id Q .ret ρ st:=h
theorem ap (h:N ρ st):d7 N Q .normal ρ st:=h
theorem bo (h:Q (.exit i) ρ st):d7 N Q (.exit i) ρ st:=h
theorem aw (h:Q .ret ρ st):d7 N Q .ret ρ st:=h
theorem ac (hd:jck C.nt ops = true) (h:ew C ops ops.toList ρ st (fun ρ st=>Tri C d ρ st Q)):Tri C (.seq (.region i ops false) d) ρ st Q:=ak (al hd h)
theorem bt (p:Plan) (Wr ds:List Nat) (hm:C.P.follows .mixedOrders = true) {nt:Nat} (hn:C.nt = nt) (hp:p.goodB nt ops ds = true) (h:er C ops Wr ds p ρ st (fun ρ st=>Tri C d ρ st Q)):Tri C (.seq (.region i ops true) d) ρ st Q:=ak (wx p Wr ds hm (hn ▸ hp) h)
theorem de (p:Plan) (Wr ds:List Nat) (hm:C.P.follows .mixedOrders = true) {nt:Nat} (hn:C.nt = nt) (hp:p.goodB nt ops ds = true) (h:er C ops Wr ds p ρ st (fun ρ st=>Q .normal ρ st)):Tri C (.region i ops true) ρ st Q:=wx p Wr ds hm (hn ▸ hp) h
theorem ju (N:Rg → St → Prop) (h:Tri C c ρ st (d7 N Q)) (k:∀ ρ st,N ρ st → Tri C d ρ st Q):Tri C (.seq c d) ρ st Q :=
  ak (r9 h fun ex ρ st hq=>by cases ex <;> first|exact k ρ st hq|exact hq)
end
def rg:List (Nat × BV) → Rg
  | []=>fun _=>none
  |(t,b) :: l=>upd (rg l) t b
def ng (ρ:Rg):List (Nat × BV) → Prop
  | []=>True
  |(t,b) :: l=>ρ t = some b ∧ ng ρ l
theorem dt {ρ:Rg}:∀ {l:List (Nat × BV)},ng ρ l → ∀ t v,rg l t = some v → ρ t = some v
  | [],_,t,v,h=>by cases h
  |(u,b) :: l,⟨h1,h2⟩,t,v,h=>by
    simp only [rg,upd] at h
    split at h
    · rename_i e
      subst e
      exact h1.trans h
    · exact dt h2 t v h
theorem fh {C:Cx} {c:Code} {ρ:Rg} {st:St} {Q:nl} {κ:Type} (μ:κ → Nat) (R:κ → List (Nat × BV)) (S:κ → St) (I:κ → Prop) (k:κ) (hI:I k) (h0:ng ρ (R k)) (hS:st = S k)
    (hr:∀ k,I k → Tri C c (rg (R k)) (S k) (d7 (fun ρ' st'=>∃ k',μ k' < μ k ∧ I k' ∧ ng ρ' (R k') ∧ st' = S k') Q)):Tri C (.loop c) ρ st Q:=by
  refine jkt (fun n ρ st=>∃ k,n = μ k ∧ I k ∧ ng ρ (R k) ∧ st = S k) (μ k) ⟨k,rfl,hI,h0,hS⟩ ?_
  rintro n ρ st ⟨k,rfl,hI,hρ,rfl⟩
  refine c9 (dt hρ) (r9 (hr k hI) ?_)
  intro ex ρ st h
  cases ex with
  | normal =>
    obtain ⟨k',h1,h2,h3,h4⟩:=h
    exact ⟨μ k',h1,k',rfl,h2,h3,h4⟩
  | exit id=>exact h
  | ret=>exact h
section
variable {C:Cx} {ops:Array Oper} {Wr ds:List Nat} {p q:Plan} {i j:Nat} {o:Oper} {dst:Option Nat} {op:Op} {ty:Nat} {pos:String} {aft:Array Edge} {g:Option (Nat × Bool)} {ρ:Rg} {st:St} {Q:Rg → St → Prop}
theorem dg (h:Q ρ st):er C ops Wr ds .nil ρ st Q:=h
theorem tV {b:BV} (ho:ops[i]? = some ⟨dst,op,ty,pos,aft,g⟩) (hg:gB ops ρ g = some true) (h:bn C.P st ρ op = some b) (hs:wl Wr ρ op = true) (k:er C ops Wr ds p (ke ρ dst b) st Q):er C ops Wr ds (.take i p) ρ st Q:=⟨_,ho,.inl ⟨hg,b,h,hs,k⟩⟩
theorem tVd {pr:Prop} {_:Decidable pr} (ho:ops[i]? = some ⟨dst,op,ty,pos,aft,g⟩) (hg:gB ops ρ g = some true) (h:bn C.P st ρ op = some (vB (decide pr))) (hs:wl Wr ρ op = true) (k1:pr → er C ops Wr ds p (ke ρ dst (vB true)) st Q) (k2:¬ pr → er C ops Wr ds p (ke ρ dst (vB false)) st Q):er C ops Wr ds (.take i p) ρ st Q:=by
  by_cases hp:pr
  · exact tV ho hg (h.trans (by rw [decide_eq_true hp])) hs (k1 hp)
  · exact tV ho hg (h.trans (by rw [decide_eq_false hp])) hs (k2 hp)
theorem tVo (ho:ops[i]? = some ⟨dst,op,ty,pos,aft,g⟩) (hg:gB ops ρ g = some false) (k:er C ops Wr ds p (ke ρ dst (.tup [])) st Q):er C ops Wr ds (.take i p) ρ st Q:=⟨_,ho,.inr ⟨hg,k⟩⟩
theorem oV {b:BV} (ho:ops[i]? = some ⟨dst,op,ty,pos,aft,g⟩) (hg:gB ops ρ g = some true) (h:bn C.P st ρ op = some b) (k:er C ops Wr ds p (ke ρ dst b) st Q):er C ops Wr ds (.one i p) ρ st Q:=⟨_,ho,.inl ⟨hg,jnr b h k⟩⟩
theorem oVd {pr:Prop} {_:Decidable pr} (ho:ops[i]? = some ⟨dst,op,ty,pos,aft,g⟩) (hg:gB ops ρ g = some true) (h:bn C.P st ρ op = some (vB (decide pr))) (k1:pr → er C ops Wr ds p (ke ρ dst (vB true)) st Q) (k2:¬ pr → er C ops Wr ds p (ke ρ dst (vB false)) st Q):er C ops Wr ds (.one i p) ρ st Q:=by
  by_cases hp:pr
  · exact oV ho hg (h.trans (by rw [decide_eq_true hp])) (k1 hp)
  · exact oV ho hg (h.trans (by rw [decide_eq_false hp])) (k2 hp)
theorem oVo (ho:ops[i]? = some ⟨dst,op,ty,pos,aft,g⟩) (hg:gB ops ρ g = some false) (k:er C ops Wr ds p (ke ρ dst (.tup [])) st Q):er C ops Wr ds (.one i p) ρ st Q:=⟨_,ho,.inr ⟨hg,k⟩⟩
theorem oW {b:BV} {st':St} (ho:ops[i]? = some ⟨dst,op,ty,pos,aft,g⟩) (hg:gB ops ρ g = some true) (h:db C.P (okD C Wr ds i) st ρ op = some (st',some b)) (k:er C ops Wr ds p (ke ρ dst b) st' Q):er C ops Wr ds (.one i p) ρ st Q:=⟨_,ho,.inl ⟨hg,jkx st' b h k⟩⟩
theorem oS {st':St} (ho:ops[i]? = some ⟨dst,op,ty,pos,aft,g⟩) (hg:gB ops ρ g = some true) (h:db C.P (okD C Wr ds i) st ρ op = some (st',none)) (k:er C ops Wr ds p (ke ρ dst (.tup [])) st' Q):er C ops Wr ds (.one i p) ρ st Q:=⟨_,ho,.inl ⟨hg,jns st' h k⟩⟩
theorem oC {c:Call} {f:Nat} {ars:List BV} {Wr' Wm':List Nat} {R:BV → St → Prop} (ho:ops[i]? = some ⟨dst,.call c,ty,pos,aft,g⟩) (hg:gB ops ρ g = some true) (hc:np ρ c = some (f,ars)) (hf:jdz C.P f = true) (h:ci C.P Wr' Wm' f ars st R) (h1:∀ k ∈ Wr',k < st.S.length → okD C Wr ds i k = true) (h2:∀ k ∈ Wm',k < st.M.length → okM C k = true)
    (k:∀ r st',R r st' → er C ops Wr ds p (ke ρ dst r) st' Q):er C ops Wr ds (.one i p) ρ st Q:=⟨_,ho,.inl ⟨hg,v8 c f ars Wr' Wm' R rfl hc hf h h1 h2 k⟩⟩
theorem oP {c:Call} {f:Nat} {ars:List BV} {R:BV → Prop} (ho:ops[i]? = some ⟨dst,.call c,ty,pos,aft,g⟩) (hg:gB ops ρ g = some true) (hc:np ρ c = some (f,ars)) (hf:jdz C.P f = true) (h:ci C.P [] [] f ars st (fun r s=>s = st ∧ R r))
    (k:∀ r,R r → er C ops Wr ds p (ke ρ dst r) st Q):er C ops Wr ds (.one i p) ρ st Q:=oC ho hg hc hf h (by simp) (by simp) (fun r st' ⟨e,hr⟩=>e ▸ k r hr)
theorem nr (h1:er C ops Wr ds (.one i p) ρ st Q) (h2:er C ops Wr ds (.one j q) ρ st Q):er C ops Wr ds (.fork i p j q) ρ st Q:=⟨h1,h2⟩
end
theorem jn2 {x:Full} {cs:List DV} {n:Nat} {v:Value} (h:RepD x (.sl cs n) v):n ≤ 9223372036854775807:=by
  cases h with
  | nil=>omega
  | emp=>omega
  | sl b off n cap cs vs hc hm=>simp only [maxLen] at hm;omega
theorem jif {x:Full} {b:BV} {cs:List DV} {n:Nat} {v:Value} (h:RepB x b v) (hr:mg b = some (cs,n)):n ≤ 9223372036854775807:=jn2 (po hr h)
theorem jco {P:Program} {Wr Wm:List Nat} {f:Nat} {ars:List BV} {st:St} {R:BV → St → Prop} (F:Prop) (hF:∀(x:Full) (vs:List Value),x.st = st → Good x → RepBs x ars vs → F) (h:F → ci P Wr Wm f ars st R):ci P Wr Wm f ars st R :=
  fun x vs h1 h2 h3=>h (hF x vs h1 h2 h3) x vs h1 h2 h3
theorem jn3 {C:Cx} {c:Code} {ρ:Rg} {S:List (List BV × Nat)} {T:List Nat} {M:List (List (Value × DV))} {Q:nl} (d e sz:Nat) (hd:ρ d = some (.tight [] 0)) (h:Tri C c (upd ρ d (.own e sz T.length [] 0)) ⟨S,T ++ [0],M⟩ Q):Tri C c ρ ⟨S,T,M⟩ Q:=by
  intro x y a h1 h1m h2 h3 h4 h5 K hK
  have hT:y.st.T = T:=by rw [h3]
  refine h x (et y) a h1 h1m (h2.trans' (fw y) (fun i hi _=>by cases hi) (fun i hi _=>by cases hi)) (by simp only [et];rw [h3]) (k8 h4) ⟨h5.defers,h5.size,fun t v ht=>?_⟩ K hK
  simp only [upd] at ht
  split at ht
  · rename_i e0
    subst e0
    obtain rfl:=Option.some.inj ht
    rw [← hT]
    exact jhg e sz (h5.reg _ _ hd)
  · exact (h5.reg t v ht).mono (fw y)
theorem gc {C:Cx} {c:Code} {ρ:Rg} {S:List (List BV × Nat)} {T X:List Nat} {M:List (List (Value × DV))} {Q:nl} {nt:Nat} (d e sz:Nat) (hT:T.length = nt) (hd:ρ d = some (.tight [] 0)) (h:Tri C c (upd ρ d (.own e sz (nt + X.length) [] 0)) ⟨S,T ++(X ++ [0]),M⟩ Q):Tri C c ρ ⟨S,T ++ X,M⟩ Q:=by
  refine jn3 d e sz hd ?_
  rw [wz hT,List.append_assoc]
  exact h
theorem bc {P:Program} {nt nb nm k:Nat} {Wr Wm:List Nat}:okC ⟨P,nt,Wr,Wm,nb,nm⟩ (nb + k) = true:=by simp [okC]
theorem bm {P:Program} {nt nb nm id:Nat} {Wr Wm:List Nat} (h:id ∈ Wr):okC ⟨P,nt,Wr,Wm,nb,nm⟩ id = true:=by simp [okC,h]
theorem jl {P:Program} {nt nb nm k i:Nat} {Wr Wm Wr' ds:List Nat} (h:ds.contains i = true):okD ⟨P,nt,Wr,Wm,nb,nm⟩ Wr' ds i (nb + k) = true:=by
  simp only [okD,bc,h,Bool.true_or,Bool.and_self]
theorem mz {P:Program} {nt nb nm id i:Nat} {Wr Wm Wr' ds:List Nat} (h:id ∈ Wr) (h':ds.contains i = true ∨ id ∈ Wr'):okD ⟨P,nt,Wr,Wm,nb,nm⟩ Wr' ds i id = true:=by
  rcases h' with h' | h'
  · simp only [okD,bm h,h',Bool.true_or,Bool.and_self]
  · simp [okD,bm h,h']
theorem bh {P:Program} {nt nb nm k m:Nat} {Wr Wm:List Nat} (h:nb ≤ m):okC ⟨P,nt,Wr,Wm,nb,nm⟩ (m + k) = true:=by
  have:nb ≤ m + k:=by omega
  simp [okC,this]
theorem mb {P:Program} {nt nb nm k i m:Nat} {Wr Wm Wr' ds:List Nat} (h:nb ≤ m) (h':ds.contains i = true):okD ⟨P,nt,Wr,Wm,nb,nm⟩ Wr' ds i (m + k) = true:=by
  simp only [okD,bh h,h',Bool.true_or,Bool.and_self]
theorem am {P:Program} {f:Nat} {fn:Func} {c:Code} {args:List BV} {S:List (List BV × Nat)} {T:List Nat} {M:List (List (Value × DV))} {Q:BV → St → Prop} (Wr Wm:List Nat) (hf:P.funcs[f]? = some fn) (hb:fn.body = some c) {nt:Nat} (hn:fn.ntmps = nt) {rs:Array ResultVar} (hr:fn.results = rs)
    (h:Tri ⟨P,nt,Wr,Wm,S.length,M.length⟩ c (zo args) ⟨S ++ [],T ++ [],M⟩ (jb P rs.toList Wr ⟨S,T,M⟩ Q)):ci P Wr Wm f args ⟨S,T,M⟩ Q:=by
  subst hn hr
  rw [List.append_nil,List.append_nil] at h
  exact jhi Wr Wm hf hb h
theorem a8 {P:Program} {ρ:Rg} {st:St}:sh P ρ st [] = some []:=rfl
theorem a9 {P:Program} {ρ:Rg} {st:St} {t:Nat} {l:List ResultVar} {b:BV} {bs:List BV} (h:ρ t = some b) (hs:sh P ρ st l = some bs):sh P ρ st (.tmp t :: l) = some (b :: bs):=by
  simp [sh,h,hs]
theorem cp {P:Program} {ρ:Rg} {S L:List (List BV × Nat)} {T:List Nat} {M:List (List (Value × DV))} {t ty ty' sz k nb:Nat} {z cs:List BV} {l:List ResultVar} {bs:List BV} (hS:S.length = nb) (h:ρ t = some (.ptr (nb + k) 0)) (ht:pi P ty = some (true,sz,z)) (hb:L[k]? = some (cs,ty')) (hl:cs.length = sz) (hs:sh P ρ ⟨S ++ L,T,M⟩ l = some bs):sh P ρ ⟨S ++ L,T,M⟩ (.cell t ty :: l) = some (.agg cs :: bs):=by
  subst hl
  simp [sh,h,ht,hs,at_ hS hb,part]
theorem ez {P:Program} {ρ:Rg} {S L:List (List BV × Nat)} {T:List Nat} {M:List (List (Value × DV))} {t ty ty' sz id:Nat} {z cs:List BV} {l:List ResultVar} {bs:List BV} (h:ρ t = some (.ptr id 0)) (ht:pi P ty = some (true,sz,z)) (hb:S[id]? = some (cs,ty')) (hl:cs.length = sz) (hs:sh P ρ ⟨S ++ L,T,M⟩ l = some bs):sh P ρ ⟨S ++ L,T,M⟩ (.cell t ty :: l) = some (.agg cs :: bs):=by
  subst hl
  simp [sh,h,ht,hs,aa hb,part]
theorem bf {P:Program} {rs:List ResultVar} {S S1:List (List BV × Nat)} {T T1:List Nat} {M:List (List (Value × DV))} {R:BV → Prop} {ρ:Rg} {l l':List BV} (ex:AX) (hex:ex = .normal ∨ ex = .ret) (hT:T <+: T1) (h1:sh P ρ ⟨S1,T1,M⟩ rs = some l) (h2:my S.length T.length (wks l) = some l') (h:R (jb5 l')) :
    jb P rs [] ⟨S,T,M⟩ (fun r s=>s = ⟨S,T,M⟩ ∧ R r) ex ρ ⟨S1,T1,M⟩:=⟨hex,wks l,l',S,T,.inr (by rw [h1];rfl),h2,rfl,hT,Nat.le_refl _,rfl,h⟩
theorem eh {C:Cx} {c:Code} {ρ:Rg} {st:St} {Q:nl} {κ:Type} (μ:κ → Nat) (R:κ → List (Nat × BV)) (I:κ → Prop) (k:κ) (hI:I k) (h0:ng ρ (R k))
    (hr:∀ k,I k → Tri C c (rg (R k)) st (d7 (fun ρ' st'=>∃ k',μ k' < μ k ∧ I k' ∧ ng ρ' (R k') ∧ st' = st) Q)):Tri C (.loop c) ρ st Q:=fh μ R (fun _=>st) I k hI h0 rfl hr
theorem cx {C:Cx} {c:Code} {ρ:Rg} {S:List (List BV × Nat)} {T:List Nat} {M:List (List (Value × DV))} {Q:nl} {κ:Type} (μ:κ → Nat) (R:κ → List (Nat × BV)) (I:κ → List (List BV × Nat) → List Nat → Prop) (k:κ) (hI:I k S T) (h0:ng ρ (R k))
    (hr:∀ k S1 T1,I k S1 T1 → Tri C c (rg (R k)) ⟨S1 ++ [],T1 ++ [],M⟩ (d7 (fun ρ' st'=>∃ k' S2 T2,μ k' < μ k ∧ I k' S2 T2 ∧ ng ρ' (R k') ∧ st' = ⟨S2,T2,M⟩) Q)):Tri C (.loop c) ρ ⟨S,T,M⟩ Q:=by
  refine fh (κ:=κ × List (List BV × Nat) × List Nat) (fun k=>μ k.1) (fun k=>R k.1) (fun k=>⟨k.2.1,k.2.2,M⟩) (fun k=>I k.1 k.2.1 k.2.2) (k,S,T) hI h0 rfl ?_
  rintro ⟨k,S1,T1⟩ hk
  have:=hr k S1 T1 hk
  rw [List.append_nil,List.append_nil] at this
  refine r9 this fun ex ρ' st' h=>?_
  cases ex with
  | normal =>
    obtain ⟨k',S2,T2,h1,h2,h3,h4⟩:=h
    exact ⟨(k',S2,T2),h1,h2,h3,h4⟩
  | exit id=>exact h
  | ret=>exact h
theorem fm {P:Program} {rs:List ResultVar} {S S1:List (List BV × Nat)} {T T1:List Nat} {M:List (List (Value × DV))} {Q:BV → St → Prop} {ρ:Rg} {l l' cs cs':List BV} {id ty:Nat} (ex:AX) (hex:ex = .normal ∨ ex = .ret) (hT:T <+: T1) (h1:sh P ρ ⟨S1,T1,M⟩ rs = some l) (h2:my S.length T.length (wks l) = some l')
    (hS:S1[id]? = some (cs,ty)) (h3:my S.length T.length (wks cs) = some cs') (h4:my S.length T.length cs = my S.length T.length (wks cs)) (h:Q (jb5 l') ⟨S.set id (cs',ty),T,M⟩):jb P rs [id] ⟨S,T,M⟩ Q ex ρ ⟨S1,T1,M⟩ :=
  ⟨hex,wks l,l',S.set id (cs',ty),T,.inr (by rw [h1];rfl),h2,by simp only [jhh,hS,h4,h3],hT,Nat.le_refl _,h⟩
theorem jm {P:Program} {ok:Nat → Bool} {S L:List (List BV × Nat)} {T:List Nat} {M:List (List (Value × DV))} {ρ:Rg} {x y:Operand} {t id off sz ty:Nat} {b:BV} {ag:Bool} {z cs:List BV} (ht:pi P t = some (ag,sz,z)) (hx:evB ρ x = some (.ptr id off)) (hy:evB ρ y = some b) (hb:id < S.length) (hk:ok id = true) (hc:f6 b = true) (hl:(dh b).length = sz) (hf:off + sz ≤ cs.length) :
    db P ok ⟨S.set id (cs,ty) ++ L,T,M⟩ ρ (.store t x y) = some (⟨S.set id (mi off (dh b) cs,ty) ++ L,T,M⟩,none):=by
  rw [fg (S:=S.set id (cs,ty)) ht hx hy (List.getElem?_set_self hb) hk hc hl hf,List.set_set]
theorem ax {S L:List (List BV × Nat)} {id:Nat} {c:List BV × Nat} (h:id < S.length):(S ++ L).set id c = S.set id c ++ L:=uh h
theorem au {S L:List (List BV × Nat)} {id:Nat} {c d:List BV × Nat} (h:id < S.length):(S.set id d ++ L).set id c = S.set id c ++ L:=by
  rw [uh (by simpa using h),List.set_set]
end Go.Proofs.YtinffhimfoicdaaGreat.Calc
namespace Go.Proofs.YtinffhimfoicdaaGreat
open Go Go.RowKit Go.Proofs.YtinffhimfoicdaaGreat.Calc
set_option linter.unusedVariables false
set_option linter.unusedSimpArgs false
inductive Ex where
  | mk (kind num:Int) (text name typ:ByteArray) (l:List Ex) (own:ByteArray) (nth:Int)
inductive Sm where
  | mk (kind num:Int) (typ name:ByteArray) (e:List Ex) (a b c:List Sm) (nth:Int)
structure Pa where
  typ:ByteArray
  name:ByteArray
structure Fi where
  static:Bool
  typ:ByteArray
  name:ByteArray
  init:List Ex
structure Me where
  static:Bool
  ctor:Bool
  typ:ByteArray
  name:ByteArray
  params:List Pa
  body:List Sm
structure Cl where
  name:ByteArray
  super:ByteArray
  fields:List Fi
  methods:List Me
abbrev dI (n:Int):DV:=.flat (.int .i64 n)
abbrev dN (n:Int):DV:=.flat (.int .i32 n)
abbrev dB (b:Bool):DV:=.flat (.bool b)
abbrev dS (s:ByteArray):DV:=.flat (.string s)
mutual
def jn:Ex → List DV
  | .mk k n t nm ty l o nth=>[dI k,dN n,dS t,dS nm,dS ty,.sl (m5 l) l.length,dS o,dI nth]
def m5:List Ex → List DV
  | []=>[]
  | e :: l=>jn e ++ m5 l
end
mutual
def nh:Sm → List DV
  | .mk k n ty nm e a b c nth=>[dI k,dN n,dS ty,dS nm,.sl (m5 e) e.length,.sl (vc a) a.length,.sl (vc b) b.length,.sl (vc c) c.length,dI nth]
def vc:List Sm → List DV
  | []=>[]
  | e :: l=>nh e ++ vc l
end
theorem d4:∀ l:List Ex,m5 l = l.flatMap jn
  | []=>by rw [m5];rfl
  | e :: l=>by rw [m5,d4 l];rfl
theorem g8:∀ l:List Sm,vc l = l.flatMap nh
  | []=>by rw [vc];rfl
  | e :: l=>by rw [vc,g8 l];rfl
abbrev qg (l:List Ex):DV:=.sl (m5 l) l.length
abbrev eq (l:List Sm):DV:=.sl (vc l) l.length
def dw (s:ByteArray):List DV:=[dS s]
def gk (p:Pa):List DV:=[dS p.typ,dS p.name]
def je (f:Fi):List DV:=[dB f.static,dS f.typ,dS f.name,qg f.init]
def j1 (m:Me):List DV:=[dB m.static,dB m.ctor,dS m.typ,dS m.name,cy gk m.params,eq m.body]
def df (c:Cl):List DV:=[dS c.name,dS c.super,cy je c.fields,cy j1 c.methods]
def vEx (e:Ex):BV:=.agg ((jn e).map .d)
def vSm (e:Sm):BV:=.agg ((nh e).map .d)
mutual
def qa:Ex → Nat
  | .mk _ _ _ _ _ l _ _=>1 + jf l
def jf:List Ex → Nat
  | []=>0
  | e :: l=>qa e + jf l
end
mutual
def gm:Sm → Nat
  | .mk _ _ _ _ e a b c _=>1 + jf e + d5 a + d5 b + d5 c
def d5:List Sm → Nat
  | []=>0
  | e :: l=>gm e + d5 l
end
def jam (kd:Int) (len:Nat):Nat:=if kd = 7 ∨ kd = 15 ∨ kd = 16 ∨ kd = 18 then 1 else if kd = 17 then 2 else if kd = 10 then max 1 len else if 11 ≤ kd ∧ kd ≤ 14 then len else 0
theorem ui (kd:Int) (n:Nat):((kd = 7 ∨ kd = 15 ∨ kd = 16 ∨ kd = 18) → jam kd n = 1) ∧(kd = 17 → jam kd n = 2) ∧(kd = 10 → jam kd n = max 1 n) ∧((11 ≤ kd ∧ kd ≤ 14) → jam kd n = n) ∧((1 ≤ kd ∧ kd ≤ 6) ∨ kd = 8 ∨ kd = 9 → jam kd n = 0):=by
  unfold jam
  refine ⟨fun h=>if_pos h,fun h=>?_,fun h=>?_,fun h=>?_,fun h=>?_⟩
  · rw [if_neg (by omega),if_pos h]
  · rw [if_neg (by omega),if_neg (by omega),if_pos h]
  · rw [if_neg (by omega),if_neg (by omega),if_neg (by omega),if_pos h]
  · rw [if_neg (by omega),if_neg (by omega),if_neg (by omega),if_neg (by omega)]
mutual
def jfw:Ex → Prop
  | .mk kd _ _ _ _ l _ _=>1 ≤ kd ∧ kd ≤ 18 ∧ l.length = jam kd l.length ∧ vr l
def vr:List Ex → Prop
  | []=>True
  | e :: l=>jfw e ∧ vr l
end
mutual
def BEx:Ex → Prop
  | .mk _ _ t na ty l _ _=>t.size ≤ 1000000 ∧ na.size ≤ 1000000 ∧ ty.size ≤ 1000000 ∧ rz l
def rz:List Ex → Prop
  | []=>True
  | e :: l=>BEx e ∧ rz l
end
theorem si:∀ {l:List Ex},(∀(k:Nat) (c:Ex),l[k]? = some c → jfw c) → vr l
  | [],_=>by rw [vr];trivial
  | e :: l,h=>by
    rw [vr]
    exact ⟨h 0 e rfl,si fun k c hk=>h (k + 1) c (by simpa using hk)⟩
theorem jan:∀ {l:List Ex} {k:Nat} {c:Ex},rz l → l[k]? = some c → BEx c
  | [],k,c,_,h=>by simp at h
  | e :: l,0,c,hb,h=>by
    rw [rz] at hb
    simp only [List.getElem?_cons_zero,Option.some.injEq] at h
    exact h ▸ hb.1
  | e :: l,k + 1,c,hb,h=>by
    rw [rz] at hb
    exact jan hb.2 (by simpa using h)
theorem j8:∀ {l:List Ex} {k:Nat} {c:Ex},vr l → l[k]? = some c → jfw c
  | [],k,c,_,h=>by simp at h
  | e :: l,0,c,hb,h=>by
    rw [vr] at hb
    simp only [List.getElem?_cons_zero,Option.some.injEq] at h
    exact h ▸ hb.1
  | e :: l,k + 1,c,hb,h=>by
    rw [vr] at hb
    exact j8 hb.2 (by simpa using h)
theorem jo:∀ {l:List Ex} {k:Nat} {c:Ex},l[k]? = some c → qa c ≤ jf l
  | [],k,c,h=>by simp at h
  | e :: l,0,c,h=>by
    simp only [List.getElem?_cons_zero,Option.some.injEq] at h
    subst h
    rw [jf]
    omega
  | e :: l,k + 1,c,h=>by
    rw [jf]
    have:=jo (l:=l) (k:=k) (c:=c) (by simpa using h)
    omega
theorem w9:∀ {l:List Sm} {k:Nat} {c:Sm},l[k]? = some c → gm c ≤ d5 l
  | [],k,c,h=>by simp at h
  | e :: l,0,c,h=>by
    simp only [List.getElem?_cons_zero,Option.some.injEq] at h
    subst h
    rw [d5]
    omega
  | e :: l,k + 1,c,h=>by
    rw [d5]
    have:=w9 (l:=l) (k:=k) (c:=c) (by simpa using h)
    omega
theorem ay:∀ e:Ex,(jn e).length = 8
  | .mk _ _ _ _ _ _ _ _=>by rw [jn];rfl
theorem ba:∀ e:Sm,(nh e).length = 9
  | .mk _ _ _ _ _ _ _ _ _=>by rw [nh];rfl
def jh5 (f:Fi):Nat:=1 + jf f.init
def y5 (m:Me):Nat:=1 + m.params.length + d5 m.body
def vd (c:Cl):Nat:=1 +(c.fields.map jh5).sum +(c.methods.map y5).sum
def szP (p:List Cl):Nat:=(p.map vd).sum
theorem qh {α:Type} {f:α → Nat}:∀ {l:List α} {k:Nat} {c:α},l[k]? = some c → f c ≤(l.map f).sum
  | [],k,c,h=>by simp at h
  | e :: l,0,c,h=>by
    simp only [List.getElem?_cons_zero,Option.some.injEq] at h
    subst h
    rw [List.map_cons,List.sum_cons]
    omega
  | e :: l,k + 1,c,h=>by
    rw [List.map_cons,List.sum_cons]
    have:=qh (f:=f) (l:=l) (k:=k) (c:=c) (by simpa using h)
    omega
theorem jao {α:Type} {f:α → Nat} (h:∀ c,1 ≤ f c):∀ l:List α,l.length ≤(l.map f).sum
  | []=>by simp
  | e :: l=>by
    rw [List.map_cons,List.sum_cons,List.length_cons]
    have:=h e
    have:=jao h l
    omega
theorem jk0:∀ e,1 ≤ qa e
  | .mk _ _ _ _ _ _ _ _=>by rw [qa];omega
theorem ku:∀ e,1 ≤ gm e
  | .mk _ _ _ _ _ _ _ _ _=>by rw [gm];omega
theorem fp:∀ l:List Ex,l.length ≤ jf l
  | []=>by simp
  | e :: l=>by
    rw [jf,List.length_cons]
    have:=jk0 e
    have:=fp l
    omega
theorem qi:∀ l:List Sm,l.length ≤ d5 l
  | []=>by simp
  | e :: l=>by
    rw [d5,List.length_cons]
    have:=ku e
    have:=qi l
    omega
theorem k7 (c:Cl):c.fields.length ≤ vd c:=by
  have:=jao (f:=jh5) (fun c=>by simp only [jh5];omega) c.fields
  simp only [vd]
  omega
theorem gd (c:Cl):c.methods.length ≤ vd c:=by
  have:=jao (f:=y5) (fun c=>by simp only [y5];omega) c.methods
  simp only [vd]
  omega
theorem rm (p:List Cl):p.length ≤ szP p:=jao (fun c=>by simp only [vd];omega) p
def vP (p:List Cl):BV:=.agg [.d (cy df p)]
abbrev isB (r:BV):Prop:=∃ b,r = vB b
def fq (p:List Cl) (name:ByteArray):Int :=
  match p.findIdx? (fun c=>decide (c.name = name)) with
  | some i=>i
  | none=>-1
end Go.Proofs.YtinffhimfoicdaaGreat
namespace Go.Proofs.YtinffhimfoicdaaGreat
open Go Go.RowKit Go.Proofs.YtinffhimfoicdaaGreat.Calc
set_option linter.unusedVariables false
set_option linter.unusedSimpArgs false
set_option maxRecDepth 100000
set_option maxHeartbeats 4000000
attribute [local irreducible] Tri ew er ci bn db d7 inQ jb
abbrev PC (f:Nat) (args:List BV) (R:BV → Prop):Prop:=∀ S T M,ci Tryz.prog [] [] f args ⟨S,T,M⟩ (fun r s=>s = ⟨S,T,M⟩ ∧ R r)
theorem di {a b:Int} (h:a = b):(some (vI a):Option BV) = some (vI b):=by rw [h]
theorem cv (c:ByteArray):(dw c).length = 1:=rfl
theorem jk1 (n:Int):PC 113 [.d (dN n)] isB:=by
  intro S T M
  refine am [] [] Tryz.func113 rfl Tryz.ntmps113 Tryz.results113 ?_
  repeat' (first|apply ab|(apply V;rfl;(first|(apply bl;rfl)|(apply bg;rfl)|(apply ca;rfl;rfl)|(apply bu;rfl;rfl)))|(apply Vd;rfl;(first|(apply mj;rfl;rfl)|(apply ep;rfl;rfl));all_goals intro h_)|(apply Vo;rfl)|(apply ac;rfl)|apply ai|(apply bf _ (.inr rfl);(exact List.prefix_append _ _);(focus repeat (first|apply a8|(apply a9;rfl)));rfl))
  all_goals exact ⟨_,rfl⟩
theorem jk2 (n:Int):PC 112 [.d (dN n)] isB:=by
  intro S T M
  refine am [] [] Tryz.func112 rfl Tryz.ntmps112 Tryz.results112 ?_
  repeat' (first|apply ab|(apply V;rfl;(first|(apply bl;rfl)|(apply bg;rfl)|(apply ca;rfl;rfl)|(apply bu;rfl;rfl)))|(apply Vd;rfl;(first|(apply mj;rfl;rfl)|(apply ep;rfl;rfl));all_goals intro h_)|(apply Vo;rfl)|(apply ac;rfl)|apply ai|(apply bf _ (.inr rfl);(exact List.prefix_append _ _);(focus repeat (first|apply a8|(apply a9;rfl)));rfl))
  all_goals exact ⟨_,rfl⟩
theorem jsx (n:Int):PC 98 [.d (dN n)] isB:=by
  intro S T M
  refine am [] [] Tryz.func98 rfl Tryz.ntmps98 Tryz.results98 ?_
  repeat' (first|apply ab|(apply V;rfl;(first|(apply bl;rfl)|(apply bg;rfl)|(apply ca;rfl;rfl)|(apply bu;rfl;rfl)))|(apply Vd;rfl;(first|(apply mj;rfl;rfl)|(apply ep;rfl;rfl));all_goals intro h_)|(apply Vo;rfl)|(apply ac;rfl)|apply ai|(apply bf _ (.inr rfl);(exact List.prefix_append _ _);(focus repeat (first|apply a8|(apply a9;rfl)));rfl))
  all_goals exact ⟨_,rfl⟩
theorem jwv (n:Int):PC 99 [.d (.flat (.int .u8 n))] isB:=by
  intro S T M
  refine am [] [] Tryz.func99 rfl Tryz.ntmps99 Tryz.results99 ?_
  repeat' (first|apply ab|(apply V;rfl;(first|(apply bl;rfl)|(apply bg;rfl)|(apply ca;rfl;rfl)|(apply bu;rfl;rfl)|(apply kt;rfl;(apply udT;rfl);(apply udT;rfl))))|(apply Vp;rfl;rfl;apply fnT;rfl;apply jk1;rintro _ ⟨(_|_),rfl⟩)|(apply Vp;rfl;rfl;apply fnT;rfl;apply jk2;rintro _ ⟨(_|_),rfl⟩)|(apply Vp;rfl;rfl;apply fnT;rfl;apply jsx;rintro _ ⟨(_|_),rfl⟩)|(apply Vo;rfl)|(apply ac;rfl)|apply ai|(apply bf _ (.inr rfl);(exact List.prefix_append _ _);(focus repeat (first|apply a8|(apply a9;rfl)));rfl))
  all_goals exact ⟨_,rfl⟩
theorem jp4 (l:List ByteArray) (s:ByteArray):PC 95 [.d (cy dw l),vS s] (fun r=>∃ b,r = vB b ∧(b = true ↔ s ∈ l)):=by
  intro S T M
  refine jco (l.length ≤ 9223372036854775807) (fun x vs _ _ h=>?_) (fun hl=>?_)
  · cases h with
    | cons _ _ _ _ h _=>exact jif h rfl
  refine am [] [] Tryz.func95 rfl Tryz.ntmps95 Tryz.results95 ?_
  repeat' (first|apply ab|(apply V;rfl;(apply bg;rfl))|(apply ac;rfl)|apply ak|apply aj)
  refine fh (fun k:Nat=>l.length - k) (fun k=>[(0,.d (cy dw l)),(1,vS s),(5,vI k)]) (fun _=>⟨S ++ [],T ++ [],M⟩) (fun k=>k ≤ l.length ∧ s ∉ l.take k) 0 ⟨Nat.zero_le _,by simp⟩ ⟨rfl,rfl,rfl,trivial⟩ rfl ?_
  rintro k ⟨hk,hpre⟩
  repeat' (first|apply ab|(apply V;rfl;(first|(apply bl;rfl)|(apply bg;rfl)|(apply bq;(apply elT;rfl);rfl;rfl)))|(apply Vd;rfl;(apply cu;rfl;rfl);all_goals intro h_)|(apply ac;rfl)|apply ak|apply aj|apply ah|apply bd|apply ai|(apply ae;rfl)|(apply af;rfl)|(apply bf _ (.inr rfl);(exact List.prefix_append _ _);(focus repeat (first|apply a8|(apply a9;rfl)));rfl)|apply ap|apply ey|apply bo)
  · have hlt:k < l.length:=by omega
    obtain ⟨c,hc⟩:∃ c,l[k]? = some c:=⟨_,List.getElem?_eq_getElem hlt⟩
    repeat' (first|apply ab|(apply V;rfl;(first|(apply bl;rfl)|(apply bg;rfl)|(apply ef;(apply tyT;rfl);rfl;rfl)|(apply az;rfl;rfl;rfl;omega)|exact bp (c:=c) (elT rfl) rfl rfl rfl cv (by omega) (by simpa using hc)))|(apply Vd;rfl;(apply du;rfl;rfl);all_goals intro h_)|(apply ac;rfl)|(apply al;rfl)|apply ah|apply ai|(apply ae;rfl)|(apply af;rfl)|(apply bf _ (.inr rfl);(exact List.prefix_append _ _);(focus repeat (first|apply a8|(apply a9;rfl)));rfl)|apply ap|apply cq|apply dm|apply aw)
    · exact ⟨true,rfl,fun _=>by rw [← h_];exact List.mem_of_getElem? hc,fun _=>rfl⟩
    · refine ⟨k + 1,by omega,⟨by omega,?_⟩,⟨rfl,rfl,rfl,trivial⟩,rfl⟩
      rw [List.take_add_one,hc]
      simp only [Option.toList_some,List.mem_append,List.mem_singleton,not_or]
      exact ⟨hpre,fun e=>h_ e.symm⟩
  · rw [List.take_of_length_le (by omega)] at hpre
    exact ⟨false,rfl,⟨nofun,fun h=>absurd h hpre⟩⟩
def zq:List DV → Option (List ByteArray)
  | []=>some []
  | .flat (.string s) :: l=>match zq l with
    | some l=>some (s :: l)
    | none=>none
  | _=>none
theorem ya:∀ {ds:List DV} {l:List ByteArray},zq ds = some l → ds = l.flatMap dw
  | [],l,h=>by
    rw [zq] at h
    obtain rfl:=Option.some.inj h
    rfl
  | d :: ds,l,h=>by
    unfold zq at h
    split at h
    · rename_i e;cases e
    · rename_i s l0 e
      injection e with e1 e2
      subst e1 e2
      split at h
      · rename_i l1 h1
        obtain rfl:=Option.some.inj h
        rw [ya h1]
        rfl
      · cases h
    · cases h
theorem jk3 {ds:List DV} {n:Nat} {l:List ByteArray} {s:ByteArray} (h:zq ds = some l) (hn:l.length = n):PC 95 [.d (.sl ds n),vS s] (fun r=>∃ b,r = vB b ∧(b = true ↔ s ∈ l)):=by
  subst hn
  rw [ya h]
  exact jp4 l s
theorem jqm (s:ByteArray):PC 114 [vS s] isB:=by
  intro S T M
  refine am [] [] Tryz.func114 rfl Tryz.ntmps114 Tryz.results114 ?_
  repeat' (first|apply ab|(apply V;rfl;(first|(apply bl;rfl)|(apply bg;rfl)))|(apply Vp;rfl;rfl;apply fnT;rfl;apply ea;rfl;apply jk3;rfl;rfl;rintro _ ⟨(_|_),rfl,hin_⟩)|(apply Vw;rfl;(apply d8;rfl;(apply elT;rfl);(apply tyT;rfl);rfl;decide;rfl;rfl))|(apply ac;rfl)|apply ai|(apply bf _ (.inr rfl);(exact List.prefix_append _ _);(focus repeat (first|apply a8|(apply a9;rfl)));rfl))
  all_goals exact ⟨_,rfl⟩
theorem jt2 (s:ByteArray):PC 115 [vS s] isB:=by
  intro S T M
  refine am [] [] Tryz.func115 rfl Tryz.ntmps115 Tryz.results115 ?_
  repeat' (first|apply ab|(apply V;rfl;(first|(apply bl;rfl)|(apply bg;rfl)))|(apply Vp;rfl;rfl;apply fnT;rfl;apply ea;rfl;apply jk3;rfl;rfl;rintro _ ⟨(_|_),rfl,hin_⟩)|(apply Vw;rfl;(apply d8;rfl;(apply elT;rfl);(apply tyT;rfl);rfl;decide;rfl;rfl))|(apply ac;rfl)|apply ai|(apply bf _ (.inr rfl);(exact List.prefix_append _ _);(focus repeat (first|apply a8|(apply a9;rfl)));rfl))
  all_goals exact ⟨_,rfl⟩
theorem jt3 (n:Int):PC 117 [vI n] isB:=by
  intro S T M
  refine am [] [] Tryz.func117 rfl Tryz.ntmps117 Tryz.results117 ?_
  repeat' (first|apply ab|(apply V;rfl;(first|(apply bl;rfl)|(apply bg;rfl)|(apply ca;rfl;rfl)|(apply bu;rfl;rfl)))|(apply Vd;rfl;(first|(apply mj;rfl;rfl)|(apply ep;rfl;rfl)|(apply dq;rfl;rfl));all_goals intro h_)|(apply Vo;rfl)|(apply ac;rfl)|apply ai|(apply bf _ (.inr rfl);(exact List.prefix_append _ _);(focus repeat (first|apply a8|(apply a9;rfl)));rfl))
  all_goals exact ⟨_,rfl⟩
theorem jt4 (n:Int):PC 118 [vI n] isB:=by
  intro S T M
  refine am [] [] Tryz.func118 rfl Tryz.ntmps118 Tryz.results118 ?_
  repeat' (first|apply ab|(apply V;rfl;(first|(apply bl;rfl)|(apply bg;rfl)|(apply ca;rfl;rfl)|(apply bu;rfl;rfl)))|(apply Vd;rfl;(apply dq;rfl;rfl);all_goals intro h_)|(apply Vo;rfl)|(apply ac;rfl)|apply ai|(apply bf _ (.inr rfl);(exact List.prefix_append _ _);(focus repeat (first|apply a8|(apply a9;rfl)));rfl))
  all_goals exact ⟨_,rfl⟩
theorem jqn (n:Int):PC 133 [vI n] isB:=by
  intro S T M
  refine am [] [] Tryz.func133 rfl Tryz.ntmps133 Tryz.results133 ?_
  repeat' (first|apply ab|(apply V;rfl;(first|(apply bl;rfl)|(apply bg;rfl)|(apply ca;rfl;rfl)|(apply bu;rfl;rfl)))|(apply Vd;rfl;(apply dq;rfl;rfl);all_goals intro h_)|(apply Vo;rfl)|(apply ac;rfl)|apply ai|(apply bf _ (.inr rfl);(exact List.prefix_append _ _);(focus repeat (first|apply a8|(apply a9;rfl)));rfl))
  all_goals exact ⟨_,rfl⟩
theorem jqo (n:Int):PC 134 [vI n] isB:=by
  intro S T M
  refine am [] [] Tryz.func134 rfl Tryz.ntmps134 Tryz.results134 ?_
  repeat' (first|apply ab|(apply V;rfl;(first|(apply bl;rfl)|(apply bg;rfl)|(apply ca;rfl;rfl)|(apply bu;rfl;rfl)))|(apply Vd;rfl;(apply dq;rfl;rfl);all_goals intro h_)|(apply Vo;rfl)|(apply ac;rfl)|apply ai|(apply bf _ (.inr rfl);(exact List.prefix_append _ _);(focus repeat (first|apply a8|(apply a9;rfl)));rfl))
  all_goals exact ⟨_,rfl⟩
theorem jt5 (s:ByteArray):PC 116 [vS s] isB:=by
  intro S T M
  refine am [] [] Tryz.func116 rfl Tryz.ntmps116 Tryz.results116 ?_
  repeat' (first|apply ab|(apply V;rfl;(first|(apply bl;rfl)|(apply bg;rfl)|(apply ca;rfl;rfl)|(apply bu;rfl;rfl)))|(apply Vd;rfl;(apply du;rfl;rfl);all_goals intro h_)|(apply Vo;rfl)|(apply ac;rfl)|apply ai|(apply bf _ (.inr rfl);(exact List.prefix_append _ _);(focus repeat (first|apply a8|(apply a9;rfl)));rfl))
  all_goals exact ⟨_,rfl⟩
end Go.Proofs.YtinffhimfoicdaaGreat
namespace Go.Proofs.YtinffhimfoicdaaGreat
open Go Go.RowKit Go.Proofs.YtinffhimfoicdaaGreat.Calc
set_option linter.unusedVariables false
set_option linter.unusedSimpArgs false
set_option maxRecDepth 100000
set_option maxHeartbeats 4000000
attribute [local irreducible] Tri ew er ci bn db d7 inQ jb
theorem jqp (s:ByteArray) (m:Int) (hs:s.size < 4611686018427387904):PC 111 [vS s,vI m] (fun r=>∃ b,r = vB b ∧(b = true → 0 < s.size)):=by
  intro S T M
  refine am [] [] Tryz.func111 rfl Tryz.ntmps111 Tryz.results111 ?_
  repeat' (first|apply ab|(apply V;rfl;(apply bg;rfl))|(apply ac;rfl)|apply ak|apply aj)
  refine fh (fun k:Nat=>s.size - k) (fun k=>[(0,vS s),(1,vI m),(5,vI k)]) (fun _=>⟨S ++ [],T ++ [],M⟩) (fun k=>k ≤ s.size) 0 (Nat.zero_le _) ⟨rfl,rfl,rfl,trivial⟩ rfl ?_
  intro k hk
  repeat' (first|apply ab|(apply V;rfl;(first|(apply bl;rfl)|(apply bg;rfl)|(apply fx;(apply udT;rfl);rfl)|(apply ca;rfl;rfl)|(apply bu;rfl;rfl)|(apply kt;rfl;(apply udT;rfl);(apply udT;rfl))|(apply nq;(apply udT;rfl);rfl;rfl;omega)))|(apply Vd;rfl;(first|(apply cu;rfl;rfl)|(apply mj;rfl;rfl)|(apply ep;rfl;rfl));all_goals intro h_)|(apply Vo;rfl)|(apply ac;rfl)|apply ak|apply aj|apply ah|apply bd|apply ai|(apply ae;rfl)|(apply af;rfl)|(apply bf _ (.inr rfl);(exact List.prefix_append _ _);(focus repeat (first|apply a8|(apply a9;rfl)));rfl)|apply ap|apply ey|apply bo)
  · have hlt:k < s.size:=by omega
    repeat' (first|apply ab|(apply V;rfl;(first|(apply bl;rfl)|(apply bg;rfl)|(apply ca;rfl;rfl)|(apply bu;rfl;rfl)|(apply cg;rfl)|(apply az;rfl;rfl;rfl;omega)))|(apply Vp;rfl;rfl;apply fnT;rfl;apply jk1;rintro _ ⟨(_|_),rfl⟩)|(apply Vp;rfl;rfl;apply fnT;rfl;apply jk2;rintro _ ⟨(_|_),rfl⟩)|(apply Vp;rfl;rfl;apply fnT;rfl;apply jsx;rintro _ ⟨(_|_),rfl⟩)|(apply Vo;rfl)|(apply ac;rfl)|(apply al;rfl)|apply ah|apply ai|(apply ae;rfl)|(apply af;rfl)|(apply bf _ (.inr rfl);(exact List.prefix_append _ _);(focus repeat (first|apply a8|(apply a9;rfl)));rfl)|apply ap|apply cq|apply dm|apply aw)
    all_goals first|exact ⟨false,rfl,nofun⟩|exact ⟨k + 1,by omega,by omega,⟨rfl,rfl,rfl,trivial⟩,rfl⟩
  · exact ⟨_,rfl,fun _=>by omega⟩
  · exact ⟨_,rfl,fun _=>by omega⟩
  · exact ⟨_,rfl,nofun⟩
theorem jms (s:ByteArray) (hs:s.size < 4611686018427387904):PC 85 [vS s] isB:=by
  intro S T M
  refine am [] [] Tryz.func85 rfl Tryz.ntmps85 Tryz.results85 ?_
  repeat' (first|apply ab|(apply V;rfl;(first|(apply bl;rfl)|(apply bg;rfl)|(apply ca;rfl;rfl)|(apply bu;rfl;rfl)|(apply cg;rfl)|(apply kt;rfl;(apply udT;rfl);(apply udT;rfl))|(apply nq;(apply udT;rfl);rfl;rfl;omega)))|(apply Vp;rfl;rfl;apply fnT;rfl;apply jqp;assumption;rintro _ ⟨(_|_),rfl,hb_⟩)|replace hb_:=hb_ rfl|(apply Vp;rfl;rfl;apply fnT;rfl;apply jk1;rintro _ ⟨(_|_),rfl⟩)|(apply Vp;rfl;rfl;apply fnT;rfl;apply jqm;rintro _ ⟨(_|_),rfl⟩)|(apply Vo;rfl)|(apply ac;rfl)|apply ai|(apply bf _ (.inr rfl);(exact List.prefix_append _ _);(focus repeat (first|apply a8|(apply a9;rfl)));rfl))
  all_goals exact ⟨_,rfl⟩
theorem jp5 (s:ByteArray) (hs:s.size < 4611686018427387904):PC 83 [vS s] isB:=by
  intro S T M
  refine am [] [] Tryz.func83 rfl Tryz.ntmps83 Tryz.results83 ?_
  repeat' (first|apply ab|(apply V;rfl;(first|(apply bl;rfl)|(apply bg;rfl)|(apply ca;rfl;rfl)|(apply bu;rfl;rfl)|(apply kt;rfl;(apply udT;rfl);(apply udT;rfl))|(apply nq;(apply udT;rfl);rfl;rfl;omega)))|(apply Vp;rfl;rfl;apply fnT;rfl;apply jqp;assumption;rintro _ ⟨(_|_),rfl,hb_⟩)|replace hb_:=hb_ rfl|(apply Vp;rfl;rfl;apply fnT;rfl;apply jk2;rintro _ ⟨(_|_),rfl⟩)|(apply Vd;rfl;(apply fy;rfl;rfl);all_goals intro h_)|(apply Vo;rfl)|(apply ac;rfl)|apply ai|(apply bf _ (.inr rfl);(exact List.prefix_append _ _);(focus repeat (first|apply a8|(apply a9;rfl)));rfl))
  all_goals exact ⟨_,rfl⟩
theorem jqq (s:ByteArray) (hs:s.size < 4611686018427387904):PC 84 [vS s] isB:=by
  intro S T M
  refine am [] [] Tryz.func84 rfl Tryz.ntmps84 Tryz.results84 ?_
  repeat' (first|apply ab|(apply V;rfl;(first|(apply bl;rfl)|(apply bg;rfl)|(apply ca;rfl;rfl)|(apply bu;rfl;rfl)))|(apply Vp;rfl;rfl;apply fnT;rfl;apply jp5;assumption;rintro _ ⟨(_|_),rfl⟩)|(apply Vd;rfl;(apply du;rfl;rfl);all_goals intro h_)|(apply Vo;rfl)|(apply ac;rfl)|apply ai|(apply bf _ (.inr rfl);(exact List.prefix_append _ _);(focus repeat (first|apply a8|(apply a9;rfl)));rfl))
  all_goals exact ⟨_,rfl⟩
end Go.Proofs.YtinffhimfoicdaaGreat
