/- Texts of the claim, merged: Calc18, Calc19, Calc20, HM, HN, HO, HQ, HR, HS, HT, Calc21, Calc22, Calc23, F, G, H, I. No conditions. -/
import Derived.Test.YtinffhimfoicdaaGreatPq1
import Derived.DeepKeys3
import Derived.Test.YtinffhimfoicdaaGreatPq2
import Derived.KernelRfl
namespace Go.Proofs.YtinffhimfoicdaaGreat.Calc
open Go Go.RowKit
set_option linter.unusedVariables false
def jul:Value → Bool
  | .tuple _=>true
  | _=>false
def jkp (P:Program) (k:TypeId) (v:Value):Prop:=(∃ l,keyOf P k v = some l) ∧ jul v = false
theorem jat {P:Program} {k:TypeId} {es:List (Value × DV)} (h:∀ p ∈ es,jkp P k p.1):jhb es = false:=by
  match es,h with
  | [],_=>rfl
  |(v,d) :: l,h =>
    have:=(h (v,d) (by simp)).2
    cases v <;> first|rfl|cases this
def jy (x:Full) (w':World):Full :=
  ⟨⟨x.st.S,x.st.T,x.st.M ++ [[]]⟩,x.pb,x.pt,fun i=>if i = x.st.M.length then x.w.heap.size else x.pm i,fun b=>if b = x.w.heap.size then 0 else x.F b,w'⟩
theorem rp {x:Full} {w':World} {o:Obj} (hg:Good x) (h:Grown x.w w' o):Step [] [] x (jy x w') where
  os:=h.os
  tape:=h.tape
  output:=h.output
  size:=h.size
  frame:=fun b hb _ _ _=>h.old hb
  keep:=h.keep 0
  slen:=Nat.le_refl _
  ids:=fun _ _=>rfl
  fresh:=fun i h1 h2=>by simp only [jy] at h2;omega
  mlen:=by simp [jy]
  mids:=fun i hi=>if_neg (Nat.ne_of_lt hi)
  mfresh:=fun i h1 h2=>by
    simp only [jy,List.length_append,List.length_singleton] at h2 ⊢
    rw [if_pos (by omega)]
    exact .inl (Nat.le_refl _)
  tags:=fun u k hu=>⟨k,hu,Nat.le_refl _,fun _=>⟨rfl,fun b hb=>⟨h.old (hg.tag u k b hu hb).1,if_neg (Nat.ne_of_lt (hg.tag u k b hu hb).1)⟩⟩,.inl rfl⟩
  tfresh:=fun u b h1 h2=>by simp only [jy] at h2;omega
  fro:=fun b hb _=>if_neg (Nat.ne_of_lt hb)
theorem jeh {x:Full} {w':World} {c:Nat} (hg:Good x) (h:Grown x.w w' (.map #[] c)):Good (jy x w'):=by
  have hs:=rp hg h
  constructor
  · intro id cs t hid
    obtain ⟨us,h1,h2,h3⟩:=hg.box id cs t hid
    have hb:=(Array.getElem?_eq_some_iff.1 h1).1
    refine ⟨us,(h.old hb).trans h1,h2.mono hs,?_⟩
    simp only [jy,if_neg (Nat.ne_of_lt hb)]
    exact h3
  · exact hg.inj
  · intro u k b hu hb
    obtain ⟨h1,h2,h3,h4⟩:=hg.tag u k b hu hb
    refine ⟨Nat.lt_of_lt_of_le h1 h.size,?_,h3,h4⟩
    simp only [jy,if_neg (Nat.ne_of_lt h1)]
    exact h2
  · intro id es hid
    simp only [jy,List.getElem?_append] at hid
    split at hid
    · rename_i hlt
      simp only [jy,if_neg (Nat.ne_of_lt hlt)]
      exact (hg.map id es hid).le (h.old (hg.map id es hid).lt) hs.le
    · rename_i hlt
      have hid0:id = x.st.M.length:=by
        have:=(List.getElem?_eq_some_iff.1 hid).1
        simp at this
        omega
      subst hid0
      simp only [Nat.sub_self,List.getElem?_cons_zero,Option.some.injEq] at hid
      subst hid
      refine ⟨fun _=>⟨#[],c,?_,rfl,fun i e k y he hk=>by simp at he⟩,fun e=>by cases e⟩
      simp only [jy,if_pos]
      exact h.new
  · intro i j hi hj e
    simp only [jy,List.length_append,List.length_singleton] at hi hj e
    split at e <;> split at e
    · omega
    · have:=hg.map_lt (show j < x.st.M.length by omega)
      omega
    · have:=hg.map_lt (show i < x.st.M.length by omega)
      omega
    · exact hg.mapinj i j (by omega) (by omega) e
  · intro t b i ht hb hi
    simp only [jy,List.length_append,List.length_singleton] at hi ⊢
    split
    · have:=hg.tag_lt ht hb
      omega
    · exact hg.tmap t b i ht hb (by omega)
  · intro i hi
    simp only [jy,List.length_append,List.length_singleton] at hi ⊢
    split
    · exact ⟨if_pos rfl,fun j hj=>Nat.ne_of_lt (hg.box_lt hj)⟩
    · have hi':i < x.st.M.length:=by omega
      exact ⟨by rw [if_neg (Nat.ne_of_lt (hg.map_lt hi'))];exact (hg.mp i hi').1,(hg.mp i hi').2⟩
structure TurnedM (w w':World) (g:Nat) (vs:Array MapEntry) (c:Nat):Prop where
  os:w'.os = w.os
  tape:w'.tape = w.tape
  output:w'.output = w.output
  size:w'.heap.size = w.heap.size
  old:∀ b,b ≠ g → w'.heap[b]? = w.heap[b]?
  new:w'.heap[g]? = some (.map vs c)
theorem ye {w:World} {g c c':Nat} {vs vs':Array MapEntry} (h:w.heap[g]? = some (.map vs c)):TurnedM w { w with heap:=w.heap.setIfInBounds g (.map vs' c') } g vs' c' where
  os:=rfl
  tape:=rfl
  output:=rfl
  size:=by simp
  old:=fun b hb=>by
    show (w.heap.setIfInBounds g _)[b]? = _
    rw [Array.getElem?_setIfInBounds,if_neg (fun e=>hb e.symm)]
  new:=by
    show (w.heap.setIfInBounds g _)[g]? = _
    rw [Array.getElem?_setIfInBounds_self,if_pos (Array.getElem?_eq_some_iff.1 h).1]
def gh (x:Full) (w':World) (id:Nat) (es:List (Value × DV)):Full :=
  ⟨⟨x.st.S,x.st.T,x.st.M.set id es⟩,x.pb,x.pt,x.pm,x.F,w'⟩
theorem rq {x:Full} {w':World} {id c:Nat} {es:List (Value × DV)} {vs:Array MapEntry} (hg:Good x) (hid:id < x.st.M.length) (h:TurnedM x.w w' (x.pm id) vs c):Step [] [id] x (gh x w' id es) where
  os:=h.os
  tape:=h.tape
  output:=h.output
  size:=Nat.le_of_eq h.size.symm
  frame:=fun b _ _ h1 _=>h.old b (fun e=>h1 id (by simp) hid e.symm)
  keep:=fun b i u hi hc=>by
    refine ⟨hi,(kz (h.old b (fun e=>?_)) i).trans hc⟩
    subst e
    rw [(hg.mp id hid).1] at hi
    omega
  slen:=Nat.le_refl _
  ids:=fun _ _=>rfl
  fresh:=fun i h1 h2=>by simp only [gh] at h2;omega
  mlen:=by simp [gh]
  mids:=fun _ _=>rfl
  mfresh:=fun i h1 h2=>by simp only [gh,List.length_set] at h2;omega
  tags:=fun u k hu=>⟨k,hu,Nat.le_refl _,fun _=>⟨rfl,fun b hb=>⟨h.old b (fun e=>hg.tmap u b id (List.getElem?_eq_some_iff.1 hu).1 hb hid e.symm),rfl⟩⟩,.inl rfl⟩
  tfresh:=fun u b h1 h2=>by simp only [gh] at h2;omega
  fro:=fun _ _ _=>rfl
theorem yf {x:Full} {w':World} {id c:Nat} {es:List (Value × DV)} {vs:Array MapEntry} (hg:Good x) (hid:id < x.st.M.length) (h:TurnedM x.w w' (x.pm id) vs c) (hrow:jhb es = false) (hl:vs.toList.length = es.length)
    (hv:∀(i:Nat) (e:MapEntry) k y,vs.toList[i]? = some e → es[i]? = some (k,y) → e.key = k ∧ RepD x y e.val):Good (gh x w' id es):=by
  have hs:=rq (es:=es) hg hid h
  constructor
  · intro i cs t hi
    obtain ⟨us,h1,h2,h3⟩:=hg.box i cs t hi
    have hi':=(List.getElem?_eq_some_iff.1 hi).1
    exact ⟨us,(h.old _ (fun he=>hg.map_ne hid hi' he.symm)).trans h1,h2.mono hs,h3⟩
  · exact hg.inj
  · intro u k b hu hb
    obtain ⟨h1,h2,h3,h4⟩:=hg.tag u k b hu hb
    exact ⟨by simp only [gh];rw [h.size];exact h1,h2,h3,h4⟩
  · intro i es' hi
    simp only [gh,List.getElem?_set] at hi
    split at hi
    · rename_i e
      subst e
      simp only [Option.some.injEq] at hi
      obtain ⟨_,rfl⟩:=hi
      refine ⟨fun _=>⟨vs,c,h.new,hl,fun i e k y he hk=>?_⟩,fun e=>by rw [hrow] at e;cases e⟩
      obtain ⟨h4,h5⟩:=hv i e k y he hk
      exact ⟨h4,h5.mono hs.le⟩
    · rename_i e
      exact (hg.map i es' hi).le (h.old _ (fun he=>e (hg.mapinj i id (List.getElem?_eq_some_iff.1 hi).1 hid he).symm)) hs.le
  · intro i j hi hj e
    simp only [gh,List.length_set] at hi hj e
    exact hg.mapinj i j hi hj e
  · intro t b i ht hb hi
    simp only [gh,List.length_set] at hi
    exact hg.tmap t b i ht hb hi
  · intro i hi
    simp only [gh,List.length_set] at hi
    exact hg.mp i hi
def jk9:List BV → Option (List Value)
  | []=>some []
  | .d (.flat v) :: l=>(jk9 l).map (v :: ·)
  | _ :: _=>none
def jh6:BV → Option Value
  | .d (.flat v)=>some v
  | .agg l=>(jk9 l).map fun l=>.agg l.toArray
  | _=>none
theorem jcq {x:Full}:∀ {l:List BV} {vs kv:List Value},RepBs x l vs → jk9 l = some kv → vs = kv
  | _,_,_,.nil,hk=>Option.some.inj hk
  | _,_,_,.cons y v l vs h hs,hk=>by
    unfold jk9 at hk
    split at hk
    · rename_i e;cases e
    · rename_i e
      injection e with e1 e2
      subst e1 e2
      obtain ⟨l',h1,h2⟩:=Option.map_eq_some_iff.1 hk
      cases h with
      | d _ _ h=>cases h with
        | flat _ _=>rw [← h2,jcq hs h1]
    · cases hk
theorem kw {x:Full} {b:BV} {v kv:Value} (h:RepB x b v) (hk:jh6 b = some kv):v = kv:=by
  unfold jh6 at hk
  split at hk
  · cases h with
    | d _ _ h=>cases h with
      | flat _ _=>exact Option.some.inj hk
  · obtain ⟨l',h1,h2⟩:=Option.map_eq_some_iff.1 hk
    cases h with
    | agg _ vs h=>rw [← h2,jcq h h1]
  · cases hk
theorem jf5 {P:Program} {k:TypeId} (K:WideMaps.KeyLaw P k) {y:Full} (hg:Good y) {id:Nat} {es:List (Value × DV)} (hM:y.st.M[id]? = some es) (hks:∀ p ∈ es,jkp P k p.1) {kv:Value} (hkv:jkp P k kv) :
    ∃ vs c,y.w.heap[y.pm id]? = some (.map vs c) ∧ vs.toList.length = es.length ∧(∀(i:Nat) (e:MapEntry) k y',vs.toList[i]? = some e → es[i]? = some (k,y') → e.key = k ∧ RepD y y' e.val) ∧
      (((Instr.findKey k kv vs.toList).run P y.w = .ok none y.w ∧ ∀ p ∈ es,p.1 ≠ kv) ∨ ∃ j e d,(Instr.findKey k kv vs.toList).run P y.w = .ok (some (j,e.val)) y.w ∧ vs.toList[j]? = some e ∧ e.key = kv ∧ es[j]? = some (kv,d) ∧ RepD y d e.val):=by
  obtain ⟨vs,c,h1,h2,h3⟩:=(hg.map id es hM).1 (jat hks)
  obtain ⟨⟨l,hl⟩,_⟩:=hkv
  have hall:∀ e ∈ vs.toList,∃ l,keyOf P k e.key = some l:=fun e he=>by
    obtain ⟨i,hi,rfl⟩:=List.getElem_of_mem he
    have hi':i < es.length:=by rw [← h2];exact hi
    obtain ⟨h4,_⟩:=h3 i _ (es[i]).1 (es[i]).2 (List.getElem?_eq_getElem hi) (List.getElem?_eq_getElem hi')
    rw [h4]
    exact (hks _ (List.getElem_mem hi')).1
  refine ⟨vs,c,h1,h2,h3,?_⟩
  rcases K.find y.w hl vs.toList hall with ⟨g1,g2⟩|⟨j,e,g1,g2,g3⟩
  · refine .inl ⟨g1,fun p hp=>?_⟩
    obtain ⟨i,hi,rfl⟩:=List.getElem_of_mem hp
    have hi':i < vs.toList.length:=by rw [h2];exact hi
    obtain ⟨h4,_⟩:=h3 i _ (es[i]).1 (es[i]).2 (List.getElem?_eq_getElem hi') (List.getElem?_eq_getElem hi)
    rw [← h4]
    exact g2 _ (List.getElem_mem hi')
  · have hj:=(List.getElem?_eq_some_iff.1 g2).1
    have hj':j < es.length:=by rw [← h2];exact hj
    have he:es[j]? = some ((es[j]).1,(es[j]).2):=List.getElem?_eq_getElem hj'
    obtain ⟨h4,h5⟩:=h3 j e _ _ g2 he
    rw [← h4,g3] at he
    exact .inr ⟨j,e,_,g1,g2,g3,he,h5⟩
def lkB (commaOk:Bool) (b:BV) (ok:Bool):BV:=if commaOk = true then .tup [b,.d (.flat (.bool ok))] else b
theorem jei {x:Full} {b:BV} {v:Value} (h:RepB x b v) (c ok:Bool):RepB x (lkB c b ok) (if c = true then .tuple #[v,.bool ok] else v):=by
  unfold lkB
  cases c
  · exact h
  · exact .tup _ [v,.bool ok] (.cons _ _ _ _ h (.cons _ _ _ _ (.d _ _ (.flat _ rfl)) .nil))
section
variable {P:Program} {ok okm:Nat → Bool} {o:Oper} {ρ:Rg} {st:St} {Q:Rg → St → Prop} {t:Nat} {k e:TypeId} {x i v:Operand} {b:Bool}
theorem jla {sz id:Nat} {z:List BV} {es:List (Value × DV)} {kv:Value} (ho:o.op = .lookup t x i b) (hm:P.underlying t = some (.map k e)) (K:WideMaps.KeyLaw P k) (ht:pi P e = some (true,sz,z)) (hx:evB ρ x = some (.d (.map id)))
    (hi:(evB ρ i).bind jh6 = some kv) (hkv:jkp P k kv) (hM:st.M[id]? = some es) (hks:∀ p ∈ es,jkp P k p.1)
    (hN:(∀ p ∈ es,p.1 ≠ kv) → Q (ke ρ o.dst (lkB b (.agg z) false)) st) (hS:∀(j:Nat) (d:DV),es[j]? = some (kv,d) → Q (ke ρ o.dst (lkB b (ofD d) true)) st):OpR P ok okm o ρ st Q:=by
  intro nt y a Kx h1 h2 h3 h4
  subst h1
  obtain ⟨bi,hb1,hb2⟩:=Option.bind_eq_some_iff.1 hi
  have hik:=kw (h3.ev hb1) hb2
  have hrx:=h3.ev hx
  generalize hw:a.eval x = vx at hrx
  have hkv0:=hkv
  obtain ⟨⟨l,hl⟩,_⟩:=hkv0
  obtain ⟨dd,ii,zz,g1,g2,g3,_,_,g6,g7⟩:=gg ht
  obtain ⟨cz,rfl⟩:∃ c:Array Value,zz = .agg c:=by
    cases zz <;> simp [jml] at g7
    exact ⟨_,rfl⟩
  have hz:RepB y (.agg z) (.agg cz):=by
    have:=RepB.agg _ _ (gi (x:=y) g6)
    simpa [Value.cells] using this
  cases hrx with
  | d _ _ hd=>cases hd with
    | map _ hlt =>
      obtain ⟨vs,c,q1,q2,q3,q4⟩:=jf5 K h2 hM hks hkv
      unfold Oper.wp
      rcases q4 with ⟨q4,q5⟩|⟨j,en,d,q4,q5,q6,q7,q8⟩
      · have hrun:(execOp a.eval o).run P y.w = .ok (.value (if b = true then .tuple #[.agg cz,.bool false] else .agg cz)) y.w:=by
          obtain ⟨dst,op,type,pos,after,guard⟩:=o
          subst ho
          simp only [execOp,hw,hik]
          simp [Instr.lookup,run_underlying hm,MapKept.run_getObj_map q1,K.check y.w _ hl,q4,qu g2 g3,Result.andThen]
        rw [hrun]
        exact ⟨_,y,[],[],rfl,hN q5,h2,Step.refl _ _ _,by simp,by simp,h3.put h4 (jei hz b false)⟩
      · have hrun:(execOp a.eval o).run P y.w = .ok (.value (if b = true then .tuple #[en.val,.bool true] else en.val)) y.w:=by
          obtain ⟨dst,op,type,pos,after,guard⟩:=o
          subst ho
          simp only [execOp,hw,hik]
          simp [Instr.lookup,run_underlying hm,MapKept.run_getObj_map q1,K.check y.w _ hl,q4,Result.andThen]
        rw [hrun]
        exact ⟨_,y,[],[],rfl,hS j d q7,h2,Step.refl _ _ _,by simp,by simp,h3.put h4 (jei (jd6 q8) b true)⟩
end
end Go.Proofs.YtinffhimfoicdaaGreat.Calc
namespace Go.Proofs.YtinffhimfoicdaaGreat.Calc
open Go Go.RowKit
set_option linter.unusedVariables false
def jhl (P:Program) (rs:List ResultVar) (Wr:List Nat) (st0:St) (Q:BV → St → Prop):nl:=fun ex ρ st =>
  (ex = .normal ∨ ex = .ret) ∧ ∃ l l' S' T',(sh P ρ st rs = some l ∨(sh P ρ st rs).map wks = some l) ∧ my S'.length T'.length l = some l' ∧
    (∀ id cs ty,S'[id]? = some (cs,ty) →(id < st0.S.length ∧ id ∉ Wr ∧ st0.S[id]? = some (cs,ty)) ∨(∃ cs0,st.S[id]? = some (cs0,ty) ∧ my S'.length T'.length cs0 = some cs)) ∧
    S'.length ≤ st.S.length ∧ st0.S.length ≤ S'.length ∧ T' <+: st.T ∧ st0.T.length ≤ T'.length ∧ Q (jb5 l') ⟨S',T',st.M⟩
theorem jej {P:Program} {f:Nat} {fn:Func} {c:Code} {args:List BV} {st:St} {Q:BV → St → Prop} (Wr Wm:List Nat) (hf:P.funcs[f]? = some fn) (hb:fn.body = some c)
    (h:∀(x:Full) (a:Act),x.st = st → Good x → Regs fn.ntmps x (zo args) a → ∀ K:Exit → Act → World → Prop,(∀ ex ρ' z a',jhl P fn.results.toList Wr st Q ex ρ' z.st → Step Wr Wm x z → Good z → Regs fn.ntmps z ρ' a' → K ex.to a' z.w) → c.wp P K a x.w):ci P Wr Wm f args st Q:=by
  intro x vs hx hg hargs
  subst hx
  refine calls_of_wp hf hb (h x _ rfl hg ?_ _ (fun ex ρ z a hq hs hgz hr=>?_))
  · refine ⟨rfl,by simp;omega,fun t v ht=>?_⟩
    obtain ⟨u,hu,hru⟩:=hargs.get ht
    have hlt:=(List.getElem?_eq_some_iff.1 hu).1
    have:(vs.toArray ++ Array.replicate (fn.ntmps - vs.toArray.size) undef).getD t undef = u:=by
      rw [Array.getD_eq_getD_getElem?,Array.getElem?_append_left (by simpa using hlt)]
      simp [hu]
    rw [this]
    exact hru
  · obtain ⟨hex,l,l',S',T',q1,q2,q3,hz1,hSl,q4,q5,q6⟩:=hq
    obtain ⟨us,r1,r2⟩:∃ vs,(fn.results.toList.mapM (zm a.tmps)).run P z.w = .ok vs z.w ∧ RepBs z l vs:=by
      rcases q1 with q1|q1
      · exact uc hgz hr q1
      · obtain ⟨l0,q0,rfl⟩:=Option.map_eq_some_iff.1 q1
        obtain ⟨us,r1,r2⟩:=uc hgz hr q0
        exact ⟨us,r1,ue r2⟩
    obtain ⟨Tr,hT⟩:=q4
    have hTl:z.st.T.length = T'.length + Tr.length:=by rw [← hT,List.length_append]
    have hTg:∀ t,t < T'.length → T'[t]? = z.st.T[t]?:=fun t ht=>by rw [← hT,List.getElem?_append_left ht]
    let z':Full:=⟨⟨S',T',z.st.M⟩,z.pb,z.pt,z.pm,z.F,z.w⟩
    have hless:Less z z':=⟨rfl,rfl,rfl,rfl,rfl,rfl,hTg⟩
    have hstep:Step Wr Wm x z':=by
      refine ⟨hs.os,hs.tape,hs.output,hs.size,hs.frame,hs.keep,hSl,hs.ids,fun i h1 h2=>?_,hs.mlen,hs.mids,hs.mfresh,fun t k ht=>?_,fun t b h1 h2 h3=>hs.tfresh t b h1 ?_ h3,hs.fro⟩
      · exact hs.fresh i h1 (Nat.lt_of_lt_of_le h2 hz1)
      · obtain ⟨k',g1,g2⟩:=hs.tags t k ht
        have:=(List.getElem?_eq_some_iff.1 ht).1
        exact ⟨k',(hTg t (by omega)).trans g1,g2⟩
      · have:t < T'.length:=h2
        omega
    have hgood:Good z':=by
      constructor
      · intro id cs ty hid
        have hz:id < z.st.S.length:=Nat.lt_of_lt_of_le (List.getElem?_eq_some_iff.1 hid).1 hz1
        obtain ⟨us0,_,_,hF⟩:=hgz.box id _ _ (List.getElem?_eq_getElem hz)
        rcases q3 id cs ty hid with ⟨hid',h1,h2⟩|⟨cs0,h1,h2⟩
        · obtain ⟨us1,k1,k2,_⟩:=hg.box id cs ty h2
          have hsame:=(hs.same hg).box id hid' h1
          refine ⟨us1,?_,k2.mono hstep,hF⟩
          show z.w.heap[z.pb id]? = _
          rw [hs.ids id hid',hsame]
          exact k1
        · obtain ⟨us1,k1,k2,_⟩:=hgz.box id cs0 ty h1
          refine ⟨us1,k1,pp hless ?_ k2,hF⟩
          exact h2
      · intro i j hi hj e
        exact hgz.inj i j (Nat.lt_of_lt_of_le hi hz1) (Nat.lt_of_lt_of_le hj hz1) e
      · intro t k b ht hpt
        have htl:=(List.getElem?_eq_some_iff.1 ht).1
        obtain ⟨k1,k2,k3,k4⟩:=hgz.tag t k b ((hTg t htl).symm.trans ht) hpt
        exact ⟨k1,k2,fun i hi=>k3 i (Nat.lt_of_lt_of_le hi hz1),fun u hu he=>k4 u (by have:u < T'.length:=hu;omega) he⟩
      · intro id es hid
        exact (hgz.map id es hid).le rfl hless.le
      · exact hgz.mapinj
      · exact fun t b i ht hb hi=>hgz.tmap t b i (by have:t < T'.length:=ht;omega) hb hi
      · exact fun i hi=>⟨(hgz.mp i hi).1,fun j hj=>(hgz.mp i hi).2 j (Nat.lt_of_lt_of_le hj hz1)⟩
    have hres:RepBs z' l' us:=pp hless q2 r2
    have hret:(results fn a.tmps).run P z.w = .ok (if h:us.length = 1 then us[0] else .tuple us.toArray) z.w:=by
      rw [zn,Array.mapM_eq_mapM_toList]
      simp only [Sem.run_bind,map_eq_pure_bind,Sem.run_pure,r1]
      simp
    have hrep:RepB z' (jb5 l') (if h:us.length = 1 then us[0] else .tuple us.toArray):=by
      have hlen:=hres.length
      unfold jb5
      split
      · rename_i b
        cases hres with
        | cons _ v _ vs' h1 h2 =>
          cases h2
          simpa using h1
      · rename_i hne
        split
        · rename_i h1
          exfalso
          rw [h1] at hlen
          match l',hlen,hne with
          | [b],_,hne=>exact hne b rfl
        · exact .tup _ _ hres
    have hfin:bodyPost P fn (fun e w'=>∃ r v z,e = .returned v ∧ Q r z.st ∧ RepB z r v ∧ Good z ∧ Step Wr Wm x z ∧ z.w = w') .ret a z.w:=⟨hr.defers,_,hret,_,_,z',rfl,q6,hrep,hgood,hstep,rfl⟩
    rcases hex with rfl|rfl
    · exact hfin
    · exact hfin
theorem jcr {P:Program} {f:Nat} {fn:Func} {c:Code} {args:List BV} {S:List (List BV × Nat)} {T:List Nat} {M:List (List (Value × DV))} {Q:BV → St → Prop} (Wr Wm:List Nat) (hf:P.funcs[f]? = some fn) (hb:fn.body = some c) {nt:Nat} (hn:fn.ntmps = nt) {rs:Array ResultVar} (hr:fn.results = rs)
    (h:Tri ⟨P,nt,Wr,Wm,S.length,M.length⟩ c (zo args) ⟨S ++ [],T ++ [],M⟩ (jhl P rs.toList Wr ⟨S,T,M⟩ Q)):ci P Wr Wm f args ⟨S,T,M⟩ Q:=by
  subst hn hr
  rw [List.append_nil,List.append_nil] at h
  exact jej Wr Wm hf hb fun x a hx hg hr K hK=>h x x a (by rw [hx]) (by rw [hx]) (Step.refl _ _ _) hx hg hr K hK
end Go.Proofs.YtinffhimfoicdaaGreat.Calc
namespace Go.Proofs.YtinffhimfoicdaaGreat.Calc
open Go Go.RowKit
set_option linter.unusedVariables false
section
variable {P:Program} {ok okm:Nat → Bool} {o:Oper} {ρ:Rg} {st:St} {Q:Rg → St → Prop} {t:Nat} {k e:TypeId} {x i v:Operand}
theorem jmw (ho:o.op = .makeMap t none) (hq:Q (ke ρ o.dst (.d (.map st.M.length))) ⟨st.S,st.T,st.M ++ [[]]⟩):OpR P ok okm o ρ st Q:=by
  intro nt y a Kx h1 h2 h3 h4
  subst h1
  have hgr:=k9 y.w (.map #[] 0)
  have hrun:(execOp a.eval o).run P y.w = .ok (.value (.map (some y.w.heap.size))) (y.w.alloc (.map #[] 0)):=by
    obtain ⟨dst,op,type,pos,after,guard⟩:=o
    subst ho
    have hm:(Instr.makeMap t none).run P y.w = .ok (.map (some y.w.heap.size)) (y.w.alloc (.map #[] 0)):=rfl
    simp [execOp,hm]
  unfold Oper.wp
  rw [hrun]
  refine ⟨_,jy y _,[],[],rfl,hq,jeh h2 hgr,rp h2 hgr,by simp,by simp,(h3.step (rp h2 hgr)).put h4 (.d _ _ ?_)⟩
  have:=RepD.map (x:=jy y (y.w.alloc (.map #[] 0))) y.st.M.length (by simp [jy])
  simpa [jy] using this
theorem jn8 {id:Nat} {es:List (Value × DV)} {kv:Value} {d:DV} (ho:o.op = .mapUpdate t x i v) (hm:P.underlying t = some (.map k e)) (K:WideMaps.KeyLaw P k) (hx:evB ρ x = some (.d (.map id)))
    (hi:(evB ρ i).bind jh6 = some kv) (hv:(evB ρ v).bind toD = some d) (hkv:jkp P k kv) (hM:st.M[id]? = some es) (hks:∀ p ∈ es,jkp P k p.1) (hok:okm id = true)
    (hN:(∀ p ∈ es,p.1 ≠ kv) → Q (ke ρ o.dst (.tup [])) ⟨st.S,st.T,st.M.set id (es ++ [(kv,d)])⟩) (hS:∀(j:Nat) (d0:DV),es[j]? = some (kv,d0) → Q (ke ρ o.dst (.tup [])) ⟨st.S,st.T,st.M.set id (es.set j (kv,d))⟩):OpR P ok okm o ρ st Q:=by
  intro nt y a Kx h1 h2 h3 h4
  subst h1
  obtain ⟨bi,hb1,hb2⟩:=Option.bind_eq_some_iff.1 hi
  have hik:=kw (h3.ev hb1) hb2
  obtain ⟨bv,hv1,hv2⟩:=Option.bind_eq_some_iff.1 hv
  have hvd:=jd5 hv2 (h3.ev hv1)
  have hrx:=h3.ev hx
  generalize hw:a.eval x = vx at hrx
  have hkv0:=hkv
  obtain ⟨⟨l,hl⟩,_⟩:=hkv0
  cases hrx with
  | d _ _ hd=>cases hd with
    | map _ hlt =>
      obtain ⟨vs,c,q1,q2,q3,q4⟩:=jf5 K h2 hM hks hkv
      unfold Oper.wp
      rcases q4 with ⟨q4,q5⟩|⟨j,en,d0,q4,q5,q6,q7,q8⟩
      · have hrun:(execOp a.eval o).run P y.w = .ok .skip { y.w with heap:=y.w.heap.setIfInBounds (y.pm id) (.map (vs.push ⟨kv,a.eval v,c⟩) (c + 1)) }:=by
          obtain ⟨dst,op,type,pos,after,guard⟩:=o
          subst ho
          simp only [execOp,hw,hik]
          simp [Instr.mapUpdate,run_underlying hm,MapKept.run_getObj_map q1,K.check y.w _ hl,q4,MapKept.run_setObj_map _ q1,Result.andThen]
        have htn:=ye (vs':=vs.push ⟨kv,a.eval v,c⟩) (c':=c + 1) q1
        have hstep:=rq (es:=es ++ [(kv,d)]) h2 hlt htn
        rw [hrun]
        refine ⟨_,gh y _ id _,[],[id],rfl,hN q5,yf h2 hlt htn (jat (k:=k) (P:=P) (fun p hp=>by rcases List.mem_append.1 hp with hp|hp;exact hks p hp;obtain rfl:=List.mem_singleton.1 hp;exact hkv)) (by simpa using q2) (fun i' e' k' y' he hk=>?_),hstep,by simp,by simpa using fun _=>hok,(h3.step hstep).putW h4⟩
        rw [Array.toList_push,List.getElem?_append] at he
        rw [List.getElem?_append] at hk
        split at he
        · rename_i hlt'
          rw [if_pos (by omega)] at hk
          exact q3 i' e' k' y' he hk
        · rename_i hlt'
          rw [if_neg (by omega)] at hk
          have h0:i' - vs.toList.length = 0:=by
            have:=(List.getElem?_eq_some_iff.1 he).1
            simp at this
            omega
          rw [h0] at he
          rw [← q2,h0] at hk
          simp only [List.getElem?_cons_zero,Option.some.injEq,Prod.mk.injEq] at he hk
          obtain ⟨rfl,rfl⟩:=hk
          subst he
          exact ⟨rfl,hvd⟩
      · have hj:vs[j]? = some en:=by simpa using q5
        have hrun:(execOp a.eval o).run P y.w = .ok .skip { y.w with heap:=y.w.heap.setIfInBounds (y.pm id) (.map (vs.modify j fun e=>{ e with key:=kv,val:=a.eval v }) c) }:=by
          obtain ⟨dst,op,type,pos,after,guard⟩:=o
          subst ho
          simp only [execOp,hw,hik]
          simp [Instr.mapUpdate,run_underlying hm,MapKept.run_getObj_map q1,K.check y.w _ hl,q4,hj,q6,K.stays y.w hl,MapKept.run_setObj_map _ q1,Result.andThen]
        have htn:=ye (vs':=vs.modify j fun e=>{ e with key:=kv,val:=a.eval v }) (c':=c) q1
        have hstep:=rq (es:=es.set j (kv,d)) h2 hlt htn
        rw [hrun]
        refine ⟨_,gh y _ id _,[],[id],rfl,hS j d0 q7,yf h2 hlt htn (jat (k:=k) (P:=P) (fun p hp=>by rcases List.mem_or_eq_of_mem_set hp with hp|rfl;exact hks p hp;exact hkv)) (by simpa using q2) (fun i' e' k' y' he hk=>?_),hstep,by simp,by simpa using fun _=>hok,(h3.step hstep).putW h4⟩
        rw [Array.toList_modify,List.getElem?_modify] at he
        rw [List.getElem?_set] at hk
        by_cases hij:j = i'
        · subst hij
          rw [q5] at he
          have hjl:j < es.length:=(List.getElem?_eq_some_iff.1 q7).1
          simp [hjl] at he hk
          obtain ⟨rfl,rfl⟩:=hk
          subst he
          exact ⟨rfl,hvd⟩
        · rw [if_neg hij] at hk
          obtain ⟨e0,he0,rfl⟩:=Option.map_eq_some_iff.1 he
          rw [if_neg hij]
          exact q3 i' e0 k' y' he0 hk
end
end Go.Proofs.YtinffhimfoicdaaGreat.Calc
namespace Go.Proofs.YtinffhimfoicdaaGreat
open Go Go.RowKit Go.Proofs.YtinffhimfoicdaaGreat.Calc
set_option linter.unusedVariables false
set_option linter.unusedSimpArgs false
set_option maxRecDepth 100000
theorem jn9:Tryz.prog.underlying 70 = some (.map 44 39):=by kernel_rfl
theorem K44:WideMaps.KeyLaw Tryz.prog 44:=deep_law (m:=2) (by decide) (by kernel_rfl) (by kernel_rfl) (by kernel_rfl)
structure Tg where
  own:ByteArray
  nth:Int
def pq (k:Tg):Value:=.agg #[.string k.own,.int .i64 k.nth]
def okT (k:Tg):Prop:=k.own.size ≤ maxLen ∧(Lit.int .i64 k.nth).wf = true
theorem zu {k:Tg} (h:okT k):jkp Tryz.prog 44 (pq k):=by
  have hp:∃ f0 f1:Field,Tryz.prog.underlying 44 = some (.struct #[f0,f1]) ∧ f0.type = 9 ∧ f1.type = 3 ∧ f0.offset = 0 ∧ f1.offset = 1 ∧(f0.name != "_") = true ∧(f1.name != "_") = true:=by
    refine ⟨_,_,(show Tryz.prog.underlying 44 = some (.struct #[{ name := "Own",type:=9,offset:=0,embedded:=false,tag := "",pkgPath := "",byteOffset:=0 },{ name := "Nth",type:=3,offset:=1,embedded:=false,tag := "",pkgPath := "",byteOffset:=16 }]) by kernel_rfl),rfl,rfl,rfl,rfl,by decide,by decide⟩
  obtain ⟨f0,f1,hu,a1,a2,a3,a4,a5,a6⟩:=hp
  have hkt:Tryz.prog.keyType 44 = true:=by kernel_rfl
  have hc44:Tryz.prog.cellsOf 44 = 2:=by kernel_rfl
  have hc9:Tryz.prog.cellsOf 9 = 1:=by kernel_rfl
  have hc3:Tryz.prog.cellsOf 3 = 1:=by kernel_rfl
  have hu9:Tryz.prog.underlying 9 = some .string:=by kernel_rfl
  have hu3:Tryz.prog.underlying 3 = some (.int .i64):=by kernel_rfl
  obtain ⟨m,hm⟩:∃ m,Tryz.prog.types.size = m + 1:=⟨_,(by kernel_rfl:Tryz.prog.types.size = 228 + 1)⟩
  have hf:Value.formed Tryz.prog 44 (pq k) = true:=by simp [pq,Value.formed,hu,hc44]
  refine ⟨⟨.string (keyBytes [.string k.own.data.toList,.int .i64 k.nth]),?_⟩,rfl⟩
  unfold keyOf
  simp only [hu]
  rw [if_pos (by rw [hkt,hf];rfl),hm]
  unfold Program.keyLits
  simp only [hu,pq,Value.cells]
  rw [if_pos (by rw [hc44];simp [a5,a6])]
  simp [Program.keyLits,a1,a2,a3,a4,hu9,hu3,hc9,hc3,h.1,h.2]
end Go.Proofs.YtinffhimfoicdaaGreat
namespace Go.Proofs.YtinffhimfoicdaaGreat
open Go Go.RowKit Go.Proofs.YtinffhimfoicdaaGreat.Calc
set_option linter.unusedVariables false
set_option linter.unusedSimpArgs false
set_option maxRecDepth 100000
deriving instance DecidableEq for Tg
structure Vl where
  kind:Int
  n:Int
  s:ByteArray
  deriving DecidableEq
def jii (v:Vl):DV:=.agg [.flat (.int .i64 v.kind),.flat (.int .i32 v.n),.flat (.string v.s)]
def vVl (v:Vl):BV:=.agg [.d (.flat (.int .i64 v.kind)),.d (.flat (.int .i32 v.n)),.d (.flat (.string v.s))]
def vl0:Vl:=⟨0,0,⟨#[]⟩⟩
abbrev Tbl:=List (Tg × Vl)
def jd (tbl:Tbl):List (Value × DV):=tbl.map fun p=>(pq p.1,jii p.2)
def OKM (tbl:Tbl):Prop:=(tbl.map Prod.fst).Nodup ∧ ∀ p ∈ tbl,okT p.1
def mc (tbl:Tbl) (k:Tg):Option Vl:=match tbl with
  | []=>none
  |(k',v) :: l=>if k' = k then some v else mc l k
def pk (tbl:Tbl) (k:Tg) (v:Vl):Tbl:=match tbl with
  | []=>[(k,v)]
  |(k',v') :: l=>if k' = k then (k,v) :: l else (k',v') :: pk l k v
theorem sw {a b:Tg} (h:pq a = pq b):a = b:=by
  obtain ⟨o,n⟩:=a
  obtain ⟨o',n'⟩:=b
  simp only [pq,Value.agg.injEq,Array.mk.injEq,List.cons.injEq,Value.string.injEq,Value.int.injEq,true_and,and_true] at h
  rw [h.1,h.2]
theorem jcs {k:Tg}:∀ {tbl:Tbl},(∀ p ∈ jd tbl,p.1 ≠ pq k) → mc tbl k = none
  | [],_=>rfl
  |(k',v) :: l,h=>by
    rw [mc,if_neg (fun e=>h (pq k',jii v) (by simp [jd]) (by rw [e]))]
    exact jcs fun p hp=>h p (by simp only [jd,List.map_cons,List.mem_cons];exact .inr hp)
theorem jij {k:Tg}:∀ {tbl:Tbl} {j:Nat} {d:DV},(tbl.map Prod.fst).Nodup →(jd tbl)[j]? = some (pq k,d) → ∃ v,mc tbl k = some v ∧ d = jii v
  | [],j,d,_,h=>by simp [jd] at h
  |(k',v) :: l,0,d,hn,h=>by
    simp only [jd,List.map_cons,List.getElem?_cons_zero,Option.some.injEq,Prod.mk.injEq] at h
    exact ⟨v,by rw [mc,if_pos (sw h.1)],h.2.symm⟩
  |(k',v) :: l,j + 1,d,hn,h=>by
    have h':(jd l)[j]? = some (pq k,d):=by simpa [jd] using h
    rw [List.map_cons,List.nodup_cons] at hn
    obtain ⟨v',h1,h2⟩:=jij hn.2 h'
    refine ⟨v',?_,h2⟩
    rw [mc,if_neg (fun e=>?_),h1]
    apply hn.1
    have hm:=List.mem_of_getElem? h'
    obtain ⟨p,hp,he⟩:=List.mem_map.1 hm
    have:p.1 = k:=sw (by simpa using congrArg Prod.fst he)
    exact List.mem_map.2 ⟨p,hp,by rw [this];exact e.symm⟩
theorem jct {k:Tg} {v:Vl}:∀ {tbl:Tbl},(∀ p ∈ jd tbl,p.1 ≠ pq k) → jd tbl ++ [(pq k,jii v)] = jd (pk tbl k v)
  | [],_=>rfl
  |(k',v') :: l,h=>by
    rw [pk,if_neg (fun e=>h (pq k',jii v') (by simp [jd]) (by rw [e]))]
    have ih:=jct (k:=k) (v:=v) (tbl:=l) fun p hp=>h p (by simp only [jd,List.map_cons,List.mem_cons];exact .inr hp)
    show (pq k',jii v') ::(jd l ++ _) =(pq k',jii v') :: jd (pk l k v)
    rw [ih]
theorem jik {k:Tg} {v:Vl}:∀ {tbl:Tbl} {j:Nat} {d:DV},(tbl.map Prod.fst).Nodup →(jd tbl)[j]? = some (pq k,d) →(jd tbl).set j (pq k,jii v) = jd (pk tbl k v)
  | [],j,d,_,h=>by simp [jd] at h
  |(k',v') :: l,0,d,hn,h=>by
    simp only [jd,List.map_cons,List.getElem?_cons_zero,Option.some.injEq,Prod.mk.injEq] at h
    rw [pk,if_pos (sw h.1)]
    rfl
  |(k',v') :: l,j + 1,d,hn,h=>by
    have h':(jd l)[j]? = some (pq k,d):=by simpa [jd] using h
    rw [List.map_cons,List.nodup_cons] at hn
    have ih:=jik (v:=v) hn.2 h'
    rw [pk,if_neg (fun e=>?_)]
    · show (pq k',jii v') ::(jd l).set j _ =(pq k',jii v') :: jd (pk l k v)
      rw [ih]
    · apply hn.1
      have hm:=List.mem_of_getElem? h'
      obtain ⟨p,hp,he⟩:=List.mem_map.1 hm
      have:p.1 = k:=sw (by simpa using congrArg Prod.fst he)
      exact List.mem_map.2 ⟨p,hp,by rw [this];exact e.symm⟩
theorem OKM.keys {tbl:Tbl} (h:OKM tbl):∀ p ∈ jd tbl,jkp Tryz.prog 44 p.1:=fun p hp=>by
  obtain ⟨q,hq,rfl⟩:=List.mem_map.1 hp
  exact zu (h.2 q hq)
theorem jau {k:Tg} {v:Vl}:∀ {tbl:Tbl} {p:Tg × Vl},p ∈ pk tbl k v → p =(k,v) ∨ p ∈ tbl
  | [],p,h=>by
    rw [pk,List.mem_singleton] at h
    exact .inl h
  |(k',v') :: l,p,h=>by
    rw [pk] at h
    split at h
    · rcases List.mem_cons.1 h with h|h
      · exact .inl h
      · exact .inr (List.mem_cons_of_mem _ h)
    · rcases List.mem_cons.1 h with h|h
      · exact .inr (h ▸ List.mem_cons_self)
      · rcases jau h with h|h
        · exact .inl h
        · exact .inr (List.mem_cons_of_mem _ h)
theorem OKM.put {tbl:Tbl} (h:OKM tbl) {k:Tg} (hk:okT k) (v:Vl):OKM (pk tbl k v):=by
  refine ⟨?_,fun p hp=>?_⟩
  · obtain ⟨h1,h2⟩:=h
    clear h2
    induction tbl with
    | nil=>simp [pk]
    | cons p l ih =>
      obtain ⟨k',v'⟩:=p
      rw [List.map_cons,List.nodup_cons] at h1
      rw [pk]
      split
      · rename_i e
        subst e
        rw [List.map_cons,List.nodup_cons]
        exact h1
      · rename_i e
        rw [List.map_cons,List.nodup_cons]
        refine ⟨fun hm=>?_,ih h1.2⟩
        obtain ⟨q,hq,he⟩:=List.mem_map.1 hm
        rcases jau hq with h|h
        · rw [h] at he
          exact e he.symm
        · exact h1.1 (List.mem_map.2 ⟨q,h,he⟩)
  · rcases jau hp with h' | h'
    · rw [h']
      exact hk
    · exact h.2 p h'
theorem OKM.nil:OKM []:=⟨List.nodup_nil,fun p hp=>by cases hp⟩
theorem qx {k k':Tg} {v:Vl}:∀ {tbl:Tbl},mc (pk tbl k v) k' = if k = k' then some v else mc tbl k'
  | []=>rfl
  |(a,b) :: l=>by
    rw [pk]
    split
    · rename_i e
      subst e
      rw [mc,mc]
      split <;> rfl
    · rename_i e
      rw [mc,mc,qx]
      split
      · rename_i e1
        subst e1
        rw [if_neg (fun h=>e h.symm)]
      · rfl
section
variable {okm ok:Nat → Bool} {o:Oper} {ρ:Rg} {st:St} {Q:Rg → St → Prop} {x i v:Operand} {b:Bool}
theorem yg {id:Nat} {tbl:Tbl} {k:Tg} (ho:o.op = .lookup 70 x i b) (hx:evB ρ x = some (.d (.map id))) (hi:(evB ρ i).bind jh6 = some (pq k)) (hk:okT k) (hM:st.M[id]? = some (jd tbl)) (hO:OKM tbl)
    (hq:Q (ke ρ o.dst (lkB b (vVl ((mc tbl k).getD vl0)) (mc tbl k).isSome)) st):OpR Tryz.prog ok okm o ρ st Q:=by
  refine jla ho jn9 K44 (z:=[.d (.flat (.int .i64 0)),.d (.flat (.int .i32 0)),.d (.flat (.string ⟨#[]⟩))]) (sz:=3) (tyT rfl) hx hi (zu hk) hM hO.keys (fun hn=>?_) (fun j d hj=>?_)
  · rw [jcs hn] at hq
    exact hq
  · obtain ⟨v,h1,rfl⟩:=jij hO.1 hj
    rw [h1] at hq
    exact hq
theorem jav {id:Nat} {tbl:Tbl} {k:Tg} {w:Vl} (ho:o.op = .mapUpdate 70 x i v) (hx:evB ρ x = some (.d (.map id))) (hi:(evB ρ i).bind jh6 = some (pq k)) (hv:(evB ρ v).bind toD = some (jii w)) (hk:okT k) (hM:st.M[id]? = some (jd tbl)) (hO:OKM tbl) (hok:okm id = true)
    (hq:Q (ke ρ o.dst (.tup [])) ⟨st.S,st.T,st.M.set id (jd (pk tbl k w))⟩):OpR Tryz.prog ok okm o ρ st Q:=by
  refine jn8 ho jn9 K44 hx hi hv (zu hk) hM hO.keys hok (fun hn=>?_) (fun j d hj=>?_)
  · rw [jct hn]
    exact hq
  · rw [jik hO.1 hj]
    exact hq
end
end Go.Proofs.YtinffhimfoicdaaGreat
namespace Go.Proofs.YtinffhimfoicdaaGreat
open Go Go.RowKit Go.Proofs.YtinffhimfoicdaaGreat.Calc
set_option linter.unusedVariables false
set_option linter.unusedSimpArgs false
set_option maxRecDepth 100000
set_option maxHeartbeats 8000000
section
variable {P:Program} {st:St} {ρ:Rg} {x:Operand} {t e ty:Nat}
theorem jf6 {id off:Nat} (hu:P.underlying t = some (.pointer e)) (hx:evB ρ x = some (.ptr id off)):bn P st ρ (.binOp .eql t x (.const (.pointer none)) ty) = some (vB false):=by
  have hf:fl ρ x = none:=by simp only [fl,hx];rfl
  simp only [bn,hf,jsv,hu,hx]
  rfl
theorem jum {id off:Nat} (hu:P.underlying t = some (.pointer e)) (hx:evB ρ x = some (.ptr id off)):bn P st ρ (.binOp .neq t x (.const (.pointer none)) ty) = some (vB true):=by
  have hf:fl ρ x = none:=by simp only [fl,hx];rfl
  simp only [bn,hf,jsv,hu,hx]
  rfl
theorem kn {s d:Nat} {u:TypeDesc} {n:Int} (hx:fl ρ x = some (.int .i32 n)) (hs:P.underlying s = some u) (hd:P.underlying d = some (.int .i64)) (h:-2147483648 ≤ n ∧ n ≤ 2147483647):bn P st ρ (.convert s d x) = some (vI n):=by
  rw [kt hx hs hd,IntWalk.i64_in _ (by omega)]
theorem jf7 {s d:Nat} {u:TypeDesc} {n:Int} (hx:fl ρ x = some (.int .i64 n)) (hs:P.underlying s = some u) (hd:P.underlying d = some (.int .i32)) (h:-2147483648 ≤ n ∧ n ≤ 2147483647):bn P st ρ (.convert s d x) = some (.d (.flat (.int .i32 n))):=by
  rw [kt hx hs hd,IntWalk.i32_in _ (by omega)]
theorem ni {y:Operand} {a b c:Int} (hx:fl ρ x = some (.int .i32 a)) (hy:fl ρ y = some (.int .i32 b)) (hc:a - b = c) (h:-2147483648 ≤ c ∧ c ≤ 2147483647):bn P st ρ (.binOp .sub t x y ty) = some (.d (.flat (.int .i32 c))):=by
  subst hc
  rw [rc hx hy,IntWalk.i32_in _ h]
end
attribute [local irreducible] Tri ew er ci bn db d7 inQ jb
def INT:ByteArray:=⟨#[105,110,116]⟩
def BOO:ByteArray:=⟨#[98,111,111,108,101,97,110]⟩
def STR:ByteArray:=⟨#[83,116,114,105,110,103]⟩
def jv (t:ByteArray):Vl:=if t = INT then ⟨1,0,⟨#[]⟩⟩ else if t = BOO then ⟨2,0,⟨#[]⟩⟩ else if t = STR then ⟨3,0,⟨#[]⟩⟩ else ⟨4,0,⟨#[]⟩⟩
theorem qj:Tryz.prog.underlying 28 = some (.pointer 73):=by kernel_rfl
theorem joa:pi Tryz.prog 70 = some ((false,1,[.d (.flat (.map none))])):=by kernel_rfl
theorem js1 (t:ByteArray):PC 20 [vS t] (fun r=>r = vVl (jv t)):=by
  intro S T M
  refine am [] [] Tryz.func20 rfl Tryz.ntmps20 Tryz.results20 ?_
  unfold jv
  by_cases h1:t = INT
  · subst h1
    repeat' (first|apply ab|(apply V;rfl;(first|(apply bl;rfl)|(apply bg;rfl)|(apply ed;(apply plT;rfl);rfl)))|(apply Vd;rfl;(apply du;rfl;rfl);all_goals intro h_)|(apply Vw;rfl;(apply cd;rfl;(apply tyT;rfl)))|(apply Vs;rfl;(apply bw;rfl;(apply tyT;rfl);rfl;rfl;rfl;(first|apply bc|(apply bh;omega));rfl;rfl;(first|decide|(apply Nat.le_of_ble_eq_true;rfl))))|(apply ac;rfl)|apply ak|apply aj|apply ah|apply ai|(apply ae;rfl)|(apply af;rfl)|(apply bf _ (.inr rfl);(exact List.prefix_append _ _);(focus repeat (first|apply a8|(apply cp;rfl;rfl;apply tyT;rfl;rfl;rfl)));rfl)|apply ap|apply cq|apply dm|apply aw)
    all_goals first|rfl|contradiction
  by_cases h2:t = BOO
  · subst h2
    repeat' (first|apply ab|(apply V;rfl;(first|(apply bl;rfl)|(apply bg;rfl)|(apply ed;(apply plT;rfl);rfl)))|(apply Vd;rfl;(apply du;rfl;rfl);all_goals intro h_)|(apply Vw;rfl;(apply cd;rfl;(apply tyT;rfl)))|(apply Vs;rfl;(apply bw;rfl;(apply tyT;rfl);rfl;rfl;rfl;(first|apply bc|(apply bh;omega));rfl;rfl;(first|decide|(apply Nat.le_of_ble_eq_true;rfl))))|(apply ac;rfl)|apply ak|apply aj|apply ah|apply ai|(apply ae;rfl)|(apply af;rfl)|(apply bf _ (.inr rfl);(exact List.prefix_append _ _);(focus repeat (first|apply a8|(apply cp;rfl;rfl;apply tyT;rfl;rfl;rfl)));rfl)|apply ap|apply cq|apply dm|apply aw)
    all_goals first|rfl|contradiction
  by_cases h3:t = STR
  · subst h3
    repeat' (first|apply ab|(apply V;rfl;(first|(apply bl;rfl)|(apply bg;rfl)|(apply ed;(apply plT;rfl);rfl)))|(apply Vd;rfl;(apply du;rfl;rfl);all_goals intro h_)|(apply Vw;rfl;(apply cd;rfl;(apply tyT;rfl)))|(apply Vs;rfl;(apply bw;rfl;(apply tyT;rfl);rfl;rfl;rfl;(first|apply bc|(apply bh;omega));rfl;rfl;(first|decide|(apply Nat.le_of_ble_eq_true;rfl))))|(apply ac;rfl)|apply ak|apply aj|apply ah|apply ai|(apply ae;rfl)|(apply af;rfl)|(apply bf _ (.inr rfl);(exact List.prefix_append _ _);(focus repeat (first|apply a8|(apply cp;rfl;rfl;apply tyT;rfl;rfl;rfl)));rfl)|apply ap|apply cq|apply dm|apply aw)
    all_goals first|rfl|contradiction
  rw [if_neg h1,if_neg h2,if_neg h3]
  repeat' (first|apply ab|(apply V;rfl;(first|(apply bl;rfl)|(apply bg;rfl)|(apply ed;(apply plT;rfl);rfl)))|(apply Vd;rfl;(apply du;rfl;rfl);all_goals intro h_)|(apply Vw;rfl;(apply cd;rfl;(apply tyT;rfl)))|(apply Vs;rfl;(apply bw;rfl;(apply tyT;rfl);rfl;rfl;rfl;(first|apply bc|(apply bh;omega));rfl;rfl;(first|decide|(apply Nat.le_of_ble_eq_true;rfl))))|(apply ac;rfl)|apply ak|apply aj|apply ah|apply ai|(apply ae;rfl)|(apply af;rfl)|(apply bf _ (.inr rfl);(exact List.prefix_append _ _);(focus repeat (first|apply a8|(apply cp;rfl;rfl;apply tyT;rfl;rfl;rfl)));rfl)|apply ap|apply cq|apply dm|apply aw)
  all_goals first|rfl|contradiction
def gx (o:ByteArray × Nat):List DV:=[.flat (.string o.1),.map o.2]
theorem jcu (o:ByteArray × Nat):(gx o).length = 2:=rfl
abbrev HC (p:List Cl) (ob:BV) (sid f:Nat) (args:Nat → List BV) (R:BV → Prop):Prop:=∀ S T M id,S[id]? = some ([.d (cy df p),ob,.d (.map sid)],73) → ci Tryz.prog [] [] f (args id) ⟨S,T,M⟩ (fun r s=>s = ⟨S,T,M⟩ ∧ R r)
theorem jw4 (p:List Cl) (tg sid:Nat) (l:List (ByteArray × Nat)):HC p (.own 79 2 tg (l.flatMap gx) l.length) sid 19 (fun id=>[.ptr id 0]) (fun r=>r = vI l.length):=by
  intro S T M id hid
  refine am [] [] Tryz.func19 rfl Tryz.ntmps19 Tryz.results19 ?_
  repeat' (first|apply ab|(apply V;rfl;(first|(apply bl;rfl)|(apply bg;rfl)|(apply cb;(apply plT;rfl);rfl;rfl;decide)|(apply bz;(apply tyT;rfl);rfl;(apply aa;assumption);rfl)|(apply bq;(apply elT;rfl);rfl;rfl)|(apply ck;rfl)|(apply jf6;exact qj;rfl)))|(apply ac;rfl)|apply ak|apply ah|apply ai|(apply af;rfl)|(apply bf _ (.inr rfl);(exact List.prefix_append _ _);(focus repeat (first|apply a8|(apply a9;rfl)));rfl)|apply ap)
  rfl
theorem jhm:jas Tryz.prog 79 = true:=by kernel_rfl
def jyf:BV:=.d (.flat .nilIface)
def vOb (o:ByteArray × Nat):BV:=.d (.iface 79 (.agg (gx o)))
def jhn (l:List (ByteArray × Nat)) (v:Vl):Option (ByteArray × Nat):=if v.kind = 4 then (if v.n < 1 then none else l[(v.n - 1).toNat]?) else none
def vOf (l:List (ByteArray × Nat)) (v:Vl):BV:=match jhn l v with
  | some o=>vOb o
  | none=>jyf
def okV (v:Vl):Prop:=-2147483648 ≤ v.n ∧ v.n ≤ 2147483647
theorem jw5 (p:List Cl) (tg sid:Nat) (l:List (ByteArray × Nat)) (v:Vl) (hv:okV v) (hl:l.length ≤ 1000):HC p (.own 79 2 tg (l.flatMap gx) l.length) sid 37 (fun id=>[.ptr id 0,vVl v]) (fun r=>r = vOf l v):=by
  obtain ⟨k,n,s⟩:=v
  unfold okV at hv
  dsimp only at hv
  intro S T M id hid
  dsimp only [vVl]
  refine am [] [] Tryz.func37 rfl Tryz.ntmps37 Tryz.results37 ?_
  unfold vOf jhn
  dsimp only
  by_cases h1:k = 4
  case neg =>
    rw [if_neg h1]
    repeat' (first|apply ab|(apply V;rfl;(first|(apply kn;rfl;apply udT;rfl;apply udT;rfl;omega)|(apply bl;rfl)|(apply bg;rfl)|(apply cb;(apply plT;rfl);rfl;rfl;decide)|(apply bz;(apply tyT;rfl);rfl;(first|(apply at_;rfl;rfl)|(apply aa;assumption));rfl)|(apply bq;(apply elT;rfl);rfl;rfl)|(apply ck;rfl)|(apply ca;rfl;rfl)|(apply bu;rfl;rfl)|(apply rc;rfl;rfl)|(apply jf6;exact qj;rfl)))|(apply bt (nt:=38) (.take 0 (.take 1 (.take 2 (.take 3 (.take 4 (.take 5 (.take 6 (.take 7 (.take 8 (.take 9 (.take 10 (.take 11 (.take 12 (.take 13 (.take 14 (.take 15 (.take 16 (.take 17 (.take 18 (.take 19 (.take 20 (.take 21 (.take 22 .nil))))))))))))))))))))))) [] [];exact co;rfl;decide +kernel)|(apply bt (nt:=38) (.take 0 (.take 1 (.take 2 (.take 3 (.take 4 (.take 5 (.take 6 (.take 7 (.take 8 (.take 9 (.take 10 .nil))))))))))) [] [];exact co;rfl;decide +kernel)|(apply Vw;rfl;(apply cj;rfl;rfl;rfl))|(apply ac;rfl)|apply ak|apply ah|apply ai|(apply ae;rfl)|(apply af;rfl)|(apply bf _ (.inr rfl);(exact List.prefix_append _ _);(focus repeat (first|apply a8|(apply a9;rfl)));rfl)|apply ap|apply aw|apply dg|(apply tV;rfl;rfl;(first|(apply kn;rfl;apply udT;rfl;apply udT;rfl;omega)|(apply bl;rfl)|(apply bg;rfl)|(apply cb;(apply plT;rfl);rfl;rfl;decide)|(apply bz;(apply tyT;rfl);rfl;(first|(apply at_;rfl;rfl)|(apply aa;assumption));rfl)|(apply bq;(apply elT;rfl);rfl;rfl)|(apply ck;rfl)|(apply ca;rfl;rfl)|(apply bu;rfl;rfl)|(apply rc;rfl;rfl)|(apply jf6;exact qj;rfl));rfl)|(apply tVd;rfl;rfl;(first|(apply cu;rfl;rfl)|(apply gj;rfl;rfl)|(apply fb;rfl;rfl));rfl;all_goals intro h_)|(apply tVo;rfl;rfl)|(show er _ _ _ _ _ _ _ _;exfalso;omega))
    all_goals first|rfl|(exfalso;omega)
  rw [if_pos h1]
  by_cases h2:n < 1
  · rw [if_pos h2]
    repeat' (first|apply ab|(apply V;rfl;(first|(apply kn;rfl;apply udT;rfl;apply udT;rfl;omega)|(apply bl;rfl)|(apply bg;rfl)|(apply cb;(apply plT;rfl);rfl;rfl;decide)|(apply bz;(apply tyT;rfl);rfl;(first|(apply at_;rfl;rfl)|(apply aa;assumption));rfl)|(apply bq;(apply elT;rfl);rfl;rfl)|(apply ck;rfl)|(apply ca;rfl;rfl)|(apply bu;rfl;rfl)|(apply rc;rfl;rfl)|(apply jf6;exact qj;rfl)))|(apply bt (nt:=38) (.take 0 (.take 1 (.take 2 (.take 3 (.take 4 (.take 5 (.take 6 (.take 7 (.take 8 (.take 9 (.take 10 (.take 11 (.take 12 (.take 13 (.take 14 (.take 15 (.take 16 (.take 17 (.take 18 (.take 19 (.take 20 (.take 21 (.take 22 .nil))))))))))))))))))))))) [] [];exact co;rfl;decide +kernel)|(apply bt (nt:=38) (.take 0 (.take 1 (.take 2 (.take 3 (.take 4 (.take 5 (.take 6 (.take 7 (.take 8 (.take 9 (.take 10 .nil))))))))))) [] [];exact co;rfl;decide +kernel)|(apply Vw;rfl;(apply cj;rfl;rfl;rfl))|(apply ac;rfl)|apply ak|apply ah|apply ai|(apply ae;rfl)|(apply af;rfl)|(apply bf _ (.inr rfl);(exact List.prefix_append _ _);(focus repeat (first|apply a8|(apply a9;rfl)));rfl)|apply ap|apply aw|apply dg|(apply tV;rfl;rfl;(first|(apply kn;rfl;apply udT;rfl;apply udT;rfl;omega)|(apply bl;rfl)|(apply bg;rfl)|(apply cb;(apply plT;rfl);rfl;rfl;decide)|(apply bz;(apply tyT;rfl);rfl;(first|(apply at_;rfl;rfl)|(apply aa;assumption));rfl)|(apply bq;(apply elT;rfl);rfl;rfl)|(apply ck;rfl)|(apply ca;rfl;rfl)|(apply bu;rfl;rfl)|(apply rc;rfl;rfl)|(apply jf6;exact qj;rfl));rfl)|(apply tVd;rfl;rfl;(first|(apply cu;rfl;rfl)|(apply gj;rfl;rfl)|(apply fb;rfl;rfl));rfl;all_goals intro h_)|(apply tVo;rfl;rfl)|(show er _ _ _ _ _ _ _ _;exfalso;omega))
    all_goals first|rfl|(exfalso;omega)
  rw [if_neg h2]
  by_cases h3:n ≤ l.length
  · obtain ⟨o,ho⟩:∃ o,l[(n - 1).toNat]? = some o:=⟨_,List.getElem?_eq_getElem (by omega)⟩
    rw [ho]
    repeat' (first|apply ab|(apply V;rfl;(first|(apply kn;rfl;apply udT;rfl;apply udT;rfl;omega)|(apply ni;rfl;rfl;rfl;omega)|(apply bl;rfl)|(apply bg;rfl)|(apply cb;(apply plT;rfl);rfl;rfl;decide)|(apply bz;(apply tyT;rfl);rfl;(first|(apply at_;rfl;rfl)|(apply aa;assumption));rfl)|(apply dp;(apply tyT;rfl);rfl;(first|rfl|apply ay|apply ba))|(apply bq;(apply elT;rfl);rfl;rfl)|(apply ck;rfl)|(apply ca;rfl;rfl)|(apply bu;rfl;rfl)|(apply jf6;exact qj;rfl)|(apply bp (c:=o);apply elT;rfl;rfl;rfl;rfl;exact jcu;omega;exact ho)|(apply js0;exact jhm;rfl)))|(apply bt (nt:=38) (.take 0 (.take 1 (.take 2 (.take 3 (.take 4 (.take 5 (.take 6 (.take 7 (.take 8 (.take 9 (.take 10 (.take 11 (.take 12 (.take 13 (.take 14 (.take 15 (.take 16 (.take 17 (.take 18 (.take 19 (.take 20 (.take 21 (.take 22 .nil))))))))))))))))))))))) [] [];exact co;rfl;decide +kernel)|(apply bt (nt:=38) (.take 0 (.take 1 (.take 2 (.take 3 (.take 4 (.take 5 (.take 6 (.take 7 (.take 8 (.take 9 (.take 10 .nil))))))))))) [] [];exact co;rfl;decide +kernel)|(apply Vw;rfl;(apply cj;rfl;rfl;rfl))|(apply ac;rfl)|apply ak|apply ah|apply ai|(apply ae;rfl)|(apply af;rfl)|(apply bf _ (.inr rfl);(exact List.prefix_append _ _);(focus repeat (first|apply a8|(apply a9;rfl)));rfl)|apply ap|apply aw|apply dg|(apply tV;rfl;rfl;(first|(apply kn;rfl;apply udT;rfl;apply udT;rfl;omega)|(apply ni;rfl;rfl;rfl;omega)|(apply bl;rfl)|(apply bg;rfl)|(apply cb;(apply plT;rfl);rfl;rfl;decide)|(apply bz;(apply tyT;rfl);rfl;(first|(apply at_;rfl;rfl)|(apply aa;assumption));rfl)|(apply dp;(apply tyT;rfl);rfl;(first|rfl|apply ay|apply ba))|(apply bq;(apply elT;rfl);rfl;rfl)|(apply ck;rfl)|(apply ca;rfl;rfl)|(apply bu;rfl;rfl)|(apply jf6;exact qj;rfl)|(apply bp (c:=o);apply elT;rfl;rfl;rfl;rfl;exact jcu;omega;exact ho)|(apply js0;exact jhm;rfl));rfl)|(apply tVd;rfl;rfl;(first|(apply cu;rfl;rfl)|(apply gj;rfl;rfl)|(apply fb;rfl;rfl));rfl;all_goals intro h_)|(apply tVo;rfl;rfl))
    all_goals first|rfl|(exfalso;omega)
  · rw [List.getElem?_eq_none (by omega)]
    repeat' (first|apply ab|(apply V;rfl;(first|(apply kn;rfl;apply udT;rfl;apply udT;rfl;omega)|(apply bl;rfl)|(apply bg;rfl)|(apply cb;(apply plT;rfl);rfl;rfl;decide)|(apply bz;(apply tyT;rfl);rfl;(first|(apply at_;rfl;rfl)|(apply aa;assumption));rfl)|(apply bq;(apply elT;rfl);rfl;rfl)|(apply ck;rfl)|(apply ca;rfl;rfl)|(apply bu;rfl;rfl)|(apply rc;rfl;rfl)|(apply jf6;exact qj;rfl)))|(apply bt (nt:=38) (.take 0 (.take 1 (.take 2 (.take 3 (.take 4 (.take 5 (.take 6 (.take 7 (.take 8 (.take 9 (.take 10 (.take 11 (.take 12 (.take 13 (.take 14 (.take 15 (.take 16 (.take 17 (.take 18 (.take 19 (.take 20 (.take 21 (.take 22 .nil))))))))))))))))))))))) [] [];exact co;rfl;decide +kernel)|(apply bt (nt:=38) (.take 0 (.take 1 (.take 2 (.take 3 (.take 4 (.take 5 (.take 6 (.take 7 (.take 8 (.take 9 (.take 10 .nil))))))))))) [] [];exact co;rfl;decide +kernel)|(apply Vw;rfl;(apply cj;rfl;rfl;rfl))|(apply ac;rfl)|apply ak|apply ah|apply ai|(apply ae;rfl)|(apply af;rfl)|(apply bf _ (.inr rfl);(exact List.prefix_append _ _);(focus repeat (first|apply a8|(apply a9;rfl)));rfl)|apply ap|apply aw|apply dg|(apply tV;rfl;rfl;(first|(apply kn;rfl;apply udT;rfl;apply udT;rfl;omega)|(apply bl;rfl)|(apply bg;rfl)|(apply cb;(apply plT;rfl);rfl;rfl;decide)|(apply bz;(apply tyT;rfl);rfl;(first|(apply at_;rfl;rfl)|(apply aa;assumption));rfl)|(apply bq;(apply elT;rfl);rfl;rfl)|(apply ck;rfl)|(apply ca;rfl;rfl)|(apply bu;rfl;rfl)|(apply rc;rfl;rfl)|(apply jf6;exact qj;rfl));rfl)|(apply tVd;rfl;rfl;(first|(apply cu;rfl;rfl)|(apply gj;rfl;rfl)|(apply fb;rfl;rfl));rfl;all_goals intro h_)|(apply tVo;rfl;rfl)|(show er _ _ _ _ _ _ _ _;exfalso;omega))
    all_goals first|rfl|(exfalso;omega)
def jp7 (l:List (ByteArray × Nat)) (v:Vl):ByteArray:=match jhn l v with
  | some o=>o.1
  | none=>⟨#[]⟩
theorem jw6 (p:List Cl) (tg sid:Nat) (l:List (ByteArray × Nat)) (v:Vl) (hv:okV v) (hl:l.length ≤ 1000):HC p (.own 79 2 tg (l.flatMap gx) l.length) sid 17 (fun id=>[.ptr id 0,vVl v]) (fun r=>r = vS (jp7 l v)):=by
  have h37:=jw5 p tg sid l v hv hl
  unfold vOf at h37
  unfold jp7
  intro S T M id hid
  refine am [] [] Tryz.func17 rfl Tryz.ntmps17 Tryz.results17 ?_
  rcases ho:jhn l v with _|o
  · rw [ho] at h37
    repeat' (first|apply ab|(apply V;rfl;(first|(apply bl;rfl)|(apply bg;rfl)|(apply bj;(apply tyT;rfl);rfl;(apply at_;rfl;rfl);rfl)|(apply eu;rfl;rfl)|(apply cg;rfl)|(apply jhk;exact jhm;apply tyT;rfl;rfl)))|(apply Vp;rfl;rfl;apply fnT;rfl;apply h37;(first|(apply aa;assumption)|assumption);rintro _ rfl)|(apply Vw;rfl;(first|(apply cd;rfl;(apply tyT;rfl))|(apply cj;rfl;rfl;rfl)))|(apply Vs;rfl;(apply bw;rfl;(apply tyT;rfl);rfl;rfl;rfl;(first|apply bc|(apply bh;omega));rfl;rfl;(first|decide|(apply Nat.le_of_ble_eq_true;rfl))))|(apply ac;rfl)|apply ak|apply ai|(apply ae;rfl)|(apply bf _ (.inr rfl);(exact List.prefix_append _ _);(focus repeat (first|apply a8|(apply a9;rfl)));rfl)|apply aw)
    all_goals first|rfl|contradiction
  · rw [ho] at h37
    repeat' (first|apply ab|(apply V;rfl;(first|(apply bl;rfl)|(apply bg;rfl)|(apply cb;(apply plT;rfl);rfl;rfl;decide)|(apply bj;(apply tyT;rfl);rfl;(apply at_;rfl;rfl);rfl)|(apply bz;(apply tyT;rfl);rfl;(apply at_;rfl;rfl);rfl)|(apply eu;rfl;rfl)|(apply cg;rfl)|(apply jeg;exact jhm;apply tyT;rfl;rfl)))|(apply Vp;rfl;rfl;apply fnT;rfl;apply h37;(first|(apply aa;assumption)|assumption);rintro _ rfl)|(apply Vw;rfl;(first|(apply cd;rfl;(apply tyT;rfl))|(apply cj;rfl;rfl;rfl)))|(apply Vs;rfl;(apply bw;rfl;(apply tyT;rfl);rfl;rfl;rfl;(first|apply bc|(apply bh;omega));rfl;rfl;(first|decide|(apply Nat.le_of_ble_eq_true;rfl))))|(apply ac;rfl)|apply ak|apply ah|apply ai|(apply af;rfl)|(apply bf _ (.inr rfl);(exact List.prefix_append _ _);(focus repeat (first|apply a8|(apply a9;rfl)));rfl)|apply ap)
    all_goals first|rfl|contradiction
def zw (sid:Nat) (l:List (ByteArray × Nat)) (v:Vl):Option Nat:=if v.kind = 0 then some sid else (jhn l v).map Prod.snd
def vMp:Option Nat → BV
  | some m=>.d (.map m)
  | none=>.d (.flat (.map none))
theorem js2 (p:List Cl) (tg sid:Nat) (l:List (ByteArray × Nat)) (v:Vl) (hv:okV v) (hl:l.length ≤ 1000):HC p (.own 79 2 tg (l.flatMap gx) l.length) sid 34 (fun id=>[.ptr id 0,vVl v]) (fun r=>r = vMp (zw sid l v)):=by
  have h37:=jw5 p tg sid l v hv hl
  unfold vOf at h37
  unfold zw
  obtain ⟨k,n,s⟩:=v
  dsimp only [vVl] at *
  intro S T M id hid
  refine am [] [] Tryz.func34 rfl Tryz.ntmps34 Tryz.results34 ?_
  by_cases h0:k = 0
  · rw [if_pos h0]
    repeat' (first|apply ab|(apply V;rfl;(first|(apply bl;rfl)|(apply bg;rfl)|(apply cb;(apply plT;rfl);rfl;rfl;decide)|(apply bj;(apply tyT;rfl);rfl;(apply at_;rfl;rfl);rfl)|(apply bz;(apply tyT;rfl);rfl;(apply at_;rfl;rfl);rfl)|(apply ck;rfl)|(apply ca;rfl;rfl)|(apply bz;exact joa;rfl;(first|(apply at_;rfl;rfl)|(apply aa;assumption)|(apply aq;assumption));rfl)|(apply jum;exact qj;rfl)))|(apply Vd;rfl;(apply dq;rfl;rfl);all_goals intro h_)|(apply Vw;rfl;(apply cj;rfl;rfl;rfl))|(apply ac;rfl)|apply ak|apply ah|apply ai|(apply ae;rfl)|(apply af;rfl)|(apply bf _ (.inr rfl);(exact List.prefix_append _ _);(focus repeat (first|apply a8|(apply a9;rfl)));rfl)|apply ap|apply aw)
    all_goals first|rfl|contradiction
  rw [if_neg h0]
  rcases ho:jhn l ⟨k,n,s⟩ with _|o
  · rw [ho] at h37
    repeat' (first|apply ab|(apply V;rfl;(first|(apply bl;rfl)|(apply bg;rfl)|(apply cb;(apply plT;rfl);rfl;rfl;decide)|(apply bj;(apply tyT;rfl);rfl;(apply at_;rfl;rfl);rfl)|(apply bz;(apply tyT;rfl);rfl;(apply at_;rfl;rfl);rfl)|(apply ck;rfl)|(apply ca;rfl;rfl)|(apply eu;rfl;rfl)|(apply bz;exact joa;rfl;(first|(apply at_;rfl;rfl)|(apply aa;assumption)|(apply aq;assumption));rfl)|(apply jum;exact qj;rfl)|(apply jhk;exact jhm;apply tyT;rfl;rfl)))|(apply Vp;rfl;rfl;apply fnT;rfl;apply h37;(first|(apply aa;assumption)|assumption);rintro _ rfl)|(apply Vd;rfl;(apply dq;rfl;rfl);all_goals intro h_)|(apply Vw;rfl;(first|(apply cd;rfl;(apply tyT;rfl))|(apply cj;rfl;rfl;rfl)))|(apply Vs;rfl;(apply bw;rfl;(apply tyT;rfl);rfl;rfl;rfl;(first|apply bc|(apply bh;omega));rfl;rfl;(first|decide|(apply Nat.le_of_ble_eq_true;rfl))))|(apply ac;rfl)|apply ak|apply ah|apply ai|(apply ae;rfl)|(apply af;rfl)|(apply bf _ (.inr rfl);(exact List.prefix_append _ _);(focus repeat (first|apply a8|(apply a9;rfl)));rfl)|apply ap|apply aw)
    all_goals first|rfl|contradiction
  · rw [ho] at h37
    repeat' (first|apply ab|(apply V;rfl;(first|(apply bl;rfl)|(apply bg;rfl)|(apply cb;(apply plT;rfl);rfl;rfl;decide)|(apply bj;(apply tyT;rfl);rfl;(apply at_;rfl;rfl);rfl)|(apply bz;(apply tyT;rfl);rfl;(apply at_;rfl;rfl);rfl)|(apply ck;rfl)|(apply ca;rfl;rfl)|(apply eu;rfl;rfl)|(apply bz;exact joa;rfl;(first|(apply at_;rfl;rfl)|(apply aa;assumption)|(apply aq;assumption));rfl)|(apply jum;exact qj;rfl)|(apply jeg;exact jhm;apply tyT;rfl;rfl)))|(apply Vp;rfl;rfl;apply fnT;rfl;apply h37;(first|(apply aa;assumption)|assumption);rintro _ rfl)|(apply Vd;rfl;(apply dq;rfl;rfl);all_goals intro h_)|(apply Vw;rfl;(first|(apply cd;rfl;(apply tyT;rfl))|(apply cj;rfl;rfl;rfl)))|(apply Vs;rfl;(apply bw;rfl;(apply tyT;rfl);rfl;rfl;rfl;(first|apply bc|(apply bh;omega));rfl;rfl;(first|decide|(apply Nat.le_of_ble_eq_true;rfl))))|(apply ac;rfl)|apply ak|apply ah|apply ai|(apply ae;rfl)|(apply af;rfl)|(apply bf _ (.inr rfl);(exact List.prefix_append _ _);(focus repeat (first|apply a8|(apply a9;rfl)));rfl)|apply ap|apply aw)
    all_goals first|rfl|contradiction
end Go.Proofs.YtinffhimfoicdaaGreat
namespace Go.Proofs.YtinffhimfoicdaaGreat
open Go Go.RowKit Go.Proofs.YtinffhimfoicdaaGreat.Calc
set_option linter.unusedVariables false
set_option linter.unusedSimpArgs false
set_option maxRecDepth 100000
set_option maxHeartbeats 8000000
section
variable {C:Cx} {ops:Array Oper} {l:List Oper} {ρ:Rg} {st:St} {Q:Rg → St → Prop} {dst:Option Nat} {op:Op} {ty:Nat} {pos:String} {aft:Array Edge} {g:Option (Nat × Bool)} {Wr ds:List Nat} {p:Plan} {i:Nat}
theorem VR (hg:gB ops ρ g = some true) (h:OpR C.P (okC C) (okM C) ⟨dst,op,ty,pos,aft,g⟩ ρ st (fun ρ st=>ew C ops l ρ st Q)):ew C ops (⟨dst,op,ty,pos,aft,g⟩ :: l) ρ st Q:=rk (.inl ⟨hg,h⟩)
theorem oR (ho:ops[i]? = some ⟨dst,op,ty,pos,aft,g⟩) (hg:gB ops ρ g = some true) (h:OpR C.P (okD C Wr ds i) (okM C) ⟨dst,op,ty,pos,aft,g⟩ ρ st (fun ρ st=>er C ops Wr ds p ρ st Q)):er C ops Wr ds (.one i p) ρ st Q:=⟨_,ho,.inl ⟨hg,h⟩⟩
end
theorem zc {P:Program} {rs:List ResultVar} {S S1:List (List BV × Nat)} {T T1:List Nat} {M M1:List (List (Value × DV))} {Q:BV → St → Prop} {ρ:Rg} {l l':List BV} (ex:AX) (hex:ex = .normal ∨ ex = .ret) (hT:T <+: T1) (h1:sh P ρ ⟨S1,T1,M1⟩ rs = some l) (h2:my S.length T.length (wks l) = some l') (h:Q (jb5 l') ⟨S,T,M1⟩) :
    jb P rs [] ⟨S,T,M⟩ Q ex ρ ⟨S1,T1,M1⟩:=⟨hex,wks l,l',S,T,.inr (by rw [h1];rfl),h2,rfl,hT,Nat.le_refl _,h⟩
theorem jil {P:Program} {nt nb nm m:Nat} {Wr:List Nat}:okM ⟨P,nt,Wr,[m],nb,nm⟩ m = true:=by simp [okM]
attribute [local irreducible] Tri ew er ci bn db d7 inQ jb
def vTg (k:Tg):BV:=.agg [vS k.own,vI k.nth]
theorem js3 (p:List Cl) (tg sid:Nat) (l:List (ByteArray × Nat)) (v:Vl) (hv:okV v) (hl:l.length ≤ 1000) (k:Tg) (hk:okT k) (m:Nat) (hm:zw sid l v = some m) (tbl:Tbl) (hO:OKM tbl) (S:List (List BV × Nat)) (T:List Nat) (M:List (List (Value × DV))) (id:Nat)
    (hid:S[id]? = some ([.d (cy df p),.own 79 2 tg (l.flatMap gx) l.length,.d (.map sid)],73)) (hM:M[m]? = some (jd tbl)) :
    ci Tryz.prog [] [] 15 [.ptr id 0,vVl v,vTg k] ⟨S,T,M⟩ (fun r s=>s = ⟨S,T,M⟩ ∧ r = vVl ((mc tbl k).getD vl0)):=by
  have h34:=js2 p tg sid l v hv hl
  rw [hm] at h34
  unfold vTg
  refine am [] [] Tryz.func15 rfl Tryz.ntmps15 Tryz.results15 ?_
  repeat' (first|apply ab|(apply bt (nt:=12) (.take 0 (.take 1 (.take 3 (.one 2 (.one 4 (.one 5 .nil)))))) [] [5];exact co;rfl;decide +kernel)|(apply oP;rfl;rfl;rfl;apply fnT;rfl;apply h34;(first|(apply aa;assumption)|assumption);rintro _ rfl)|(apply oR;rfl;rfl;apply yg (k:=k) (tbl:=tbl);rfl;rfl;rfl;exact hk;exact hM;exact hO)|(apply Vw;rfl;(first|(apply cd;rfl;(apply tyT;rfl))|(apply cj;rfl;rfl;rfl)))|(apply ac;rfl)|apply ai|(apply bf _ (.inr rfl);(exact List.prefix_append _ _);(focus repeat (first|apply a8|(apply cp;rfl;rfl;apply tyT;rfl;rfl;rfl)));rfl)|apply dg|(apply tV;rfl;rfl;(first|(apply bl;rfl)|(apply bj;(apply tyT;rfl);rfl;(apply at_;rfl;rfl);rfl));rfl)|(apply oS;rfl;rfl;(apply bw;rfl;(apply tyT;rfl);rfl;rfl;rfl;(first|(apply jl;rfl)|(apply mb;omega;rfl));rfl;rfl;(first|decide|(apply Nat.le_of_ble_eq_true;rfl)))))
  all_goals first|rfl|contradiction
theorem jqz (p:List Cl) (tg sid:Nat) (l:List (ByteArray × Nat)) (v:Vl) (hv:okV v) (hl:l.length ≤ 1000) (k:Tg) (hk:okT k) (w:Vl) (m:Nat) (hm:zw sid l v = some m) (tbl:Tbl) (hO:OKM tbl) (S:List (List BV × Nat)) (T:List Nat) (M:List (List (Value × DV))) (id:Nat)
    (hid:S[id]? = some ([.d (cy df p),.own 79 2 tg (l.flatMap gx) l.length,.d (.map sid)],73)) (hM:M[m]? = some (jd tbl)) :
    ci Tryz.prog [] [m] 13 [.ptr id 0,vVl v,vTg k,vVl w] ⟨S,T,M⟩ (fun r s=>r = vB (mc tbl k).isSome ∧ s = ⟨S,T,if (mc tbl k).isSome = true then M.set m (jd (pk tbl k w)) else M⟩):=by
  have h34:=js2 p tg sid l v hv hl
  rw [hm] at h34
  unfold vTg
  cases hg:(mc tbl k).isSome
  · refine am [] [m] Tryz.func13 rfl Tryz.ntmps13 Tryz.results13 ?_
    repeat' (first|apply ab|(apply V;rfl;(first|(apply bl;rfl)|(apply bg;rfl)|(apply bj;(apply tyT;rfl);rfl;(apply at_;rfl;rfl);rfl)|(apply eu;rfl;rfl)|(apply cg;rfl)))|(apply Vp;rfl;rfl;apply fnT;rfl;apply h34;(first|(apply aa;assumption)|assumption);rintro _ rfl)|(apply VR;rfl;apply yg (k:=k) (tbl:=tbl);rfl;rfl;rfl;exact hk;exact hM;exact hO;rw [hg])|(apply Vw;rfl;(first|(apply cd;rfl;(apply tyT;rfl))|(apply cj;rfl;rfl;rfl)))|(apply Vs;rfl;(apply bw;rfl;(apply tyT;rfl);rfl;rfl;rfl;(first|apply bc|(apply bh;omega));rfl;rfl;(first|decide|(apply Nat.le_of_ble_eq_true;rfl))))|(apply ac;rfl)|apply ak|apply ai|(apply ae;rfl)|apply aw)
    all_goals first|contradiction|exact zc _ (.inr rfl) (List.prefix_append _ _) (a9 rfl a8) rfl ⟨rfl,rfl⟩|exact zc _ (.inl rfl) (List.prefix_append _ _) (a9 rfl a8) rfl ⟨rfl,rfl⟩
  · refine am [] [m] Tryz.func13 rfl Tryz.ntmps13 Tryz.results13 ?_
    repeat' (first|apply ab|(apply V;rfl;(first|(apply bl;rfl)|(apply bg;rfl)|(apply bj;(apply tyT;rfl);rfl;(apply at_;rfl;rfl);rfl)|(apply eu;rfl;rfl)|(apply cg;rfl)))|(apply Vp;rfl;rfl;apply fnT;rfl;apply h34;(first|(apply aa;assumption)|assumption);rintro _ rfl)|(apply VR;rfl;apply yg (k:=k) (tbl:=tbl);rfl;rfl;rfl;exact hk;exact hM;exact hO;rw [hg])|(apply VR;rfl;apply jav (k:=k) (tbl:=tbl) (w:=w);rfl;rfl;rfl;rfl;exact hk;exact hM;exact hO;exact jil)|(apply Vw;rfl;(first|(apply cd;rfl;(apply tyT;rfl))|(apply cj;rfl;rfl;rfl)))|(apply Vs;rfl;(apply bw;rfl;(apply tyT;rfl);rfl;rfl;rfl;(first|apply bc|(apply bh;omega));rfl;rfl;(first|decide|(apply Nat.le_of_ble_eq_true;rfl))))|(apply ac;rfl)|apply ak|apply ah|apply ai|(apply af;rfl)|apply ap)
    all_goals first|contradiction|exact zc _ (.inr rfl) (List.prefix_append _ _) (a9 rfl a8) rfl ⟨rfl,rfl⟩|exact zc _ (.inl rfl) (List.prefix_append _ _) (a9 rfl a8) rfl ⟨rfl,rfl⟩
end Go.Proofs.YtinffhimfoicdaaGreat
namespace Go.Proofs.YtinffhimfoicdaaGreat
open Go Go.RowKit Go.Proofs.YtinffhimfoicdaaGreat.Calc
set_option linter.unusedVariables false
set_option linter.unusedSimpArgs false
set_option maxRecDepth 100000
set_option maxHeartbeats 8000000
theorem nu {C:Cx} {c:Code} {ρ:Rg} {S:List (List BV × Nat)} {T:List Nat} {M:List (List (Value × DV))} {Q:nl} {κ:Type} (μ:κ → Nat) (R:κ → List (Nat × BV)) (I:κ → List (List BV × Nat) → List Nat → List (List (Value × DV)) → Prop) (k:κ) (hI:I k S T M) (h0:ng ρ (R k))
    (hr:∀ k S1 T1 M1,I k S1 T1 M1 → Tri C c (rg (R k)) ⟨S1 ++ [],T1 ++ [],M1⟩ (d7 (fun ρ' st'=>∃ k' S2 T2 M2,μ k' < μ k ∧ I k' S2 T2 M2 ∧ ng ρ' (R k') ∧ st' = ⟨S2,T2,M2⟩) Q)):Tri C (.loop c) ρ ⟨S,T,M⟩ Q:=by
  refine fh (κ:=κ × List (List BV × Nat) × List Nat × List (List (Value × DV))) (fun k=>μ k.1) (fun k=>R k.1) (fun k=>⟨k.2.1,k.2.2.1,k.2.2.2⟩) (fun k=>I k.1 k.2.1 k.2.2.1 k.2.2.2) (k,S,T,M) hI h0 rfl ?_
  rintro ⟨k,S1,T1,M1⟩ hk
  have:=hr k S1 T1 M1 hk
  rw [List.append_nil,List.append_nil] at this
  refine r9 this fun ex ρ' st' h=>?_
  cases ex with
  | normal =>
    obtain ⟨k',S2,T2,M2,h1,h2,h3,h4⟩:=h
    exact ⟨(k',S2,T2,M2),h1,h2,h3,h4⟩
  | exit id=>exact h
  | ret=>exact h
theorem jmx {P:Program} {rs:List ResultVar} {S S1:List (List BV × Nat)} {T T1:List Nat} {M M1:List (List (Value × DV))} {Q:BV → St → Prop} {ρ:Rg} {l l':List BV} {a b a0 b0:List BV} {ta tb:Nat} (ex:AX) (hex:ex = .normal ∨ ex = .ret) (hT:T <+: T1) (h1:sh P ρ ⟨S1,T1,M1⟩ rs = some l) (h2:my (S.length + 2) T.length l = some l')
    (ha:S1[S.length]? = some (a0,ta)) (hb:S1[S.length + 1]? = some (b0,tb)) (la:my (S.length + 2) T.length a0 = some a) (lb:my (S.length + 2) T.length b0 = some b) (h:Q (jb5 l') ⟨S ++ [(a,ta),(b,tb)],T,M1⟩) :
    jhl P rs [] ⟨S,T,M⟩ Q ex ρ ⟨S1,T1,M1⟩:=by
  have hlen:(S ++ [(a,ta),(b,tb)]).length = S.length + 2:=by simp
  refine ⟨hex,l,l',S ++ [(a,ta),(b,tb)],T,.inl h1,by rw [hlen];exact h2,fun id cs ty hid=>?_,?_,by rw [hlen];exact Nat.le_add_right _ _,hT,Nat.le_refl _,h⟩
  · by_cases hlt:id < S.length
    · rw [List.getElem?_append_left hlt] at hid
      exact .inl ⟨hlt,by simp,hid⟩
    · right
      rw [List.getElem?_append_right (by omega)] at hid
      obtain ⟨j,rfl⟩:∃ j,id = S.length + j:=⟨id - S.length,by omega⟩
      rw [show S.length + j - S.length = j by omega] at hid
      match j,hid with
      | 0,hid =>
        simp only [List.getElem?_cons_zero,Option.some.injEq,Prod.mk.injEq] at hid
        obtain ⟨rfl,rfl⟩:=hid
        exact ⟨_,ha,by rw [hlen];exact la⟩
      | 1,hid =>
        simp only [List.getElem?_cons_succ,List.getElem?_cons_zero,Option.some.injEq,Prod.mk.injEq] at hid
        obtain ⟨rfl,rfl⟩:=hid
        exact ⟨_,hb,by rw [hlen];exact lb⟩
      | j + 2,hid=>simp at hid
  · rw [hlen]
    have:=(List.getElem?_eq_some_iff.1 hb).1
    show S.length + 2 ≤ S1.length
    omega
attribute [local irreducible] Tri ew er ci bn db d7 inQ jb jhl
def jb8 (b:Bool) (c:ByteArray):List Fi → Nat → Tbl → Tbl
  | [],_,t=>t
  | f :: l,k,t=>jb8 b c l (k + 1) (if f.static = b then pk t ⟨c,k⟩ (jv f.typ) else t)
def qk:List Cl → Tbl → Tbl
  | [],t=>t
  | c :: l,t=>qk l (jb8 true c.name c.fields 0 t)
def jlb (p:List Cl):Prop:=∀ c ∈ p,c.name.size ≤ 1000000
theorem m6 {c:ByteArray} {k:Nat} (h:c.size ≤ 1000000) (hk:k ≤ 1000000):okT ⟨c,(k:Int)⟩:=by
  refine ⟨Nat.le_trans h (by decide),?_⟩
  simp only [Lit.wf,Bool.and_eq_true,decide_eq_true_eq]
  have h1:IntKind.i64.min = -9223372036854775808:=by decide
  have h2:IntKind.i64.max = 9223372036854775807:=by decide
  rw [h1,h2]
  omega
theorem jim {M:List (List (Value × DV))} {x y:List (Value × DV)}:(M ++ [x]).set M.length y = M ++ [y]:=by
  rw [List.set_append_right _ _ (Nat.le_refl _),Nat.sub_self]
  rfl
end Go.Proofs.YtinffhimfoicdaaGreat
namespace Go.Proofs.YtinffhimfoicdaaGreat
open Go Go.RowKit Go.Proofs.YtinffhimfoicdaaGreat.Calc
set_option linter.unusedVariables false
set_option linter.unusedSimpArgs false
set_option maxRecDepth 100000
set_option maxHeartbeats 8000000
attribute [local irreducible] Tri ew er ci bn db d7 inQ jb jhl
theorem jf8 (p:List Cl) (hp:rf p) (hn:jlb p) (he:(ji p).1 = 0) (S:List (List BV × Nat)) (T:List Nat) (M:List (List (Value × DV))):ci Tryz.prog [] [] 8 [vP p] ⟨S,T,M⟩ (fun r s=>r = .ptr (S.length + 1) 0 ∧ s = ⟨S ++ [([.d (cy df p)],26),([.d (cy df p),.tight [] 0,.d (.map M.length)],73)],T,M ++ [jd (qk p [])]⟩):=by
  have h27:=jye p hp
  generalize ji p = c at *
  obtain ⟨e,i⟩:=c
  dsimp only at he
  subst he
  refine jcr [] [] Tryz.func8 rfl Tryz.ntmps8 Tryz.results8 ?_
  repeat' (first|apply ab|(apply V;rfl;(first|(apply bl;rfl)|(apply bg;rfl)|(apply cb;(apply plT;rfl);rfl;rfl;decide)|(apply bj;(apply tyT;rfl);rfl;(apply at_;rfl;rfl);rfl)|(apply bz;(apply tyT;rfl);rfl;(apply at_;rfl;rfl);rfl)|(apply bq;(apply elT;rfl);rfl;rfl)|(apply eu;rfl;rfl)|(apply ed;(apply plT;rfl);rfl)))|(apply Vp;rfl;rfl;apply fnT;rfl;apply h27;rintro _ rfl)|(apply VR;rfl;apply jmw;rfl)|(apply Vd;rfl;(apply fb;rfl;rfl);all_goals intro h_)|(apply Vw;rfl;(apply cj;rfl;rfl;rfl))|(apply ac;rfl)|apply ak|apply aj|apply ah|apply ai|(apply ae;rfl)|(apply af;rfl)|apply ap|apply aw)
  · exact absurd rfl h_
  have hp1:=hp.1
  have okm:okM ⟨Tryz.prog,52,[],[],S.length,M.length⟩ M.length = true:=by simp [okM]
  refine nu (fun k:Nat=>p.length - k) (fun k=>[(5,.ptr (S.length + 1) 0),(22,.d (cy df p)),(23,vI p.length),(24,vI k)]) (fun k S1 T1 M1=>k ≤ p.length ∧ S.length + 2 ≤ S1.length ∧ T <+: T1 ∧ S1[S.length + 0]? = some ([.d (cy df p)],26) ∧ S1[S.length + 1]? = some ([.d (cy df p),.tight [] 0,.d (.map M.length)],73) ∧ ∃ t,OKM t ∧ M1 = M ++ [jd t] ∧ qk p [] = qk (p.drop k) t) 0 ⟨Nat.zero_le _,by simp,by simp,at_ rfl rfl,at_ rfl rfl,[],OKM.nil,rfl,by rw [List.drop_zero]⟩ ⟨rfl,rfl,rfl,rfl,trivial⟩ ?_
  rintro k S1 T1 M1 ⟨hk,hS,hT,hb0,hb1,t,hO,rfl,hst⟩
  repeat' (first|apply ab|(apply V;rfl;(first|(apply bl;rfl)|(apply bg;rfl)))|(apply Vd;rfl;(apply cu;rfl;rfl);all_goals intro h_)|(apply ac;rfl)|apply ak|apply aj|apply ah|apply bd|apply ai|(apply ae;rfl)|(apply af;rfl)|apply ap|apply ey|apply bo)
  · obtain ⟨c,hc⟩:∃ c,p[k]? = some c:=⟨_,List.getElem?_eq_getElem (by omega)⟩
    rw [jp hc,qk] at hst
    have hfl:=hp.2 c (List.mem_of_getElem? hc)
    have hnm:=hn c (List.mem_of_getElem? hc)
    repeat' (first|apply ab|(apply V;rfl;(first|(apply bl;rfl)|(apply cb;(apply plT;rfl);rfl;rfl;decide)|(apply bz;(apply tyT;rfl);rfl;(apply at_;rfl;rfl);rfl)|(apply dp;(apply tyT;rfl);rfl;(first|rfl|apply ay|apply ba))|(apply bq;(apply elT;rfl);rfl;rfl)|(apply bp (c:=c);apply elT;rfl;rfl;rfl;rfl;exact da;omega;simpa using hc)))|(apply Vw;rfl;(apply cd;rfl;(apply tyT;rfl)))|(apply Vs;rfl;(apply bw;rfl;(apply tyT;rfl);rfl;rfl;rfl;(first|apply bc|(apply bh;omega));rfl;rfl;(first|decide|(apply Nat.le_of_ble_eq_true;rfl))))|(apply ac;rfl)|apply aj)
    refine nu (fun j:Nat=>c.fields.length - j) (fun j=>[(5,.ptr (S.length + 1) 0),(7,.ptr (S1.length + 0) 0),(22,.d (cy df p)),(23,vI p.length),(24,vI k),(29,.d (cy je c.fields)),(30,vI c.fields.length),(31,vI j)]) (fun j S2 T2 M2=>j ≤ c.fields.length ∧ S1.length ≤ S2.length ∧ T <+: T2 ∧ S2[S.length + 0]? = some ([.d (cy df p)],26) ∧ S2[S.length + 1]? = some ([.d (cy df p),.tight [] 0,.d (.map M.length)],73) ∧ S2[S1.length + 0]? = some ((df c).map .d,37) ∧ ∃ t',OKM t' ∧ M2 = M ++ [jd t'] ∧ jb8 true c.name c.fields 0 t = jb8 true c.name (c.fields.drop j) j t') 0 ⟨Nat.zero_le _,by simp,av hT,aa hb0,aa hb1,at_ rfl rfl,t,hO,rfl,by rw [List.drop_zero]⟩ ⟨rfl,rfl,rfl,rfl,rfl,rfl,rfl,rfl,trivial⟩ ?_
    rintro j S2 T2 M2 ⟨hj,hS2,hT2,hb02,hb12,hcb,t',hO',rfl,hpf⟩
    repeat' (first|apply ab|(apply V;rfl;(first|(apply bl;rfl)|(apply az;rfl;rfl;rfl;omega)))|(apply Vd;rfl;(apply cu;rfl;rfl);all_goals intro h_)|(apply ac;rfl)|apply ak|(apply al;rfl)|apply aj|apply ah|apply bd|(apply ae;rfl)|(apply af;rfl)|apply ap|apply ey|apply cq|apply bo)
    · obtain ⟨f,hf⟩:∃ f,c.fields[j]? = some f:=⟨_,List.getElem?_eq_getElem (by omega)⟩
      rw [jp hf,jb8] at hpf
      have h20:=js1 f.typ
      have hkT:okT ⟨c.name,(j:Int)⟩:=m6 hnm (by omega)
      have hMg:(M ++ [jd t'])[M.length]? = some (jd t'):=by simp
      obtain ⟨fs,fty,fnm,fin⟩:=f
      dsimp only at hpf h20
      cases fs
      · rw [if_neg (by decide)] at hpf
        repeat' (first|apply ab|(apply V;rfl;(first|(apply bl;rfl)|(apply bg;rfl)|(apply cb;(apply plT;rfl);rfl;rfl;decide)|(apply bz;(apply tyT;rfl);rfl;(apply at_;rfl;rfl);rfl)|(apply dp;(apply tyT;rfl);rfl;(first|rfl|apply ay|apply ba))|(apply az;rfl;rfl;rfl;omega)|(apply bp (c:=(⟨_,fty,fnm,fin⟩:Fi));apply elT;rfl;rfl;rfl;rfl;exact dx;omega;simpa using hf)))|(apply Vw;rfl;(apply cd;rfl;(apply tyT;rfl)))|(apply Vs;rfl;(apply bw;rfl;(apply tyT;rfl);rfl;rfl;rfl;(first|apply bc|(apply bh;omega));rfl;rfl;(first|decide|(apply Nat.le_of_ble_eq_true;rfl))))|(apply ac;rfl)|(apply al;rfl)|apply ah|(apply af;rfl)|apply ap|apply cq)
        exact ⟨j + 1,_,_,_,by omega,⟨by omega,by simp only [List.length_append];omega,av hT2,aa hb02,aa hb12,aa hcb,t',hO',rfl,hpf⟩,⟨rfl,rfl,rfl,rfl,rfl,rfl,rfl,di (by omega),trivial⟩,rfl⟩
      · rw [if_pos rfl] at hpf
        repeat' (first|apply ab|(apply V;rfl;(first|(apply bl;rfl)|(apply bg;rfl)|(apply cb;(apply plT;rfl);rfl;rfl;decide)|(apply bz;(apply tyT;rfl);rfl;(first|(apply at_;rfl;rfl)|(apply aa;assumption));rfl)|(apply dp;(apply tyT;rfl);rfl;(first|rfl|apply ay|apply ba))|(apply ck;rfl)|(apply ed;(apply plT;rfl);rfl)|(apply az;rfl;rfl;rfl;omega)|(apply bp (c:=(⟨_,fty,fnm,fin⟩:Fi));apply elT;rfl;rfl;rfl;rfl;exact dx;omega;simpa using hf)|(apply bz;exact joa;rfl;(first|(apply at_;rfl;rfl)|(apply aa;assumption)|assumption);rfl)))|(apply de (nt:=52) (.take 0 (.take 1 (.take 2 (.take 3 (.take 4 (.take 5 (.take 6 (.take 7 (.take 8 (.take 9 (.one 10 (.one 11 .nil)))))))))))) [] [11];exact co;rfl;decide +kernel)|(apply oP;rfl;rfl;rfl;apply fnT;rfl;apply h20;rintro _ rfl)|(apply oR;rfl;rfl;apply jav (k:=⟨c.name,(j:Int)⟩) (tbl:=t') (w:=jv fty);rfl;rfl;rfl;rfl;exact hkT;exact hMg;exact hO';exact okm)|(apply Vw;rfl;(apply cd;rfl;(apply tyT;rfl)))|(apply Vs;rfl;(apply bw;rfl;(apply tyT;rfl);rfl;rfl;rfl;(first|apply bc|(apply bh;omega));rfl;rfl;(first|decide|(apply Nat.le_of_ble_eq_true;rfl))))|(apply ac;rfl)|(apply al;rfl)|(apply ae;rfl)|apply ap|apply cq|apply dg|(apply tV;rfl;rfl;(first|(apply bl;rfl)|(apply bg;rfl)|(apply cb;(apply plT;rfl);rfl;rfl;decide)|(apply bz;(apply tyT;rfl);rfl;(first|(apply at_;rfl;rfl)|(apply aa;assumption));rfl)|(apply dp;(apply tyT;rfl);rfl;(first|rfl|apply ay|apply ba))|(apply ck;rfl)|(apply ed;(apply plT;rfl);rfl)|(apply az;rfl;rfl;rfl;omega)|(apply bp (c:=(⟨_,fty,fnm,fin⟩:Fi));apply elT;rfl;rfl;rfl;rfl;exact dx;omega;simpa using hf)|(apply bz;exact joa;rfl;(first|(apply at_;rfl;rfl)|(apply aa;assumption)|assumption);rfl));rfl))
        exact ⟨j + 1,_,_,_,by omega,⟨by omega,by simp only [List.length_append];omega,av hT2,aa hb02,aa hb12,aa hcb,_,hO'.put hkT _,jim,hpf⟩,⟨rfl,rfl,rfl,rfl,rfl,rfl,rfl,di (by omega),trivial⟩,rfl⟩
    · rw [List.drop_of_length_le (by omega),jb8] at hpf
      rw [hpf] at hst
      exact ⟨k + 1,_,_,_,by omega,⟨by omega,by simp only [List.length_append];omega,av hT2,aa hb02,aa hb12,t',hO',rfl,hst⟩,⟨rfl,rfl,rfl,di (by omega),trivial⟩,rfl⟩
  · rw [List.drop_of_length_le (by omega),qk] at hst
    rw [hst]
    exact jmx (l':=[.ptr (S.length + 1) 0]) _ (.inr rfl) (av hT) (a9 rfl a8) (by simp [my,low]) (aa hb0) (aa hb1) rfl rfl ⟨rfl,rfl⟩
end Go.Proofs.YtinffhimfoicdaaGreat
namespace Go.Proofs.YtinffhimfoicdaaGreat
open Go Go.RowKit Go.Proofs.YtinffhimfoicdaaGreat.Calc
set_option linter.unusedVariables false
set_option linter.unusedSimpArgs false
set_option maxRecDepth 100000
set_option maxHeartbeats 8000000
theorem jq0 {P:Program} {rs:List ResultVar} {S S1:List (List BV × Nat)} {T T' T1:List Nat} {M M1:List (List (Value × DV))} {Q:BV → St → Prop} {ρ:Rg} {l l' cs cs':List BV} {id ty:Nat} (ex:AX) (hex:ex = .normal ∨ ex = .ret) (hT:T' <+: T1) (hTl:T.length ≤ T'.length) (h1:sh P ρ ⟨S1,T1,M1⟩ rs = some l) (h2:my S.length T'.length (wks l) = some l')
    (hS:S1[id]? = some (cs,ty)) (h3:my S.length T'.length cs = some cs') (h:Q (jb5 l') ⟨S.set id (cs',ty),T',M1⟩):jb P rs [id] ⟨S,T,M⟩ Q ex ρ ⟨S1,T1,M1⟩ :=
  ⟨hex,wks l,l',S.set id (cs',ty),T',.inr (by rw [h1];rfl),h2,by simp only [jhh,hS,h3],hT,hTl,h⟩
theorem jf9 {T T1:List Nat} (h:T <+: T1) {tg n:Nat} (ht:tg < T.length):T.set tg n <+: T1.set tg n:=by
  obtain ⟨X,rfl⟩:=h
  rw [List.set_append_left _ _ ht]
  exact List.prefix_append _ _
attribute [local irreducible] Tri ew er ci bn db d7 inQ jb jhl
theorem jga (p:List Cl) (hp:p.length ≤ 1000000) (tg sid:Nat) (l:List (ByteArray × Nat)) (cls:ByteArray) (hl:l.length ≤ 1000) (hb:l.length = 200 ∨ isC p cls = false):HC p (.own 79 2 tg (l.flatMap gx) l.length) sid 11 (fun id=>[.ptr id 0,vS cls]) (fun r=>r = .tup [vVl vl0,vB false]):=by
  have h28:=jqw p cls hp
  intro S T M id hid
  refine am [] [] Tryz.func11 rfl Tryz.ntmps11 Tryz.results11 ?_
  cases hc:isC p cls
  · rw [hc] at h28
    repeat' (first|apply ab|(apply V;rfl;(first|(apply bl;rfl)|(apply bg;rfl)|(apply cb;(apply plT;rfl);rfl;rfl;decide)|(apply bz;(apply tyT;rfl);rfl;(apply aa;assumption);rfl)|(apply bq;(apply elT;rfl);rfl;rfl)|(apply ck;rfl)|(apply ca;rfl;rfl)|(apply bu;rfl;rfl)|(apply cg;rfl)|(apply ed;(apply plT;rfl);rfl)|(apply jf6;exact qj;rfl)))|(apply Vp;rfl;rfl;apply fnT;rfl;apply h28;rintro _ rfl)|(apply Vd;rfl;(apply dq;rfl;rfl);all_goals intro h_)|(apply Vo;rfl)|(apply Vw;rfl;(apply cd;rfl;(apply tyT;rfl)))|(apply Vs;rfl;(apply bw;rfl;(apply tyT;rfl);rfl;rfl;rfl;(first|apply bc|(apply bh;omega));rfl;rfl;(first|decide|(apply Nat.le_of_ble_eq_true;rfl))))|(apply ac;rfl)|apply ak|apply ai|(apply ae;rfl)|(apply bf _ (.inr rfl);(exact List.prefix_append _ _);(focus repeat (first|apply a8|(apply a9;rfl)|(apply cp;rfl;rfl;apply tyT;rfl;rfl;rfl)));rfl)|apply aw)
    all_goals first|rfl|contradiction
  · rw [hc] at h28 hb
    have h200:l.length = 200:=by simpa using hb
    repeat' (first|apply ab|(apply V;rfl;(first|(apply bl;rfl)|(apply bg;rfl)|(apply cb;(apply plT;rfl);rfl;rfl;decide)|(apply bz;(apply tyT;rfl);rfl;(apply aa;assumption);rfl)|(apply bq;(apply elT;rfl);rfl;rfl)|(apply ck;rfl)|(apply ca;rfl;rfl)|(apply bu;rfl;rfl)|(apply cg;rfl)|(apply ed;(apply plT;rfl);rfl)|(apply jf6;exact qj;rfl)))|(apply Vp;rfl;rfl;apply fnT;rfl;apply h28;rintro _ rfl)|(apply Vd;rfl;(apply dq;rfl;rfl);all_goals intro h_)|(apply Vo;rfl)|(apply Vw;rfl;(apply cd;rfl;(apply tyT;rfl)))|(apply Vs;rfl;(apply bw;rfl;(apply tyT;rfl);rfl;rfl;rfl;(first|apply bc|(apply bh;omega));rfl;rfl;(first|decide|(apply Nat.le_of_ble_eq_true;rfl))))|(apply ac;rfl)|apply ak|apply ah|apply ai|(apply ae;rfl)|(apply af;rfl)|(apply bf _ (.inr rfl);(exact List.prefix_append _ _);(focus repeat (first|apply a8|(apply a9;rfl)|(apply cp;rfl;rfl;apply tyT;rfl;rfl;rfl)));rfl)|apply ap|apply aw|(exfalso;omega))
    all_goals first|rfl|contradiction|(exfalso;omega)
def nv (p:List Cl):List ByteArray → Tbl → Tbl
  | [],t=>t
  | c :: L,t=>nv p L (if 0 ≤ fq p c then jb8 false c (jb7 p (fq p c)).fields 0 t else t)
theorem jcv (p:List Cl) (hp:rf p) (tg sid:Nat) (l:List (ByteArray × Nat)) (cls:ByteArray) (hl:l.length < 200) (hc:isC p cls = true) (hN:∀ c ∈ chC p cls,c.size ≤ 1000000) (S:List (List BV × Nat)) (T:List Nat) (M:List (List (Value × DV))) (id:Nat)
    (hid:S[id]? = some ([.d (cy df p),.own 79 2 tg (l.flatMap gx) l.length,.d (.map sid)],73)) (hT:T[tg]? = some (l.flatMap gx).length) :
    ci Tryz.prog [id] [] 11 [.ptr id 0,vS cls] ⟨S,T,M⟩ (fun r s=>r = .tup [vVl ⟨4,l.length + 1,⟨#[]⟩⟩,vB true] ∧
      s = ⟨S.set id ([.d (cy df p),.own 79 2 tg ((l ++ [(cls,M.length)]).flatMap gx) (l ++ [(cls,M.length)]).length,.d (.map sid)],73),T.set tg ((l ++ [(cls,M.length)]).flatMap gx).length,M ++ [jd (nv p (chC p cls) [])]⟩):=by
  have hp1:=hp.1
  have h28:=jqw p cls hp1
  have h29:=jw3 p cls hp1
  have hcl:=sk p cls
  rw [hc] at h28
  refine am [id] [] Tryz.func11 rfl Tryz.ntmps11 Tryz.results11 ?_
  have okm:okM ⟨Tryz.prog,99,[id],[],S.length,M.length⟩ M.length = true:=by simp [okM]
  generalize hL:chC p cls = L at *
  repeat' (first|apply ab|(apply V;rfl;(first|(apply bl;rfl)|(apply bg;rfl)|(apply cb;(apply plT;rfl);rfl;rfl;decide)|(apply bz;(apply tyT;rfl);rfl;(apply aa;assumption);rfl)|(apply bq;(apply elT;rfl);rfl;rfl)|(apply ck;rfl)|(apply ca;rfl;rfl)|(apply bu;rfl;rfl)|(apply cg;rfl)|(apply ed;(apply plT;rfl);rfl)|(apply jf6;exact qj;rfl)))|(apply Vp;rfl;rfl;apply fnT;rfl;apply h28;rintro _ rfl)|(apply Vp;rfl;rfl;apply fnT;rfl;apply h29;rintro _ rfl)|(apply VR;rfl;apply jmw;rfl)|(apply Vd;rfl;(apply dq;rfl;rfl);all_goals intro h_)|(apply Vo;rfl)|(apply Vw;rfl;(apply cd;rfl;(apply tyT;rfl)))|(apply Vs;rfl;(apply bw;rfl;(apply tyT;rfl);rfl;rfl;rfl;(first|apply bc|(apply bh;omega));rfl;rfl;(first|decide|(apply Nat.le_of_ble_eq_true;rfl))))|(apply ac;rfl)|apply ak|apply aj|apply ah|apply ai|(apply ae;rfl)|(apply af;rfl)|apply ap|apply aw|(exfalso;omega))
  refine nu (fun k:Nat=>L.length - k) (fun k=>[(0,.ptr id 0),(4,.ptr (S.length + 0) 0),(6,.ptr (S.length + 1) 0),(40,.d (cy dw L)),(41,vI L.length),(42,vI k)]) (fun k S1 T1 M1=>k ≤ L.length ∧ S.length + 2 ≤ S1.length ∧ T <+: T1 ∧ S1[id]? = some ([.d (cy df p),.own 79 2 tg (l.flatMap gx) l.length,.d (.map sid)],73) ∧ S1[S.length + 0]? = some ([.d (.flat (.int .i64 0)),.d (.flat (.int .i32 0)),.d (.flat (.string ⟨#[]⟩))],39) ∧ S1[S.length + 1]? = some ([.d (.flat (.string cls)),.d (.map M.length)],79) ∧ ∃ t,OKM t ∧ M1 = M ++ [jd t] ∧ nv p L [] = nv p (L.drop k) t) 0 ⟨Nat.zero_le _,by simp,by simp,aa hid,at_ rfl rfl,at_ rfl rfl,[],OKM.nil,rfl,by rw [List.drop_zero]⟩ ⟨rfl,rfl,rfl,rfl,rfl,rfl,trivial⟩ ?_
  rintro k S1 T1 M1 ⟨hk,hS,hT1,hb,hb0,hb1,t,hO,rfl,hst⟩
  repeat' (first|apply ab|(apply Vd;rfl;(apply cu;rfl;rfl);all_goals intro h_)|(apply ac;rfl)|apply ak|apply aj|apply ah|apply bd|(apply ae;rfl)|(apply af;rfl)|apply ap|apply ey|apply bo)
  · obtain ⟨c,hcc⟩:∃ c,L[k]? = some c:=⟨_,List.getElem?_eq_getElem (by omega)⟩
    rw [jp hcc,nv] at hst
    have hcs:=hN c (List.mem_of_getElem? hcc)
    have h30:=jqv p c hp1
    rcases fi p c with ⟨hf,_⟩|⟨jc,hj,hf,_,_⟩
    · rw [hf] at h30 hst
      rw [if_neg (by decide)] at hst
      repeat' (first|apply ab|(apply V;rfl;(first|(apply bl;rfl)|(apply bg;rfl)|(apply cb;(apply plT;rfl);rfl;rfl;decide)|(apply bz;(apply tyT;rfl);rfl;(apply aa;assumption);rfl)|(apply ef;(apply tyT;rfl);rfl;rfl)|(apply ck;rfl)|(apply az;rfl;rfl;rfl;omega)|(apply bp (c:=c);apply elT;rfl;rfl;rfl;rfl;exact cv;omega;simpa using hcc)))|(apply Vp;rfl;rfl;apply fnT;rfl;apply h30;rintro _ rfl)|(apply Vd;rfl;(apply ep;rfl;rfl);all_goals intro h_)|(apply ac;rfl)|(apply al;rfl)|apply ah|(apply ae;rfl)|(apply af;rfl)|apply ap|apply cq)
      all_goals first|contradiction|exact ⟨k + 1,_,_,_,by omega,⟨by omega,by simp only [List.length_append];omega,av hT1,aa hb,aa hb0,aa hb1,t,hO,rfl,hst⟩,⟨rfl,rfl,rfl,rfl,rfl,di (by omega),trivial⟩,rfl⟩
    · obtain ⟨c0,hc0⟩:∃ c0,p[jc]? = some c0:=⟨_,List.getElem?_eq_getElem hj⟩
      have hcl0:jb7 p (jc:Int) = c0:=by
        unfold jb7
        rw [show ((jc:Int)).toNat = jc from rfl,hc0]
        rfl
      have hfl:=hp.2 c0 (List.mem_of_getElem? hc0)
      rw [hf] at h30 hst
      rw [if_pos (by omega),hcl0] at hst
      repeat' (first|apply ab|(apply V;rfl;(first|(apply bl;rfl)|(apply bg;rfl)|(apply cb;(apply plT;rfl);rfl;rfl;decide)|(apply fz;(apply plT;rfl);rfl;rfl;decide)|(apply bz;(apply tyT;rfl);rfl;(apply aa;assumption);rfl)|(apply ef;(apply tyT;rfl);rfl;rfl)|(apply bq;(apply elT;rfl);rfl;rfl)|(apply ck;rfl)|(apply az;rfl;rfl;rfl;omega)|(apply bp (c:=c);apply elT;rfl;rfl;rfl;rfl;exact cv;omega;simpa using hcc)|(apply bp (c:=c0);apply elT;rfl;rfl;rfl;rfl;exact da;omega;simpa using hc0)))|(apply Vp;rfl;rfl;apply fnT;rfl;apply h30;rintro _ rfl)|(apply Vd;rfl;(apply ep;rfl;rfl);all_goals intro h_)|(apply ac;rfl)|(apply al;rfl)|apply aj|apply ah|(apply ae;rfl)|(apply af;rfl)|apply ap|apply cq|(exfalso;omega))
      refine nu (fun j:Nat=>c0.fields.length - j) (fun j=>[(0,.ptr id 0),(4,.ptr (S.length + 0) 0),(6,.ptr (S.length + 1) 0),(8,vS c),(40,.d (cy dw L)),(41,vI L.length),(42,vI k),(62,.d (cy je c0.fields)),(63,vI c0.fields.length),(64,vI j)]) (fun j S2 T2 M2=>j ≤ c0.fields.length ∧ S.length + 2 ≤ S2.length ∧ T <+: T2 ∧ S2[id]? = some ([.d (cy df p),.own 79 2 tg (l.flatMap gx) l.length,.d (.map sid)],73) ∧ S2[S.length + 0]? = some ([.d (.flat (.int .i64 0)),.d (.flat (.int .i32 0)),.d (.flat (.string ⟨#[]⟩))],39) ∧ S2[S.length + 1]? = some ([.d (.flat (.string cls)),.d (.map M.length)],79) ∧ ∃ t',OKM t' ∧ M2 = M ++ [jd t'] ∧ jb8 false c c0.fields 0 t = jb8 false c (c0.fields.drop j) j t') 0 ⟨Nat.zero_le _,by simp only [List.length_append];omega,av hT1,aa hb,aa hb0,aa hb1,t,hO,rfl,by rw [List.drop_zero]⟩ ⟨rfl,rfl,rfl,rfl,rfl,rfl,rfl,rfl,rfl,rfl,trivial⟩ ?_
      rintro j S2 T2 M2 ⟨hj',hS2,hT2,hb',hb0',hb1',t',hO',rfl,hpf⟩
      repeat' (first|apply ab|(apply V;rfl;(first|(apply bl;rfl)|(apply az;rfl;rfl;rfl;omega)))|(apply Vd;rfl;(apply cu;rfl;rfl);all_goals intro h_)|(apply ac;rfl)|apply ak|(apply al;rfl)|apply aj|apply ah|apply bd|(apply ae;rfl)|(apply af;rfl)|apply ap|apply ey|apply cq|apply bo)
      · obtain ⟨f,hff⟩:∃ f,c0.fields[j]? = some f:=⟨_,List.getElem?_eq_getElem (by omega)⟩
        rw [jp hff,jb8] at hpf
        have h20:=js1 f.typ
        have hkT:okT ⟨c,(j:Int)⟩:=m6 hcs (by omega)
        have hMg:(M ++ [jd t'])[M.length]? = some (jd t'):=by simp
        obtain ⟨fs,fty,fnm,fin⟩:=f
        dsimp only at hpf h20
        cases fs
        · rw [if_pos rfl] at hpf
          repeat' (first|apply ab|(apply V;rfl;(first|(apply bl;rfl)|(apply bg;rfl)|(apply cb;(apply plT;rfl);rfl;rfl;decide)|(apply bz;(apply tyT;rfl);rfl;(apply at_;rfl;rfl);rfl)|(apply dp;(apply tyT;rfl);rfl;(first|rfl|apply ay|apply ba))|(apply cg;rfl)|(apply ed;(apply plT;rfl);rfl)|(apply az;rfl;rfl;rfl;omega)|(apply bp (c:=(⟨_,fty,fnm,fin⟩:Fi));apply elT;rfl;rfl;rfl;rfl;exact dx;omega;simpa using hff)|(apply bz;exact joa;rfl;(first|(apply at_;rfl;rfl)|(apply aa;assumption)|assumption);rfl)))|(apply de (nt:=99) (.take 0 (.take 1 (.take 2 (.take 3 (.take 4 (.take 5 (.take 6 (.one 7 (.one 8 .nil))))))))) [] [8];exact co;rfl;decide +kernel)|(apply oP;rfl;rfl;rfl;apply fnT;rfl;apply h20;rintro _ rfl)|(apply oR;rfl;rfl;apply jav (k:=⟨c,(j:Int)⟩) (tbl:=t') (w:=jv fty);rfl;rfl;rfl;rfl;exact hkT;exact hMg;exact hO';exact okm)|(apply Vw;rfl;(apply cd;rfl;(apply tyT;rfl)))|(apply Vs;rfl;(apply bw;rfl;(apply tyT;rfl);rfl;rfl;rfl;(first|apply bc|(apply bh;omega));rfl;rfl;(first|decide|(apply Nat.le_of_ble_eq_true;rfl))))|(apply ac;rfl)|(apply al;rfl)|(apply ae;rfl)|apply ap|apply cq|apply dg|(apply tV;rfl;rfl;(first|(apply bl;rfl)|(apply bg;rfl)|(apply cb;(apply plT;rfl);rfl;rfl;decide)|(apply bz;(apply tyT;rfl);rfl;(apply at_;rfl;rfl);rfl)|(apply dp;(apply tyT;rfl);rfl;(first|rfl|apply ay|apply ba))|(apply cg;rfl)|(apply ed;(apply plT;rfl);rfl)|(apply az;rfl;rfl;rfl;omega)|(apply bp (c:=(⟨_,fty,fnm,fin⟩:Fi));apply elT;rfl;rfl;rfl;rfl;exact dx;omega;simpa using hff)|(apply bz;exact joa;rfl;(first|(apply at_;rfl;rfl)|(apply aa;assumption)|assumption);rfl));rfl))
          exact ⟨j + 1,_,_,_,by omega,⟨by omega,by simp only [List.length_append];omega,av hT2,aa hb',aa hb0',aa hb1',_,hO'.put hkT _,jim,hpf⟩,⟨rfl,rfl,rfl,rfl,rfl,rfl,rfl,rfl,rfl,di (by omega),trivial⟩,rfl⟩
        · rw [if_neg (by decide)] at hpf
          repeat' (first|apply ab|(apply V;rfl;(first|(apply bl;rfl)|(apply bg;rfl)|(apply cb;(apply plT;rfl);rfl;rfl;decide)|(apply bz;(apply tyT;rfl);rfl;(apply at_;rfl;rfl);rfl)|(apply dp;(apply tyT;rfl);rfl;(first|rfl|apply ay|apply ba))|(apply cg;rfl)|(apply az;rfl;rfl;rfl;omega)|(apply bp (c:=(⟨_,fty,fnm,fin⟩:Fi));apply elT;rfl;rfl;rfl;rfl;exact dx;omega;simpa using hff)))|(apply Vw;rfl;(apply cd;rfl;(apply tyT;rfl)))|(apply Vs;rfl;(apply bw;rfl;(apply tyT;rfl);rfl;rfl;rfl;(first|apply bc|(apply bh;omega));rfl;rfl;(first|decide|(apply Nat.le_of_ble_eq_true;rfl))))|(apply ac;rfl)|(apply al;rfl)|apply ah|(apply af;rfl)|apply ap|apply cq)
          exact ⟨j + 1,_,_,_,by omega,⟨by omega,by simp only [List.length_append];omega,av hT2,aa hb',aa hb0',aa hb1',t',hO',rfl,hpf⟩,⟨rfl,rfl,rfl,rfl,rfl,rfl,rfl,rfl,rfl,di (by omega),trivial⟩,rfl⟩
      · rw [List.drop_of_length_le (by omega),jb8] at hpf
        rw [hpf] at hst
        exact ⟨k + 1,_,_,_,by omega,⟨by omega,by simp only [List.length_append];omega,av hT2,aa hb',aa hb0',aa hb1',t',hO',rfl,hst⟩,⟨rfl,rfl,rfl,rfl,rfl,di (by omega),trivial⟩,rfl⟩
  · rw [List.drop_of_length_le (by omega),nv] at hst
    rw [hst]
    have htl:=(List.getElem?_eq_some_iff.1 hT).1
    have hidl:=(List.getElem?_eq_some_iff.1 hid).1
    have hTg:T1[tg]? = some (l.flatMap gx).length:=by
      obtain ⟨X,rfl⟩:=hT1
      rw [List.getElem?_append_left htl]
      exact hT
    have hid1:id < S1.length:=(List.getElem?_eq_some_iff.1 hb).1
    have hb03:(S1.set id (mi (0 + 1) (dh (BV.own 79 2 tg ((l ++ [(cls,M.length)]).flatMap gx) (l ++ [(cls,M.length)]).length)) [.d (cy df p),.own 79 2 tg (l.flatMap gx) l.length,.d (.map sid)],73))[S.length + 0]? = some ([.d (.flat (.int .i64 0)),.d (.flat (.int .i32 0)),.d (.flat (.string ⟨#[]⟩))],39):=by
      rw [List.getElem?_set_ne (by omega)]
      exact hb0
    have hll:(l ++ [(cls,M.length)]).length = l.length + 1:=by simp
    repeat' (first|apply ab|(apply V;rfl;(first|(apply jf7;rfl;apply udT;rfl;apply udT;rfl;omega)|(apply bl;rfl)|(apply bg;rfl)|(apply cb;(apply plT;rfl);rfl;rfl;decide)|(apply bj;(apply tyT;rfl);rfl;(first|(apply aa;assumption)|(apply aq;assumption));rfl)|(apply bz;(apply tyT;rfl);rfl;(first|(apply aa;assumption)|(apply aq;assumption));rfl)|(apply bq;(apply elT;rfl);rfl;rfl)|(apply ck;rfl)|(apply ed;(apply plT;rfl);rfl)))|(apply de (nt:=99) (.take 0 (.take 1 (.take 2 (.take 3 (.take 4 (.take 5 (.one 6 (.one 7 (.take 8 (.take 9 (.one 10 .nil))))))))))) [] [10];exact co;rfl;decide +kernel)|(apply Vs;rfl;(apply fg;(apply tyT;rfl);rfl;rfl;assumption;(apply bh;omega);rfl;rfl;(first|decide|(apply Nat.le_of_ble_eq_true;rfl))))|(apply ac;rfl)|apply ai|apply ap|apply dg|(apply tV;rfl;rfl;(first|(apply jf7;rfl;apply udT;rfl;apply udT;rfl;omega)|(apply bl;rfl)|(apply bg;rfl)|(apply cb;(apply plT;rfl);rfl;rfl;decide)|(apply bj;(apply tyT;rfl);rfl;(first|(apply aa;assumption)|(apply aq;assumption));rfl)|(apply bz;(apply tyT;rfl);rfl;(first|(apply aa;assumption)|(apply aq;assumption));rfl)|(apply bq;(apply elT;rfl);rfl;rfl)|(apply ck;rfl)|(apply ed;(apply plT;rfl);rfl));rfl)|(apply oW;rfl;rfl;(first|(apply d8;rfl;(apply elT;rfl);(apply tyT;rfl);rfl;decide;rfl;rfl)|(apply mf;(apply elT;rfl);(apply tyT;rfl);(apply byT;rfl);rfl;rfl;rfl;decide;rfl;(apply ee (c:=(cls,M.length));omega;omega;assumption))))|(apply oS;rfl;rfl;(apply fg;(apply tyT;rfl);rfl;rfl;assumption;(apply mz <;> simp);rfl;rfl;(first|decide|(apply Nat.le_of_ble_eq_true;rfl)))))
    have hx:∀ X,(((S1.set id X).set (S.length + 0) (mi 0 (dh (.agg [.d (.flat (.int .i64 4)),.d (.flat (.int .i32 ((l ++ [(cls,M.length)]).length:Nat))),.d (.flat (.string ⟨#[]⟩))])) [.d (.flat (.int .i64 0)),.d (.flat (.int .i32 0)),.d (.flat (.string ⟨#[]⟩))],39)) ++([]:List (List BV × Nat)))[id]? = some X:=fun X=>by
      rw [List.append_nil,List.getElem?_set_ne (by omega)]
      exact List.getElem?_set_self hid1
    refine jq0 (T':=T.set tg ((l ++ [(cls,M.length)]).flatMap gx).length) (l':=[.agg [.d (.flat (.int .i64 4)),.d (.flat (.int .i32 ((l ++ [(cls,M.length)]).length:Nat))),.d (.flat (.string ⟨#[]⟩))],vB true]) _ (.inr rfl) (av (jf9 hT1 htl)) (by simp) (ez rfl (tyT rfl) (List.getElem?_set_self (by rw [List.length_set];omega)) rfl (a9 rfl a8)) (by simp [wks,wk,my,low];rfl) (aa (by rw [List.getElem?_set_ne (by omega)];exact List.getElem?_set_self hid1)) (cs':=[.d (cy df p),.own 79 2 tg ((l ++ [(cls,M.length)]).flatMap gx) (l ++ [(cls,M.length)]).length,.d (.map sid)]) ?_ ⟨?_,rfl⟩
    · show my S.length (T.set tg _).length [.d (cy df p),.own 79 2 tg ((l ++ [(cls,M.length)]).flatMap gx) (l ++ [(cls,M.length)]).length,.d (.map sid)] = _
      simp [my,low,htl]
    · rw [hll]
      rfl
end Go.Proofs.YtinffhimfoicdaaGreat
namespace Go.Proofs.YtinffhimfoicdaaGreat.Calc
open Go Go.RowKit
set_option linter.unusedVariables false
section
variable {P:Program} {ok okm:Nat → Bool} {o:Oper} {ρ:Rg} {st:St} {Q:Rg → St → Prop} {t:Nat} {k e:TypeId} {x i v:Operand} {b:Bool}
theorem jin {sz:Nat} {z:List BV} {kv:Value} (ho:o.op = .lookup t x i b) (hm:P.underlying t = some (.map k e)) (K:WideMaps.KeyLaw P k) (ht:pi P e = some (true,sz,z)) (hx:evB ρ x = some (.d (.flat (.map none))))
    (hi:(evB ρ i).bind jh6 = some kv) (hkv:jkp P k kv) (hq:Q (ke ρ o.dst (lkB b (.agg z) false)) st):OpR P ok okm o ρ st Q:=by
  intro nt y a Kx h1 h2 h3 h4
  subst h1
  obtain ⟨bi,hb1,hb2⟩:=Option.bind_eq_some_iff.1 hi
  have hik:=kw (h3.ev hb1) hb2
  have hrx:=h3.ev hx
  generalize hw:a.eval x = vx at hrx
  obtain ⟨⟨l,hl⟩,_⟩:=hkv
  obtain ⟨dd,ii,zz,g1,g2,g3,_,_,g6,g7⟩:=gg ht
  obtain ⟨cz,rfl⟩:∃ c:Array Value,zz = .agg c:=by
    cases zz <;> simp [jml] at g7
    exact ⟨_,rfl⟩
  have hz:RepB y (.agg z) (.agg cz):=by
    have:=RepB.agg _ _ (gi (x:=y) g6)
    simpa [Value.cells] using this
  have hvx:vx = .map none:=kw hrx rfl
  subst hvx
  have hfind:(Instr.findKey k kv []).run P y.w = .ok none y.w:=by
    rcases K.find y.w hl [] (fun e he=>by cases he) with ⟨q,_⟩|⟨j,e,_,q,_⟩
    · exact q
    · simp at q
  have hrun:(execOp a.eval o).run P y.w = .ok (.value (if b = true then .tuple #[.agg cz,.bool false] else .agg cz)) y.w:=by
    obtain ⟨dst,op,type,pos,after,guard⟩:=o
    subst ho
    simp only [execOp,hw,hik]
    simp [Instr.lookup,run_underlying hm,K.check y.w _ hl,hfind,qu g2 g3,Result.andThen]
  unfold Oper.wp
  rw [hrun]
  exact ⟨_,y,[],[],rfl,hq,h2,Step.refl _ _ _,by simp,by simp,h3.put h4 (jei hz b false)⟩
end
end Go.Proofs.YtinffhimfoicdaaGreat.Calc
namespace Go.Proofs.YtinffhimfoicdaaGreat.Calc
open Go Go.RowKit
set_option linter.unusedVariables false
theorem RepBs.setAt {x:Full}:∀ {l:List BV} {vs:List Value},RepBs x l vs → ∀ {j:Nat} {b:BV},(∀ v,vs[j]? = some v → RepB x b v) → RepBs x (l.set j b) vs
  | _,_,.nil,j,b,h=>.nil
  | _,_,.cons y v l vs h hs,0,b,hb=>.cons _ _ _ _ (hb v rfl) hs
  | _,_,.cons y v l vs h hs,j + 1,b,hb=>.cons _ _ _ _ h (RepBs.setAt hs fun v hv=>hb v (by simpa using hv))
def ka (y:Full) (id:Nat) (c:List BV × Nat):Full:={ y with st:=⟨y.st.S.set id c,y.st.T,y.st.M⟩ }
theorem me (y:Full) (id:Nat) (c:List BV × Nat):Step [] [] y (ka y id c) where
  os:=rfl
  tape:=rfl
  output:=rfl
  size:=Nat.le_refl _
  frame:=fun _ _ _ _ _=>rfl
  keep:=jfm.refl _ _
  slen:=by simp [ka]
  ids:=fun _ _=>rfl
  fresh:=fun i h1 h2=>by simp only [ka,List.length_set] at h2;omega
  mlen:=Nat.le_refl _
  mids:=fun _ _=>rfl
  mfresh:=fun i h1 h2=>by simp only [ka] at h2;omega
  tags:=fun t k h=>⟨k,h,Nat.le_refl _,fun _=>⟨rfl,fun _ _=>⟨rfl,rfl⟩⟩,.inl rfl⟩
  tfresh:=fun t b h1 h2=>by simp only [ka] at h2;omega
  fro:=fun _ _ _=>rfl
theorem ql {y:Full} (hg:Good y) {id ty:Nat} {cs cs':List BV} (hid:y.st.S[id]? = some (cs,ty)) (h:∀ vs:List Value,y.w.heap[y.pb id]? = some (.cells vs.toArray ty (0,0)) → RepBs y cs vs → RepBs y cs' vs):Good (ka y id (cs',ty)):=by
  have hs:=me y id (cs',ty)
  constructor
  · intro i c t hi
    simp only [ka,List.getElem?_set] at hi
    split at hi
    · rename_i e
      subst e
      obtain ⟨us,h1,h2,h3⟩:=hg.box id cs ty hid
      split at hi
      · simp only [Option.some.injEq,Prod.mk.injEq] at hi
        obtain ⟨rfl,rfl⟩:=hi
        exact ⟨us,h1,(h us h1 h2).mono hs,h3⟩
      · cases hi
    · obtain ⟨us,h1,h2,h3⟩:=hg.box i c t hi
      exact ⟨us,h1,h2.mono hs,h3⟩
  · intro i j hi hj e
    simp only [ka,List.length_set] at hi hj e
    exact hg.inj i j hi hj e
  · intro u k b hu hb
    obtain ⟨h1,h2,h3,h4⟩:=hg.tag u k b hu hb
    refine ⟨h1,h2,fun i hi=>?_,h4⟩
    simp only [ka,List.length_set] at hi
    exact h3 i hi
  · intro i es hi
    exact (hg.map i es hi).le rfl hs.le
  · exact hg.mapinj
  · exact hg.tmap
  · intro i hi
    exact ⟨(hg.mp i hi).1,fun j hj=>(hg.mp i hi).2 j (by simpa [ka] using hj)⟩
theorem rr {y:Full} (hg:Good y) {id ty:Nat} {cs cs':List BV} (hid:y.st.S[id]? = some (cs,ty)) (h:∀ vs,RepBs y cs vs → RepBs y cs' vs):Good (ka y id (cs',ty)):=ql hg hid (fun vs _ hv=>h vs hv)
theorem j4 {C:Cx} {c:Code} {ρ:Rg} {S:List (List BV × Nat)} {T:List Nat} {M:List (List (Value × DV))} {Q:nl} {id ty j:Nat} {cs:List BV} (e sz:Nat) (hid:S[id]? = some (cs,ty)) (hj:cs[j]? = some (.tight [] 0))
    (h:Tri C c ρ ⟨S.set id (cs.set j (.own e sz T.length [] 0),ty),T ++ [0],M⟩ Q):Tri C c ρ ⟨S,T,M⟩ Q:=by
  intro x y a h1 h1m h2 h3 h4 h5 K hK
  have hS:y.st.S = S:=by rw [h3]
  have hT:y.st.T = T:=by rw [h3]
  have hM:y.st.M = M:=by rw [h3]
  have g1:=k8 h4
  have hid1:(et y).st.S[id]? = some (cs,ty):=by
    show y.st.S[id]? = _
    rw [hS]
    exact hid
  have g2:Good (ka (et y) id (cs.set j (.own e sz T.length [] 0),ty)):=rr g1 hid1 fun vs hvs=>by
    refine hvs.setAt fun v hv=>?_
    obtain ⟨w,hw1,hw2⟩:=hvs.get hj
    obtain rfl:=Option.some.inj (hv.symm.trans hw1)
    rw [← hT]
    cases hw2 with
    | tight _ _ base hb=>exact .own e sz _ [] 0 0 _ hb (by simp [et]) (Nat.le_refl _) (fun _=>.inr ⟨by simp [et],rfl,rfl,base,rfl⟩)
  have hst:=(fw y).trans (me (et y) id (cs.set j (.own e sz T.length [] 0),ty))
  refine h x _ a h1 h1m (h2.trans' hst (fun i hi _=>by cases hi) (fun i hi _=>by cases hi)) ?_ g2 ⟨h5.defers,h5.size,fun t v ht=>(h5.reg t v ht).mono hst⟩ K hK
  show (⟨y.st.S.set id _,y.st.T ++ [0],y.st.M⟩:St) = _
  rw [hS,hT,hM]
end Go.Proofs.YtinffhimfoicdaaGreat.Calc
namespace Go.Proofs.YtinffhimfoicdaaGreat.Calc
open Go Go.RowKit
set_option linter.unusedVariables false
section
variable {P:Program} {ok okm:Nat → Bool} {o:Oper} {ρ:Rg} {st:St} {Q:Rg → St → Prop} {x y:Operand}
theorem jek {f:BinOp} {t ty:Nat} {a b:Value} {br:BV} (ho:o.op = .binOp f t x y ty) (hx:(evB ρ x).bind jh6 = some a) (hy:(evB ρ y).bind jh6 = some b) (hv:(gb P (do eqGuard f t x y a b;binOp f t a b)).bind d6 = some br) (hq:Q (ke ρ o.dst br) st):OpR P ok okm o ρ st Q:=by
  intro nt z c Kx h1 h2 h3 h4
  subst h1
  obtain ⟨bx,hx1,hx2⟩:=Option.bind_eq_some_iff.1 hx
  have hax:=kw (h3.ev hx1) hx2
  obtain ⟨by',hy1,hy2⟩:=Option.bind_eq_some_iff.1 hy
  have hay:=kw (h3.ev hy1) hy2
  obtain ⟨v,hv,hb⟩:=sb (x:=z) hv
  have hrun:(execOp c.eval o).run P z.w = .ok (.value v) z.w:=by
    obtain ⟨dst,op,type,pos,after,guard⟩:=o
    subst ho
    rw [show (execOp c.eval { dst:=dst,op:=.binOp f t x y ty,type:=type,pos:=pos,after:=after,guard:=guard }) =(do let z ← (do eqGuard f t x y (c.eval x) (c.eval y);binOp f t (c.eval x) (c.eval y));pure (.value z)) from rfl,hax,hay,Sem.run_bind,hv]
    simp
  unfold Oper.wp
  rw [hrun]
  exact ⟨_,z,[],[],rfl,hq,h2,Step.refl _ _ _,by simp,by simp,h3.put h4 hb⟩
end
theorem job {P:Program} {w:World} {t e:Nat} {i:TypeInfo} (ht:P.underlying t = some (.slice e)) (hi:P.info? e = some i):(Instr.buildSlice t 0 #[]).run P w = .ok (.slice (some ⟨w.heap.size,0,none⟩) 0 0) (w.alloc (.cells #[] e)):=by
  have h2:¬ 0 * i.size > 2 ^ 24:=by omega
  have h1:0 * i.size = 0:=Nat.zero_mul _
  simp [Instr.buildSlice,fo ht,gp hi,Instr.fill,newRow]
  have e0:∀ f:Nat → Value,Array.map f (Array.range 0) = #[]:=fun f=>Array.eq_empty_of_size_eq_zero (by simp)
  rw [e0]
theorem joc {P:Program} {ok okm:Nat → Bool} {o:Oper} {ρ:Rg} {S:List (List BV × Nat)} {T X:List Nat} {M:List (List (Value × DV))} {Q:Rg → St → Prop} {t e sz nt:Nat} (ho:o.op = .buildSlice t 0 #[]) (hT:T.length = nt) (he:u9 P t = some (e,sz))
    (hq:Q (ke ρ o.dst (.own e sz (nt + X.length) [] 0)) ⟨S,T ++(X ++ [0]),M⟩):OpR P ok okm o ρ ⟨S,T ++ X,M⟩ Q:=by
  intro nt' y a Kx h1 h2 h3 h4
  obtain ⟨g1,ti,g2,g3⟩:=jk he
  have hgr:=k9 y.w (.cells #[] e)
  have hrun:(execOp a.eval o).run P y.w = .ok (.value (.slice (some ⟨y.w.heap.size,0,none⟩) 0 0)) (y.w.alloc (.cells #[] e)):=by
    obtain ⟨dst,op,type,pos,after,guard⟩:=o
    subst ho
    simp [execOp,job g1 g2]
  unfold Oper.wp
  rw [hrun]
  have hrep:=wm (x:=y) (cur:=#[]) (e:=e) (sz:=sz) (n:=0) (cap:=0) (ds:=[]) (vs:=[]) h2 hgr rfl .nil (by simp) (by simp) (Nat.le_refl _) (Nat.zero_le _) (by simp)
  refine ⟨_,ko y _ 0,[],[],rfl,?_,sc h2 hgr,mr h2 hgr,by simp,by simp,(h3.step (mr h2 hgr)).put h4 hrep⟩
  have e1:y.st.T.length = nt + X.length:=by rw [h1,← hT];exact List.length_append
  rw [e1]
  have e2:∀ w',(ko y w' 0).st = ⟨S,T ++(X ++ [0]),M⟩:=fun w'=>by
    show (⟨y.st.S,y.st.T ++ [0],y.st.M⟩:St) = _
    rw [h1,List.append_assoc]
  rw [e2]
  exact hq
theorem rt {P:Program} {Wr Wm:List Nat} {f:Nat} {args:List BV} {st:St} {Q:BV → St → Prop} (e sz:Nat)
    (h:ci P Wr Wm f args st (fun r s=>∃ id cs ty j,s.S[id]? = some (cs,ty) ∧ cs[j]? = some (.tight [] 0) ∧ Q r ⟨s.S.set id (cs.set j (.own e sz s.T.length [] 0),ty),s.T ++ [0],s.M⟩)):ci P Wr Wm f args st Q:=by
  intro x vs h1 h2 h3
  refine (h x vs h1 h2 h3).mono fun ex w' ⟨r,v,z,e1,⟨id,cs,ty,j,q1,q2,q3⟩,hv,hg,hs,hw⟩=>?_
  have g1:=k8 hg
  have hid1:(et z).st.S[id]? = some (cs,ty):=q1
  have g2:Good (ka (et z) id (cs.set j (.own e sz z.st.T.length [] 0),ty)):=rr g1 hid1 fun vs hvs=>by
    refine hvs.setAt fun v hv=>?_
    obtain ⟨w,hw1,hw2⟩:=hvs.get q2
    obtain rfl:=Option.some.inj (hv.symm.trans hw1)
    cases hw2 with
    | tight _ _ base hb=>exact .own e sz _ [] 0 0 _ hb (by simp [et]) (Nat.le_refl _) (fun _=>.inr ⟨by simp [et],rfl,rfl,base,rfl⟩)
  have hst:=(fw z).trans (me (et z) id (cs.set j (.own e sz z.st.T.length [] 0),ty))
  exact ⟨r,v,_,e1,q3,hv.mono hst,g2,hs.trans' hst (fun i hi _=>by cases hi) (fun i hi _=>by cases hi),hw⟩
section
variable {C:Cx} {ops:Array Oper} {l:List Oper} {ρ:Rg} {st:St} {Q:Rg → St → Prop} {dst:Option Nat} {op:Op} {ty:Nat} {pos:String} {aft:Array Edge} {g:Option (Nat × Bool)} {Wr ds:List Nat} {p:Plan} {i:Nat}
theorem VcM {c:Call} {f:Nat} {ars:List BV} {R:BV → St → Prop} (hg:gB ops ρ g = some true) (hc:np ρ c = some (f,ars)) (hf:jdz C.P f = true) (h:∃ m,C.nm ≤ m ∧ ci C.P [] [m] f ars st R)
    (k:∀ r st',R r st' → ew C ops l (ke ρ dst r) st' Q):ew C ops (⟨dst,.call c,ty,pos,aft,g⟩ :: l) ρ st Q:=by
  obtain ⟨m,hm,h⟩:=h
  exact Vc hg hc hf h (by simp) (fun i hi _=>by obtain rfl:=List.mem_singleton.1 hi;simp [okM,hm]) k
end
theorem jod {P:Program} {st:St} {ρ:Rg} {x:Operand} {t f u off sz:Nat} {ag:Bool} {z l:List BV} {b:BV} (hx:evB ρ x = some (.agg l)) (hf:jmn P t f = some (u,off)) (ht:pi P u = some (ag,sz,z)) (hp:part ag sz off l = some b):bn P st ρ (.field t x f) = some b:=by
  simp only [bn,hx,hf,ht,hp]
end Go.Proofs.YtinffhimfoicdaaGreat.Calc
namespace Go.Proofs.YtinffhimfoicdaaGreat
open Go Go.RowKit Go.Proofs.YtinffhimfoicdaaGreat.Calc
set_option linter.unusedVariables false
set_option linter.unusedSimpArgs false
set_option maxRecDepth 100000
set_option maxHeartbeats 8000000
attribute [local irreducible] Tri ew er ci bn db d7 inQ jb
theorem jun:∀ n e (d:Int),qa e ≤ n → qa e ≤ 1000000 → BEx e → 0 ≤ d → d ≤ 100 → PC 86 [vEx e,vI d] (fun r=>∃ b,r = vB b ∧(b = true → jfw e)):=by
  intro n
  induction n using Nat.strongRecOn with
  | _ n ih=>?_
  rintro ⟨kd,num,t,na,ty,l,o,nth⟩ d hn hN hB hd0 hd1
  rw [BEx] at hB
  obtain ⟨hB1,hB2,hB3,hB4⟩:=hB
  rw [qa] at hn hN
  have hlen:=fp l
  have har:=ui kd l.length
  have hs1:na.size < 4611686018427387904:=by omega
  have hs2:ty.size < 4611686018427387904:=by omega
  unfold vEx
  rw [jn]
  intro S T M
  refine am [] [] Tryz.func86 rfl Tryz.ntmps86 Tryz.results86 ?_
  repeat' (first|apply ab|(apply V;rfl;(apply bg;rfl))|(apply Vw;rfl;(apply cj;rfl;rfl;rfl))|(apply ac;rfl))
  refine ju (fun ρ st=>st = ⟨S ++ [([vI kd,.d (dN num),vS t,vS na,vS ty,.d (qg l),vS o,vI nth],124)],T ++ [],M⟩ ∧ ∃(b5 b6 b7 b8:Bool),1 ≤ kd ∧ kd ≤ 18 ∧ ng ρ [(1,vI d),(2,.ptr (S.length + 0) 0),(5,vB b5),(6,vB b6),(7,vB b7),(8,vB b8),(9,vI (jam kd l.length))]) ?_ ?_
  · repeat' (first|apply ab|(apply V;rfl;(first|(apply bl;rfl)|(apply bg;rfl)|(apply cb;(apply plT;rfl);rfl;rfl;decide)|(apply bz;(apply tyT;rfl);rfl;(apply at_;rfl;rfl);rfl)|(apply bq;(apply elT;rfl);rfl;rfl)|(apply fx;(apply udT;rfl);rfl)|(apply ca;rfl;rfl)|(apply bu;rfl;rfl)|(apply cg;rfl)|(apply jcm;rfl;rfl)))|(apply Vp;rfl;rfl;apply fnT;rfl;apply jwx;omega;rintro _ ⟨n_,rfl,hn1_,hn2_⟩)|(apply Vp;rfl;rfl;apply fnT;rfl;apply jms;assumption;rintro _ ⟨(_|_),rfl⟩)|(apply oP;rfl;rfl;rfl;apply fnT;rfl;apply jms;assumption;rintro _ ⟨(_|_),rfl⟩)|(apply Vp;rfl;rfl;apply fnT;rfl;apply jp5;assumption;rintro _ ⟨(_|_),rfl⟩)|(apply oP;rfl;rfl;rfl;apply fnT;rfl;apply jp5;assumption;rintro _ ⟨(_|_),rfl⟩)|(apply Vp;rfl;rfl;apply fnT;rfl;apply jt2;rintro _ ⟨(_|_),rfl⟩)|(apply Vp;rfl;rfl;apply fnT;rfl;apply jt5;rintro _ ⟨(_|_),rfl⟩)|(apply de (nt:=196) (.take 0 (.take 1 (.take 3 (.take 4 (.one 2 (.one 5 (.take 6 (.take 7 .nil)))))))) [] [];exact co;rfl;decide +kernel)|(apply de (nt:=196) (.take 0 (.take 1 (.take 3 (.take 4 (.take 5 (.take 6 (.one 2 (.take 7 (.take 8 .nil))))))))) [] [];exact co;rfl;decide +kernel)|(apply de (nt:=196) (.take 0 (.take 1 (.take 3 (.take 4 (.take 5 (.one 2 (.take 6 (.take 7 .nil)))))))) [] [];exact co;rfl;decide +kernel)|(apply de (nt:=196) (.take 0 (.take 1 (.take 3 (.take 4 (.take 6 (.take 7 (.take 8 (.one 2 (.one 5 (.take 9 (.take 10 (.take 11 .nil)))))))))))) [] [];exact co;rfl;decide +kernel)|(apply de (nt:=196) (.take 0 (.take 1 (.take 3 (.take 4 (.take 5 (.one 2 (.take 6 (.take 7 .nil)))))))) [] [];exact co;rfl;decide +kernel)|(apply Vd;rfl;(first|(apply cu;rfl;rfl)|(apply mj;rfl;rfl)|(apply ep;rfl;rfl)|(apply dq;rfl;rfl));all_goals intro h_)|(apply Vo;rfl)|(apply ac;rfl)|apply ak|(apply al;rfl)|apply aj|apply ah|apply ai|(apply ae;rfl)|(apply af;rfl)|(apply bf _ (.inr rfl);(exact List.prefix_append _ _);(focus repeat (first|apply a8|(apply a9;rfl)));rfl)|apply ap|apply cq|apply dm|apply aw|apply dg|(apply tV;rfl;rfl;(first|(apply bl;rfl)|(apply bg;rfl)|(apply cb;(apply plT;rfl);rfl;rfl;decide)|(apply bz;(apply tyT;rfl);rfl;(apply at_;rfl;rfl);rfl)|(apply bq;(apply elT;rfl);rfl;rfl)|(apply fx;(apply udT;rfl);rfl)|(apply ca;rfl;rfl)|(apply bu;rfl;rfl)|(apply cg;rfl)|(apply jcm;rfl;rfl));rfl))
    all_goals first|exact ⟨false,rfl,nofun⟩|exact ⟨rfl,_,_,_,_,by omega,by omega,rfl,rfl,rfl,rfl,rfl,rfl,di (by first|omega|(split <;> omega)),trivial⟩
  rintro ρ _ ⟨rfl,b5,b6,b7,b8,hk1,hk2,hρ⟩
  refine c9 (dt hρ) ?_
  apply ak
  refine ju (fun ρ st=>st = ⟨S ++ [([vI kd,.d (dN num),vS t,vS na,vS ty,.d (qg l),vS o,vI nth],124)],T ++ [],M⟩ ∧ ∃ b:Bool,(b = false → l.length = jam kd l.length ∧ d ≤ 40) ∧ ng ρ [(1,vI d),(2,.ptr (S.length + 0) 0),(7,vB b7),(8,vB b8),(153,vB b)]) ?_ ?_
  · cases b5 <;> cases b6
    all_goals
      repeat' (first|apply ab|(apply V;rfl;(first|(apply bl;rfl)|(apply cb;(apply plT;rfl);rfl;rfl;decide)|(apply bz;(apply tyT;rfl);rfl;(apply at_;rfl;rfl);rfl)|(apply bq;(apply elT;rfl);rfl;rfl)|(apply ca;rfl;rfl)|(apply bu;rfl;rfl)|(apply cg;rfl)))|(apply Vd;rfl;(first|(apply gj;rfl;rfl)|(apply dq;rfl;rfl)|(apply fb;rfl;rfl)|(apply fy;rfl;rfl));all_goals intro h_)|(apply Vo;rfl)|(apply al;rfl)|apply ap)
      all_goals exact ⟨rfl,_,by first|(intro;constructor <;> omega)|nofun,rfl,rfl,rfl,rfl,rfl,trivial⟩
  rintro ρ _ ⟨rfl,b,hb,hρ⟩
  refine c9 (dt hρ) ?_
  cases b
  case true =>
    repeat' (first|apply ab|(apply V;rfl;(apply bg;rfl))|(apply ac;rfl)|apply ai|(apply ae;rfl)|(apply bf _ (.inr rfl);(exact List.prefix_append _ _);(focus repeat (first|apply a8|(apply a9;rfl)));rfl)|apply aw)
    all_goals exact ⟨false,rfl,nofun⟩
  obtain ⟨hb,hd40⟩:=hb rfl
  apply af
  · rfl
  apply ah
  apply ap
  apply ak
  refine ju (fun ρ st=>st = ⟨S ++ [([vI kd,.d (dN num),vS t,vS na,vS ty,.d (qg l),vS o,vI nth],124)],T ++ [],M⟩ ∧ ∃ b:Bool,ng ρ [(1,vI d),(2,.ptr (S.length + 0) 0),(179,vB b)]) ?_ ?_
  · cases b7 <;> cases b8
    all_goals
      repeat' (first|apply ab|(apply V;rfl;(first|(apply bl;rfl)|(apply cb;(apply plT;rfl);rfl;rfl;decide)|(apply bz;(apply tyT;rfl);rfl;(apply at_;rfl;rfl);rfl)|(apply ca;rfl;rfl)|(apply bu;rfl;rfl)|(apply cg;rfl)))|(apply Vp;rfl;rfl;apply fnT;rfl;apply jt3;rintro _ ⟨(_|_),rfl⟩)|(apply Vp;rfl;rfl;apply fnT;rfl;apply jt4;rintro _ ⟨(_|_),rfl⟩)|(apply Vd;rfl;(apply fy;rfl;rfl);all_goals intro h_)|(apply Vo;rfl)|(apply al;rfl)|apply ap)
      all_goals exact ⟨rfl,_,rfl,rfl,rfl,trivial⟩
  rintro ρ _ ⟨rfl,b,hρ⟩
  refine c9 (dt hρ) ?_
  cases b
  case true =>
    repeat' (first|apply ab|(apply V;rfl;(apply bg;rfl))|(apply ac;rfl)|apply ai|(apply ae;rfl)|(apply bf _ (.inr rfl);(exact List.prefix_append _ _);(focus repeat (first|apply a8|(apply a9;rfl)));rfl)|apply aw)
    all_goals exact ⟨false,rfl,nofun⟩
  repeat' (first|apply ab|(apply V;rfl;(apply bg;rfl))|(apply ac;rfl)|apply ak|apply aj|apply ah|(apply af;rfl)|apply ap)
  refine eh (fun j:Nat=>l.length - j) (fun j=>[(1,vI d),(2,.ptr (S.length + 0) 0),(10,vI j)]) (fun j=>j ≤ l.length ∧ ∀ k c,k < j → l[k]? = some c → jfw c) 0 ⟨Nat.zero_le _,fun k c h=>by omega⟩ ⟨rfl,rfl,rfl,trivial⟩ ?_
  rintro j ⟨hj,hpre⟩
  repeat' (first|apply ab|(apply V;rfl;(first|(apply bl;rfl)|(apply bg;rfl)|(apply cb;(apply plT;rfl);rfl;rfl;decide)|(apply bz;(apply tyT;rfl);rfl;(apply at_;rfl;rfl);rfl)|(apply bq;(apply elT;rfl);rfl;rfl)))|(apply Vd;rfl;(apply cu;rfl;rfl);all_goals intro h_)|(apply ac;rfl)|apply ak|apply aj|apply ah|apply bd|apply ai|(apply ae;rfl)|(apply af;rfl)|(apply bf _ (.inr rfl);(exact List.prefix_append _ _);(focus repeat (first|apply a8|(apply a9;rfl)));rfl)|apply ap|apply ey|apply bo)
  · obtain ⟨c,hc⟩:∃ c,l[j]? = some c:=⟨_,List.getElem?_eq_getElem (by omega)⟩
    have hsz:=jo hc
    have h74:=ih (qa c) (by omega) c (d + 1) (Nat.le_refl _) (by omega) (jan hB4 hc) (by omega) (by omega)
    repeat' (first|apply ab|(apply V;rfl;(first|(apply bl;rfl)|(apply bg;rfl)|(apply dp;(apply tyT;rfl);rfl;(first|rfl|apply ay|apply ba))|(apply cg;rfl)|(apply az;rfl;rfl;rfl;omega)|(apply j0 (c:=c) (d4 l) ay;apply elT;rfl;rfl;rfl;rfl;omega;simpa using hc)))|(apply Vp;rfl;rfl;apply fnT;rfl;apply h74;rintro _ ⟨(_|_),rfl,hok_⟩)|(apply ac;rfl)|(apply al;rfl)|apply ah|apply ai|(apply ae;rfl)|(apply af;rfl)|(apply bf _ (.inr rfl);(exact List.prefix_append _ _);(focus repeat (first|apply a8|(apply a9;rfl)));rfl)|apply ap|apply cq|apply dm|apply aw)
    · exact ⟨false,rfl,nofun⟩
    · refine ⟨j + 1,by omega,⟨by omega,fun k c' hk hc'=>?_⟩,⟨rfl,rfl,di (by omega),trivial⟩,rfl⟩
      by_cases hkj:k = j
      · subst hkj
        obtain rfl:=Option.some.inj (hc.symm.trans hc')
        exact hok_ rfl
      · exact hpre k c' (by omega) hc'
  · exact ⟨true,rfl,fun _=>by rw [jfw];exact ⟨hk1,hk2,hb,si fun k c hk=>hpre k c (by have:=(List.getElem?_eq_some_iff.1 hk).1;omega) hk⟩⟩
theorem jw7 (e:Ex) (d:Int) (h:qa e ≤ 1000000) (hb:BEx e) (h0:0 ≤ d ∧ d ≤ 100):PC 86 [vEx e,vI d] (fun r=>∃ b,r = vB b ∧(b = true → jfw e)):=jun _ e d (Nat.le_refl _) h hb h0.1 h0.2
end Go.Proofs.YtinffhimfoicdaaGreat
namespace Go.Proofs.YtinffhimfoicdaaGreat
open Go Go.RowKit Go.Proofs.YtinffhimfoicdaaGreat.Calc
set_option linter.unusedVariables false
set_option linter.unusedSimpArgs false
set_option maxRecDepth 100000
set_option maxHeartbeats 8000000
attribute [local irreducible] Tri ew er ci bn db d7 inQ jb
def jq1 (kd:Int) (n:Nat):Prop:=((kd = 1 ∨ kd = 3 ∨ kd = 4 ∨ kd = 5 ∨ kd = 7 ∨ kd = 8 ∨ kd = 9) → n = 1) ∧(kd = 2 → n = 2)
theorem juo (kd num:Int) (ty nm:ByteArray) (e:List Ex) (a b c:List Sm) (nth:Int) (ht:ty.size ≤ 1000000) (hn:nm.size ≤ 1000000):PC 139 [vSm (.mk kd num ty nm e a b c nth)] (fun r=>∃ q,r = vB q ∧(q = true → jq1 kd e.length)):=by
  have hs1:ty.size < 4611686018427387904:=by omega
  have hs2:nm.size < 4611686018427387904:=by omega
  unfold vSm
  rw [nh]
  intro S T M
  refine am [] [] Tryz.func139 rfl Tryz.ntmps139 Tryz.results139 ?_
  repeat' (first|apply ab|(apply V;rfl;(apply bg;rfl))|(apply Vw;rfl;(apply cj;rfl;rfl;rfl))|(apply ac;rfl))
  refine ju (fun ρ st=>st = ⟨S ++ [([vI kd,.d (dN num),vS ty,vS nm,.d (qg e),.d (eq a),.d (eq b),.d (eq c),vI nth],126)],T ++ [],M⟩ ∧ ∃(b4 b5 b6:Bool),ng ρ [(1,.ptr (S.length + 0) 0),(3,vI e.length),(4,vB b4),(5,vB b5),(6,vB b6)]) ?_ ?_
  · repeat' (first|(apply de (nt:=234) (.take 0 (.take 1 (.take 2 (.take 3 (.take 4 (.take 5 (.take 6 (.take 7 (.take 8 (.take 9 (.take 10 (.take 11 (.take 12 (.take 13 (.take 14 (.take 15 (.take 16 (.take 17 (.take 18 .nil))))))))))))))))))) [] [];exact co;rfl;decide +kernel)|apply ap|apply dg|(apply tV;rfl;rfl;(first|(apply bg;rfl)|(apply cb;(apply plT;rfl);rfl;rfl;decide)|(apply bz;(apply tyT;rfl);rfl;(apply at_;rfl;rfl);rfl)|(apply bq;(apply elT;rfl);rfl;rfl));rfl)|(apply tVd;rfl;rfl;(apply dq;rfl;rfl);rfl;all_goals intro h_))
    all_goals exact ⟨rfl,_,_,_,rfl,rfl,rfl,rfl,rfl,trivial⟩
  rintro ρ _ ⟨rfl,b4,b5,b6,hρ⟩
  refine c9 (dt hρ) ?_
  refine ju (fun ρ st=>st = ⟨S ++ [([vI kd,.d (dN num),vS ty,vS nm,.d (qg e),.d (eq a),.d (eq b),.d (eq c),vI nth],126)],T ++ [],M⟩ ∧ ∃(b7:Bool),ng ρ [(1,.ptr (S.length + 0) 0),(3,vI e.length),(4,vB b4),(5,vB b5),(6,vB b6),(7,vB b7)]) ?_ ?_
  · repeat' (first|apply ab|(apply V;rfl;(first|(apply bl;rfl)|(apply bg;rfl)|(apply cb;(apply plT;rfl);rfl;rfl;decide)|(apply bz;(apply tyT;rfl);rfl;(apply at_;rfl;rfl);rfl)|(apply ca;rfl;rfl)|(apply bu;rfl;rfl)))|(apply Vd;rfl;(first|(apply dq;rfl;rfl)|(apply du;rfl;rfl));all_goals intro h_)|(apply Vo;rfl)|(apply al;rfl)|apply ap)
    all_goals exact ⟨rfl,_,rfl,rfl,rfl,rfl,rfl,rfl,trivial⟩
  rintro ρ _ ⟨rfl,b7,hρ⟩
  refine c9 (dt hρ) ?_
  by_cases he:e.length = 0
  · repeat' (first|apply ab|(apply V;rfl;(first|(apply bl;rfl)|(apply bg;rfl)|(apply cb;(apply plT;rfl);rfl;rfl;decide)|(apply bz;(apply tyT;rfl);rfl;(apply at_;rfl;rfl);rfl)|(apply ca;rfl;rfl)|(apply bu;rfl;rfl)))|(apply Vp;rfl;rfl;apply fnT;rfl;apply jp5;assumption;rintro _ ⟨(_|_),rfl⟩)|(apply Vp;rfl;rfl;apply fnT;rfl;apply jms;assumption;rintro _ ⟨(_|_),rfl⟩)|(apply Vd;rfl;(first|(apply mj;rfl;rfl)|(apply dq;rfl;rfl));all_goals intro h_)|(apply Vo;rfl)|(apply ac;rfl)|apply ak|(apply al;rfl)|apply aj|apply ah|apply ai|(apply ae;rfl)|(apply af;rfl)|(apply bf _ (.inr rfl);(exact List.prefix_append _ _);(focus repeat (first|apply a8|(apply a9;rfl)));rfl)|apply ap|apply cq|apply dm|apply aw|(show ew _ _ _ _ _ _;exfalso;omega)|(show ew _ _ _ _ _ _;cases b4)|(show ew _ _ _ _ _ _;cases b5)|(show ew _ _ _ _ _ _;cases b6))
    all_goals first|exact ⟨false,rfl,nofun⟩|exact ⟨_,rfl,fun _=>by unfold jq1;omega⟩
  · obtain ⟨⟨k0,n0,t0,na0,ty0,l0,o0,nth0⟩,hc⟩:∃ c,e[0]? = some c:=⟨_,List.getElem?_eq_getElem (by omega)⟩
    repeat' (first|apply ab|(apply V;rfl;(first|(apply bl;rfl)|(apply bg;rfl)|(apply cb;(apply plT;rfl);rfl;rfl;decide)|(apply fz;(apply plT;rfl);rfl;rfl;decide)|(apply bz;(apply tyT;rfl);rfl;(apply at_;rfl;rfl);rfl)|(apply ef;(apply tyT;rfl);rfl;rfl)|(apply ca;rfl;rfl)|(apply bu;rfl;rfl)|(apply j0 (d4 e) ay;apply elT;rfl;rfl;rfl;rfl;omega;simpa using hc)))|(apply Vp;rfl;rfl;apply fnT;rfl;apply jqq;assumption;rintro _ ⟨(_|_),rfl⟩)|(apply Vp;rfl;rfl;apply fnT;rfl;apply jp5;assumption;rintro _ ⟨(_|_),rfl⟩)|(apply Vp;rfl;rfl;apply fnT;rfl;apply jms;assumption;rintro _ ⟨(_|_),rfl⟩)|(apply Vp;rfl;rfl;apply fnT;rfl;apply jqn;rintro _ ⟨(_|_),rfl⟩)|(apply Vp;rfl;rfl;apply fnT;rfl;apply jqo;rintro _ ⟨(_|_),rfl⟩)|(apply Vd;rfl;(first|(apply mj;rfl;rfl)|(apply ep;rfl;rfl)|(apply dq;rfl;rfl)|(apply du;rfl;rfl));all_goals intro h_)|(apply Vo;rfl)|(apply ac;rfl)|apply ak|(apply al;rfl)|apply aj|apply ah|apply ai|(apply ae;rfl)|(apply af;rfl)|(apply bf _ (.inr rfl);(exact List.prefix_append _ _);(focus repeat (first|apply a8|(apply a9;rfl)));rfl)|apply ap|apply cq|apply dm|apply aw|(show ew _ _ _ _ _ _;cases b4)|(show ew _ _ _ _ _ _;cases b5)|(show ew _ _ _ _ _ _;cases b6)|(show ew _ _ _ _ _ _;cases b7))
    all_goals first|exact ⟨false,rfl,nofun⟩|exact ⟨_,rfl,fun _=>by unfold jq1;omega⟩
end Go.Proofs.YtinffhimfoicdaaGreat
namespace Go.Proofs.YtinffhimfoicdaaGreat
open Go Go.RowKit Go.Proofs.YtinffhimfoicdaaGreat.Calc
set_option linter.unusedVariables false
set_option linter.unusedSimpArgs false
set_option maxRecDepth 100000
set_option maxHeartbeats 8000000
attribute [local irreducible] Tri ew er ci bn db d7 inQ jb
mutual
def nw:Sm → Prop
  | .mk kd _ _ _ e a b c _=>jq1 kd e.length ∧ vr e ∧ kx a ∧ kx b ∧ kx c
def kx:List Sm → Prop
  | []=>True
  | e :: l=>nw e ∧ kx l
end
mutual
def BSm:Sm → Prop
  | .mk _ _ ty nm e a b c _=>ty.size ≤ 1000000 ∧ nm.size ≤ 1000000 ∧ rz e ∧ vu a ∧ vu b ∧ vu c
def vu:List Sm → Prop
  | []=>True
  | e :: l=>BSm e ∧ vu l
end
theorem jcw:∀ {l:List Sm},(∀(k:Nat) (c:Sm),l[k]? = some c → nw c) → kx l
  | [],_=>by rw [kx];trivial
  | e :: l,h=>by
    rw [kx]
    exact ⟨h 0 e rfl,jcw fun k c hk=>h (k + 1) c (by simpa using hk)⟩
theorem jio:∀ {l:List Sm} {k:Nat} {c:Sm},vu l → l[k]? = some c → BSm c
  | [],k,c,_,h=>by simp at h
  | e :: l,0,c,hb,h=>by
    rw [vu] at hb
    simp only [List.getElem?_cons_zero,Option.some.injEq] at h
    exact h ▸ hb.1
  | e :: l,k + 1,c,hb,h=>by
    rw [vu] at hb
    exact jio hb.2 (by simpa using h)
theorem jgb:∀ {l:List Sm} {k:Nat} {c:Sm},kx l → l[k]? = some c → nw c
  | [],k,c,_,h=>by simp at h
  | e :: l,0,c,hb,h=>by
    rw [kx] at hb
    simp only [List.getElem?_cons_zero,Option.some.injEq] at h
    exact h ▸ hb.1
  | e :: l,k + 1,c,hb,h=>by
    rw [kx] at hb
    exact jgb hb.2 (by simpa using h)
theorem jup:∀ n l (d:Int) (sup:Bool),d5 l ≤ n → d5 l ≤ 1000000 → vu l → 0 ≤ d → d ≤ 100 → PC 119 [.d (eq l),vI d,vB sup] (fun r=>∃ b,r = vB b ∧(b = true → kx l)):=by
  intro n
  induction n using Nat.strongRecOn with
  | _ n ih=>?_
  intro l d sup hn hN hB hd0 hd1
  have hlen:=qi l
  intro S T M
  refine am [] [] Tryz.func119 rfl Tryz.ntmps119 Tryz.results119 ?_
  repeat' (first|apply ab|(apply V;rfl;(apply bg;rfl))|(apply ac;rfl)|apply ak|apply aj)
  refine cx (fun k:Nat=>l.length - k) (fun k=>[(0,.d (eq l)),(1,vI d),(2,vB sup),(7,vI k)]) (fun k S1 T1=>k ≤ l.length ∧ S.length ≤ S1.length ∧ T <+: T1 ∧ ∀ i c,i < k → l[i]? = some c → nw c) 0 ⟨Nat.zero_le _,by simp,by simp,fun i c h=>by omega⟩ ⟨rfl,rfl,rfl,rfl,trivial⟩ ?_
  rintro k S1 T1 ⟨hk,hS,hT,hpre⟩
  repeat' (first|apply ab|(apply V;rfl;(first|(apply bl;rfl)|(apply bg;rfl)|(apply bq;(apply elT;rfl);rfl;rfl)))|(apply Vd;rfl;(apply cu;rfl;rfl);all_goals intro h_)|(apply ac;rfl)|apply ak|apply aj|apply ah|apply bd|apply ai|(apply ae;rfl)|(apply af;rfl)|(apply bf _ (.inr rfl);(apply av;assumption);(focus repeat (first|apply a8|(apply a9;rfl)));rfl)|apply ap|apply ey|apply bo)
  · have hlt:k < l.length:=by omega
    obtain ⟨⟨kd,num,ty,nm,e,a,b,c,nth⟩,hc⟩:∃ c,l[k]? = some c:=⟨_,List.getElem?_eq_getElem hlt⟩
    have hsz:=w9 hc
    have hBc:=jio hB hc
    rw [gm] at hsz
    rw [BSm] at hBc
    obtain ⟨hB1,hB2,hB3,hB4,hB5,hB6⟩:=hBc
    have hel:=fp e
    repeat' (first|apply ab|(apply V;rfl;(first|(apply dp;(apply tyT;rfl);rfl;(first|rfl|apply ay|apply ba))|(apply j0 (g8 l) ba;apply elT;rfl;rfl;rfl;rfl;omega;simpa using hc)))|(apply Vw;rfl;(apply cd;rfl;(apply tyT;rfl)))|(apply Vs;rfl;(apply bw;rfl;(apply tyT;rfl);rfl;rfl;rfl;(first|apply bc|(apply bh;omega));rfl;rfl;(first|decide|(apply Nat.le_of_ble_eq_true;rfl)))))
    apply ak
    refine ju (fun ρ st=>st = ⟨S1 ++ [([vI kd,.d (dN num),vS ty,vS nm,.d (qg e),.d (eq a),.d (eq b),.d (eq c),vI nth],126)],T1 ++ [],M⟩ ∧ ∃ q:Bool,(q = false → jq1 kd e.length ∧ d ≤ 40) ∧ ng ρ [(0,.d (eq l)),(1,vI d),(2,vB sup),(7,vI k),(8,.ptr (S1.length + 0) 0),(39,vB q)]) ?_ ?_
    · repeat' (first|apply ab|(apply V;rfl;(first|(apply bl;rfl)|(apply cb;(apply plT;rfl);rfl;rfl;decide)|(apply bj;(apply tyT;rfl);rfl;(apply at_;rfl;rfl);rfl)|(apply bz;(apply tyT;rfl);rfl;(apply at_;rfl;rfl);rfl)|(apply ca;rfl;rfl)|(apply bu;rfl;rfl)|(apply cg;rfl)))|(apply Vp;rfl;rfl;apply fnT;rfl;apply juo;assumption;assumption;rintro _ ⟨(_|_),rfl,hsh_⟩)|(apply Vd;rfl;(first|(apply gj;rfl;rfl)|(apply dq;rfl;rfl));all_goals intro h_)|(apply Vo;rfl)|(apply al;rfl)|apply ap|(show ew _ _ _ _ _ _;cases sup))
      all_goals exact ⟨rfl,_,by first|exact fun _=>⟨hsh_ rfl,by omega⟩|nofun,rfl,rfl,rfl,rfl,rfl,rfl,trivial⟩
    rintro ρ _ ⟨rfl,q,hq,hρ⟩
    refine c9 (dt hρ) ?_
    cases q
    case true =>
      repeat' (first|apply ab|(apply V;rfl;(apply bg;rfl))|(apply ac;rfl)|apply ai|(apply ae;rfl)|(apply bf _ (.inr rfl);(apply av;assumption);(focus repeat (first|apply a8|(apply a9;rfl)));rfl)|apply dm|apply aw)
      all_goals exact ⟨false,rfl,nofun⟩
    obtain ⟨hsh,hd40⟩:=hq rfl
    apply af
    · rfl
    apply ah
    apply ap
    repeat' (first|apply ab|(apply V;rfl;(apply bg;rfl))|(apply ac;rfl)|apply ak|apply aj)
    refine eh (fun j:Nat=>e.length - j) (fun j=>[(0,.d (eq l)),(1,vI d),(2,vB sup),(7,vI k),(8,.ptr (S1.length + 0) 0),(9,vI j)]) (fun j=>j ≤ e.length ∧ ∀ i c,i < j → e[i]? = some c → jfw c) 0 ⟨Nat.zero_le _,fun i c h=>by omega⟩ ⟨rfl,rfl,rfl,rfl,rfl,rfl,trivial⟩ ?_
    rintro j ⟨hj,hpe⟩
    repeat' (first|apply ab|(apply V;rfl;(first|(apply bl;rfl)|(apply cb;(apply plT;rfl);rfl;rfl;decide)|(apply bz;(apply tyT;rfl);rfl;(apply at_;rfl;rfl);rfl)|(apply bq;(apply elT;rfl);rfl;rfl)|(apply az;rfl;rfl;rfl;omega)))|(apply Vd;rfl;(apply cu;rfl;rfl);all_goals intro h_)|(apply ac;rfl)|apply ak|apply aj|apply ah|apply bd|(apply ae;rfl)|(apply af;rfl)|apply ap|apply ey|apply bo)
    · obtain ⟨x,hx⟩:∃ c,e[j]? = some c:=⟨_,List.getElem?_eq_getElem (by omega)⟩
      have hxs:=jo hx
      have h74:=jw7 x d (by omega) (jan hB3 hx) ⟨hd0,hd1⟩
      repeat' (first|apply ab|(apply V;rfl;(first|(apply bl;rfl)|(apply bg;rfl)|(apply dp;(apply tyT;rfl);rfl;(first|rfl|apply ay|apply ba))|(apply cg;rfl)|(apply az;rfl;rfl;rfl;omega)|(apply j0 (c:=x) (d4 e) ay;apply elT;rfl;rfl;rfl;rfl;omega;simpa using hx)))|(apply Vp;rfl;rfl;apply fnT;rfl;apply h74;rintro _ ⟨(_|_),rfl,hok_⟩)|(apply ac;rfl)|(apply al;rfl)|apply ah|apply ai|(apply ae;rfl)|(apply af;rfl)|(apply bf _ (.inr rfl);(apply av;assumption);(focus repeat (first|apply a8|(apply a9;rfl)));rfl)|apply ap|apply cq|apply dm|apply aw)
      · exact ⟨false,rfl,nofun⟩
      · refine ⟨j + 1,by omega,⟨by omega,fun i c' hi hc'=>?_⟩,⟨rfl,rfl,rfl,rfl,rfl,di (by omega),trivial⟩,rfl⟩
        by_cases hij:i = j
        · subst hij
          obtain rfl:=Option.some.inj (hx.symm.trans hc')
          exact hok_ rfl
        · exact hpe i c' (by omega) hc'
    · have hE:vr e:=si fun i c' hc'=>hpe i c' (by have:=(List.getElem?_eq_some_iff.1 hc').1;omega) hc'
      have h1:=ih (d5 a) (by omega) a (d + 1) false (Nat.le_refl _) (by omega) hB4 (by omega) (by omega)
      have h2:=ih (d5 b) (by omega) b (d + 1) false (Nat.le_refl _) (by omega) hB5 (by omega) (by omega)
      have h3:=ih (d5 c) (by omega) c (d + 1) false (Nat.le_refl _) (by omega) hB6 (by omega) (by omega)
      repeat' (first|apply ab|(apply V;rfl;(first|(apply bl;rfl)|(apply bg;rfl)|(apply cb;(apply plT;rfl);rfl;rfl;decide)|(apply bz;(apply tyT;rfl);rfl;(apply at_;rfl;rfl);rfl)|(apply ca;rfl;rfl)|(apply bu;rfl;rfl)|(apply cg;rfl)|(apply az;rfl;rfl;rfl;omega)))|(apply Vp;rfl;rfl;apply fnT;rfl;apply h1;rintro _ ⟨(_|_),rfl,ha_⟩)|(apply Vp;rfl;rfl;apply fnT;rfl;apply h2;rintro _ ⟨(_|_),rfl,hb_⟩)|(apply Vp;rfl;rfl;apply fnT;rfl;apply h3;rintro _ ⟨(_|_),rfl,hc_⟩)|(apply Vo;rfl)|(apply ac;rfl)|(apply al;rfl)|apply ah|apply ai|(apply ae;rfl)|(apply af;rfl)|(apply bf _ (.inr rfl);(apply av;assumption);(focus repeat (first|apply a8|(apply a9;rfl)));rfl)|apply ap|apply cq|apply dm|apply aw)
      all_goals first|exact ⟨false,rfl,nofun⟩|skip
      refine ⟨k + 1,_,_,by omega,⟨by omega,by simp only [List.length_append];omega,av hT,fun i c' hi hc'=>?_⟩,⟨rfl,rfl,rfl,di (by omega),trivial⟩,rfl⟩
      by_cases hik:i = k
      · subst hik
        obtain rfl:=Option.some.inj (hc.symm.trans hc')
        rw [nw]
        exact ⟨hsh,hE,ha_ rfl,hb_ rfl,hc_ rfl⟩
      · exact hpre i c' (by omega) hc'
  · exact ⟨true,rfl,fun _=>jcw fun i c hc=>hpre i c (by have:=(List.getElem?_eq_some_iff.1 hc).1;omega) hc⟩
theorem juq (l:List Sm) (d:Int) (sup:Bool) (h:d5 l ≤ 1000000) (hb:vu l) (h0:0 ≤ d ∧ d ≤ 100):PC 119 [.d (eq l),vI d,vB sup] (fun r=>∃ b,r = vB b ∧(b = true → kx l)):=jup _ l d sup (Nat.le_refl _) h hb h0.1 h0.2
end Go.Proofs.YtinffhimfoicdaaGreat
namespace Go.Proofs.YtinffhimfoicdaaGreat
open Go Go.RowKit Go.Proofs.YtinffhimfoicdaaGreat.Calc
set_option linter.unusedVariables false
set_option linter.unusedSimpArgs false
set_option maxRecDepth 100000
set_option maxHeartbeats 8000000
attribute [local irreducible] Tri ew er ci bn db d7 inQ jb
def vMe (m:Me):BV:=.agg ((j1 m).map .d)
def vCl (c:Cl):BV:=.agg ((df c).map .d)
def BPa (x:Pa):Prop:=x.typ.size ≤ 1000000 ∧ x.name.size ≤ 1000000
def BMe (m:Me):Prop:=m.typ.size ≤ 1000000 ∧ m.name.size ≤ 1000000 ∧(∀ x ∈ m.params,BPa x) ∧ vu m.body
def BFi (f:Fi):Prop:=f.typ.size ≤ 1000000 ∧ f.name.size ≤ 1000000 ∧ rz f.init
def BCl (c:Cl):Prop:=c.name.size ≤ 1000000 ∧ c.super.size ≤ 1000000 ∧(∀ f ∈ c.fields,BFi f) ∧(∀ m ∈ c.methods,BMe m)
def BP (p:List Cl):Prop:=∀ c ∈ p,BCl c
def jp8 (f:Fi):Prop:=f.init.length ≤ 1 ∧ vr f.init
def jur (c:Cl):Prop:=(∀ f ∈ c.fields,jp8 f) ∧(∀ m ∈ c.methods,kx m.body)
def OKP (p:List Cl):Prop:=∀ c ∈ p,jur c
theorem jip {α:Type} {R:α → Prop} {l:List α} (h:∀(k:Nat) (c:α),l[k]? = some c → R c):∀ c ∈ l,R c:=fun c hc=>by
  obtain ⟨k,hk⟩:=List.getElem?_of_mem hc
  exact h k c hk
theorem jyg (m:Me) (h:y5 m ≤ 1000000) (hb:BMe m):PC 87 [vMe m] (fun r=>∃ q,r = vB q ∧(q = true → kx m.body)):=by
  obtain ⟨hb1,hb2,hb3,hb4⟩:=hb
  have hs1:m.typ.size < 4611686018427387904:=by omega
  have hs2:m.name.size < 4611686018427387904:=by omega
  simp only [y5] at h
  have h108:=juq m.body 1 m.ctor (by omega) hb4 ⟨by omega,by omega⟩
  obtain ⟨st0,ct,ty,nm,ps,body⟩:=m
  dsimp only at *
  unfold vMe j1
  intro S T M
  refine am [] [] Tryz.func87 rfl Tryz.ntmps87 Tryz.results87 ?_
  repeat' (first|apply ab|(apply V;rfl;(apply bg;rfl))|(apply Vw;rfl;(apply cj;rfl;rfl;rfl))|(apply ac;rfl))
  apply ak
  refine ju (fun ρ st=>st = ⟨S ++ [([vB st0,vB ct,vS ty,vS nm,.d (cy gk ps),.d (eq body)],98)],T ++ [],M⟩ ∧ ∃ q:Bool,ng ρ [(1,.ptr (S.length + 0) 0),(47,vB q)]) ?_ ?_
  · repeat' (first|apply ab|(apply V;rfl;(first|(apply bl;rfl)|(apply cb;(apply plT;rfl);rfl;rfl;decide)|(apply bz;(apply tyT;rfl);rfl;(apply at_;rfl;rfl);rfl)|(apply bq;(apply elT;rfl);rfl;rfl)|(apply ca;rfl;rfl)|(apply bu;rfl;rfl)|(apply cg;rfl)))|(apply Vp;rfl;rfl;apply fnT;rfl;apply jqq;assumption;rintro _ ⟨(_|_),rfl⟩)|(apply Vp;rfl;rfl;apply fnT;rfl;apply jms;assumption;rintro _ ⟨(_|_),rfl⟩)|(apply Vd;rfl;(first|(apply gj;rfl;rfl)|(apply fy;rfl;rfl));all_goals intro h_)|(apply Vo;rfl)|(apply al;rfl)|apply ap|(show ew _ _ _ _ _ _;cases st0)|(show ew _ _ _ _ _ _;cases ct))
    all_goals exact ⟨rfl,_,rfl,rfl,trivial⟩
  rintro ρ _ ⟨rfl,q,hρ⟩
  refine c9 (dt hρ) ?_
  cases q
  case true =>
    repeat' (first|apply ab|(apply V;rfl;(apply bg;rfl))|(apply ac;rfl)|apply ai|(apply ae;rfl)|(apply bf _ (.inr rfl);(exact List.prefix_append _ _);(focus repeat (first|apply a8|(apply a9;rfl)));rfl)|apply aw)
    all_goals exact ⟨false,rfl,nofun⟩
  repeat' (first|apply ab|(apply V;rfl;(apply bg;rfl))|(apply ac;rfl)|apply ak|apply aj|apply ah|(apply af;rfl)|apply ap)
  refine eh (fun j:Nat=>ps.length - j) (fun j=>[(1,.ptr (S.length + 0) 0),(3,vI j)]) (fun j=>j ≤ ps.length) 0 (Nat.zero_le _) ⟨rfl,rfl,trivial⟩ ?_
  intro j hj
  repeat' (first|apply ab|(apply V;rfl;(first|(apply bl;rfl)|(apply bg;rfl)|(apply cb;(apply plT;rfl);rfl;rfl;decide)|(apply bz;(apply tyT;rfl);rfl;(apply at_;rfl;rfl);rfl)|(apply bq;(apply elT;rfl);rfl;rfl)))|(apply Vp;rfl;rfl;apply fnT;rfl;apply h108;rintro _ ⟨q_,rfl,hq_⟩)|(apply Vd;rfl;(apply cu;rfl;rfl);all_goals intro h_)|(apply ac;rfl)|apply ak|apply aj|apply ah|apply bd|apply ai|(apply ae;rfl)|(apply af;rfl)|(apply bf _ (.inr rfl);(exact List.prefix_append _ _);(focus repeat (first|apply a8|(apply a9;rfl)));rfl)|apply ap|apply ey|apply bo)
  · obtain ⟨x,hx⟩:∃ c,ps[j]? = some c:=⟨_,List.getElem?_eq_getElem (by omega)⟩
    obtain ⟨hx1,hx2⟩:=hb3 x (List.mem_of_getElem? hx)
    have hx3:x.typ.size < 4611686018427387904:=by omega
    have hx4:x.name.size < 4611686018427387904:=by omega
    repeat' (first|apply ab|(apply V;rfl;(first|(apply bl;rfl)|(apply bg;rfl)|(apply cb;(apply plT;rfl);rfl;rfl;decide)|(apply fz;(apply plT;rfl);rfl;rfl;decide)|(apply bz;(apply tyT;rfl);rfl;(apply at_;rfl;rfl);rfl)|(apply ef;(apply tyT;rfl);rfl;rfl)|(apply ca;rfl;rfl)|(apply bu;rfl;rfl)|(apply cg;rfl)|(apply az;rfl;rfl;rfl;omega)|(apply bp (c:=x);apply elT;rfl;rfl;rfl;rfl;exact dn;omega;simpa using hx)))|(apply Vp;rfl;rfl;apply fnT;rfl;apply jqq;assumption;rintro _ ⟨(_|_),rfl⟩)|(apply Vp;rfl;rfl;apply fnT;rfl;apply jms;assumption;rintro _ ⟨(_|_),rfl⟩)|(apply Vo;rfl)|(apply ac;rfl)|(apply al;rfl)|apply ah|apply ai|(apply ae;rfl)|(apply af;rfl)|(apply bf _ (.inr rfl);(exact List.prefix_append _ _);(focus repeat (first|apply a8|(apply a9;rfl)));rfl)|apply ap|apply cq|apply dm|apply aw)
    all_goals first|exact ⟨false,rfl,nofun⟩|exact ⟨j + 1,by omega,by omega,⟨rfl,di (by omega),trivial⟩,rfl⟩
  · exact ⟨q_,rfl,hq_⟩
theorem js4 (p:List Cl) (h:szP p ≤ 1000000) (hb:BP p):PC 50 [vP p] (fun r=>∃ q,r = vB q ∧(q = true → OKP p ∧ p.length ≤ 20)):=by
  have hlen:=rm p
  intro S T M
  refine am [] [] Tryz.func50 rfl Tryz.ntmps50 Tryz.results50 ?_
  repeat' (first|apply ab|(apply V;rfl;(apply bg;rfl))|(apply Vw;rfl;(apply cj;rfl;rfl;rfl))|(apply ac;rfl))
  apply ak
  refine ju (fun ρ st=>st = ⟨S ++ [([.d (cy df p)],26)],T ++ [],M⟩ ∧ ∃ q:Bool,(q = false → p.length ≤ 20) ∧ ng ρ [(1,.ptr (S.length + 0) 0),(16,vB q)]) ?_ ?_
  · repeat' (first|apply ab|(apply V;rfl;(first|(apply bl;rfl)|(apply cb;(apply plT;rfl);rfl;rfl;decide)|(apply bj;(apply tyT;rfl);rfl;(apply at_;rfl;rfl);rfl)|(apply bz;(apply tyT;rfl);rfl;(apply at_;rfl;rfl);rfl)|(apply bq;(apply elT;rfl);rfl;rfl)|(apply ca;rfl;rfl)|(apply bu;rfl;rfl)))|(apply Vp;rfl;rfl;apply fnT;rfl;apply jx2;assumption;rintro _ ⟨n_,rfl⟩)|(apply Vd;rfl;(apply gj;rfl;rfl);all_goals intro h_)|(apply Vo;rfl)|(apply al;rfl)|apply ap)
    all_goals exact ⟨rfl,_,by first|(intro;omega)|nofun,rfl,rfl,trivial⟩
  rintro ρ _ ⟨rfl,q,hq,hρ⟩
  refine c9 (dt hρ) ?_
  cases q
  case true =>
    repeat' (first|apply ab|(apply V;rfl;(apply bg;rfl))|(apply ac;rfl)|apply ai|(apply ae;rfl)|(apply bf _ (.inr rfl);(exact List.prefix_append _ _);(focus repeat (first|apply a8|(apply a9;rfl)));rfl)|apply aw)
    all_goals exact ⟨false,rfl,nofun⟩
  have hp20:=hq rfl
  repeat' (first|apply ab|(apply V;rfl;(apply bg;rfl))|(apply ac;rfl)|apply ak|apply aj|apply ah|(apply af;rfl)|apply ap)
  refine cx (fun k:Nat=>p.length - k) (fun k=>[(1,.ptr (S.length + 0) 0),(3,vI k)]) (fun k S1 T1=>k ≤ p.length ∧ S.length ≤ S1.length ∧ T <+: T1 ∧ S1[S.length + 0]? = some ([.d (cy df p)],26) ∧ ∀ i c,i < k → p[i]? = some c → jur c) 0 ⟨Nat.zero_le _,by simp,by simp,at_ rfl rfl,fun i c h=>by omega⟩ ⟨rfl,rfl,trivial⟩ ?_
  rintro k S1 T1 ⟨hk,hS,hT,hbx,hpre⟩
  repeat' (first|apply ab|(apply V;rfl;(first|(apply bl;rfl)|(apply bg;rfl)|(apply cb;(apply plT;rfl);rfl;rfl;decide)|(apply bz;(apply tyT;rfl);rfl;(apply aa;assumption);rfl)|(apply bq;(apply elT;rfl);rfl;rfl)))|(apply Vd;rfl;(apply cu;rfl;rfl);all_goals intro h_)|(apply ac;rfl)|apply ak|apply aj|apply ah|apply bd|apply ai|(apply ae;rfl)|(apply af;rfl)|(apply bf _ (.inr rfl);(apply av;assumption);(focus repeat (first|apply a8|(apply a9;rfl)));rfl)|apply ap|apply ey|apply bo)
  · obtain ⟨c,hc⟩:∃ c,p[k]? = some c:=⟨_,List.getElem?_eq_getElem (by omega)⟩
    have hcs:=qh (f:=vd) hc
    have hfl:=k7 c
    have hml:=gd c
    unfold szP at h hlen
    obtain ⟨hb1,hb2,hb3,hb4⟩:=hb c (List.mem_of_getElem? hc)
    have hs1:c.name.size < 4611686018427387904:=by omega
    have hs2:c.super.size < 4611686018427387904:=by omega
    repeat' (first|apply ab|(apply V;rfl;(first|(apply dp;(apply tyT;rfl);rfl;(first|rfl|apply ay|apply ba))|(apply bp (c:=c);apply elT;rfl;rfl;rfl;rfl;exact da;omega;simpa using hc)))|(apply Vw;rfl;(apply cd;rfl;(apply tyT;rfl)))|(apply Vs;rfl;(apply bw;rfl;(apply tyT;rfl);rfl;rfl;rfl;(first|apply bc|(apply bh;omega));rfl;rfl;(first|decide|(apply Nat.le_of_ble_eq_true;rfl)))))
    apply ak
    refine ju (fun ρ st=>st = ⟨S1 ++ [([vS c.name,vS c.super,.d (cy je c.fields),.d (cy j1 c.methods)],37)],T1 ++ [],M⟩ ∧ ∃ q:Bool,ng ρ [(1,.ptr (S.length + 0) 0),(3,vI k),(4,.ptr (S1.length + 0) 0),(55,vB q)]) ?_ ?_
    · repeat' (first|apply ab|(apply V;rfl;(first|(apply bl;rfl)|(apply cb;(apply plT;rfl);rfl;rfl;decide)|(apply bz;(apply tyT;rfl);rfl;(apply at_;rfl;rfl);rfl)|(apply bq;(apply elT;rfl);rfl;rfl)|(apply ca;rfl;rfl)|(apply bu;rfl;rfl)|(apply cg;rfl)))|(apply Vp;rfl;rfl;apply fnT;rfl;apply jp5;assumption;rintro _ ⟨(_|_),rfl⟩)|(apply Vd;rfl;(first|(apply gj;rfl;rfl)|(apply fy;rfl;rfl));all_goals intro h_)|(apply Vo;rfl)|(apply al;rfl)|apply ap)
      all_goals exact ⟨rfl,_,rfl,rfl,rfl,rfl,trivial⟩
    rintro ρ _ ⟨rfl,q,hρ⟩
    refine c9 (dt hρ) ?_
    cases q
    case true =>
      repeat' (first|apply ab|(apply V;rfl;(apply bg;rfl))|(apply ac;rfl)|apply ai|(apply ae;rfl)|(apply bf _ (.inr rfl);(apply av;assumption);(focus repeat (first|apply a8|(apply a9;rfl)));rfl)|apply dm|apply aw)
      all_goals exact ⟨false,rfl,nofun⟩
    repeat' (first|apply ab|(apply V;rfl;(apply bg;rfl))|(apply ac;rfl)|apply ak|apply aj|apply ah|(apply af;rfl)|apply ap)
    refine cx (fun j:Nat=>c.fields.length - j) (fun j=>[(1,.ptr (S.length + 0) 0),(3,vI k),(4,.ptr (S1.length + 0) 0),(5,vI j)]) (fun j S2 T2=>j ≤ c.fields.length ∧ S.length ≤ S2.length ∧ T <+: T2 ∧ S2[S.length + 0]? = some ([.d (cy df p)],26) ∧ S2[S1.length + 0]? = some ([vS c.name,vS c.super,.d (cy je c.fields),.d (cy j1 c.methods)],37) ∧ ∀ i f,i < j → c.fields[i]? = some f → jp8 f) 0 ⟨Nat.zero_le _,by simp only [List.length_append];omega,av hT,aa hbx,at_ rfl rfl,fun i f h=>by omega⟩ ⟨rfl,rfl,rfl,rfl,trivial⟩ ?_
    rintro j S2 T2 ⟨hj,hS2,hT2,hbx2,hcx,hpf⟩
    repeat' (first|apply ab|(apply V;rfl;(first|(apply bl;rfl)|(apply bg;rfl)|(apply cb;(apply plT;rfl);rfl;rfl;decide)|(apply bz;(apply tyT;rfl);rfl;(apply aa;assumption);rfl)|(apply bq;(apply elT;rfl);rfl;rfl)))|(apply Vd;rfl;(apply cu;rfl;rfl);all_goals intro h_)|(apply ac;rfl)|apply ak|apply aj|apply ah|apply bd|(apply ae;rfl)|(apply af;rfl)|apply ap|apply ey|apply bo)
    · obtain ⟨f,hf⟩:∃ c0,c.fields[j]? = some c0:=⟨_,List.getElem?_eq_getElem (by omega)⟩
      obtain ⟨hf1,hf2,hf3⟩:=hb3 f (List.mem_of_getElem? hf)
      have hfs:=qh (f:=jh5) hf
      simp only [vd] at hcs hfl
      obtain ⟨fst0,fty,fnm,init⟩:=f
      simp only [jh5] at hfs
      dsimp only at hf1 hf2 hf3
      have hs3:fty.size < 4611686018427387904:=by omega
      have hs4:fnm.size < 4611686018427387904:=by omega
      repeat' (first|apply ab|(apply V;rfl;(first|(apply cb;(apply plT;rfl);rfl;rfl;decide)|(apply bz;(apply tyT;rfl);rfl;(apply at_;rfl;rfl);rfl)|(apply dp;(apply tyT;rfl);rfl;(first|rfl|apply ay|apply ba))|(apply bp (c:=(⟨fst0,fty,fnm,init⟩:Fi));apply elT;rfl;rfl;rfl;rfl;exact dx;omega;simpa using hf)))|(apply Vw;rfl;(apply cd;rfl;(apply tyT;rfl)))|(apply Vs;rfl;(apply bw;rfl;(apply tyT;rfl);rfl;rfl;rfl;(first|apply bc|(apply bh;omega));rfl;rfl;(first|decide|(apply Nat.le_of_ble_eq_true;rfl))))|(apply ac;rfl))
      have key:∀(hok:jp8 ⟨fst0,fty,fnm,init⟩) (i:Nat) (f0:Fi),i < j + 1 → c.fields[i]? = some f0 → jp8 f0:=fun hok i f0 hi0 hf0=>by
        by_cases hij:i = j
        · subst hij
          obtain rfl:=Option.some.inj (hf.symm.trans hf0)
          exact hok
        · exact hpf i f0 (by omega) hf0
      by_cases hi:init.length = 0
      · have hnil:init = []:=List.eq_nil_of_length_eq_zero hi
        repeat' (first|apply ab|(apply V;rfl;(first|(apply bl;rfl)|(apply bg;rfl)|(apply cb;(apply plT;rfl);rfl;rfl;decide)|(apply bz;(apply tyT;rfl);rfl;(apply at_;rfl;rfl);rfl)|(apply bq;(apply elT;rfl);rfl;rfl)|(apply ca;rfl;rfl)|(apply bu;rfl;rfl)|(apply cg;rfl)|(apply az;rfl;rfl;rfl;omega)))|(apply Vp;rfl;rfl;apply fnT;rfl;apply jqq;assumption;rintro _ ⟨(_|_),rfl⟩)|(apply Vp;rfl;rfl;apply fnT;rfl;apply jms;assumption;rintro _ ⟨(_|_),rfl⟩)|(apply Vd;rfl;(first|(apply gj;rfl;rfl)|(apply dq;rfl;rfl));all_goals intro h_)|(apply Vo;rfl)|(apply ac;rfl)|(apply al;rfl)|apply ah|apply ai|(apply ae;rfl)|(apply af;rfl)|(apply bf _ (.inr rfl);(apply av;assumption);(focus repeat (first|apply a8|(apply a9;rfl)));rfl)|apply ap|apply cq|apply dm|apply aw|(show ew _ _ _ _ _ _;exfalso;first|omega|(dsimp only at *;omega)))
        all_goals (try dsimp only at *)
        all_goals first|exact ⟨false,rfl,nofun⟩|exact ⟨j + 1,_,_,by omega,⟨by omega,by simp only [List.length_append];omega,av hT2,aa hbx2,aa hcx,key ⟨by dsimp only;omega,by rw [hnil,vr];trivial⟩⟩,⟨rfl,rfl,rfl,di (by omega),trivial⟩,rfl⟩
      · obtain ⟨x,hx⟩:∃ c0,init[0]? = some c0:=⟨_,List.getElem?_eq_getElem (by omega)⟩
        have hxs:=jo hx
        have h74:=jw7 x 1 (by omega) (jan hf3 hx) ⟨by omega,by omega⟩
        have hone:init.length ≤ 1 → jfw x → jp8 ⟨fst0,fty,fnm,init⟩:=fun h1 h2=>⟨h1,si fun i c0 hc0=>by
          have:i < init.length:=(List.getElem?_eq_some_iff.1 hc0).1
          obtain rfl:i = 0:=by omega
          obtain rfl:=Option.some.inj (hx.symm.trans hc0)
          exact h2⟩
        repeat' (first|apply ab|(apply V;rfl;(first|(apply bl;rfl)|(apply bg;rfl)|(apply cb;(apply plT;rfl);rfl;rfl;decide)|(apply bz;(apply tyT;rfl);rfl;(apply at_;rfl;rfl);rfl)|(apply dp;(apply tyT;rfl);rfl;(first|rfl|apply ay|apply ba))|(apply bq;(apply elT;rfl);rfl;rfl)|(apply ca;rfl;rfl)|(apply bu;rfl;rfl)|(apply cg;rfl)|(apply az;rfl;rfl;rfl;omega)|(apply j0 (c:=x) (d4 init) ay;apply elT;rfl;rfl;rfl;rfl;omega;simpa using hx)))|(apply Vp;rfl;rfl;apply fnT;rfl;apply jqq;assumption;rintro _ ⟨(_|_),rfl⟩)|(apply Vp;rfl;rfl;apply fnT;rfl;apply jms;assumption;rintro _ ⟨(_|_),rfl⟩)|(apply Vp;rfl;rfl;apply fnT;rfl;apply h74;rintro _ ⟨(_|_),rfl,hok_⟩)|(apply Vd;rfl;(first|(apply gj;rfl;rfl)|(apply dq;rfl;rfl));all_goals intro h_)|(apply Vo;rfl)|(apply ac;rfl)|(apply al;rfl)|apply ah|apply ai|(apply ae;rfl)|(apply af;rfl)|(apply bf _ (.inr rfl);(apply av;assumption);(focus repeat (first|apply a8|(apply a9;rfl)));rfl)|apply ap|apply cq|apply dm|apply aw)
        all_goals (try dsimp only at *)
        all_goals first|exact ⟨false,rfl,nofun⟩|(exfalso;omega)|exact ⟨j + 1,_,_,by omega,⟨by omega,by simp only [List.length_append];omega,av hT2,aa hbx2,aa hcx,key (hone (by omega) (hok_ rfl))⟩,⟨rfl,rfl,rfl,di (by omega),trivial⟩,rfl⟩
    · have hF:∀ f ∈ c.fields,jp8 f:=jip fun i f hf=>hpf i f (by have:=(List.getElem?_eq_some_iff.1 hf).1;omega) hf
      refine eh (fun j:Nat=>c.methods.length - j) (fun j=>[(1,.ptr (S.length + 0) 0),(3,vI k),(4,.ptr (S1.length + 0) 0),(7,vI j)]) (fun j=>j ≤ c.methods.length ∧ ∀ i f,i < j → c.methods[i]? = some f → kx f.body) 0 ⟨Nat.zero_le _,fun i f h=>by omega⟩ ⟨rfl,rfl,rfl,rfl,trivial⟩ ?_
      rintro j ⟨hj,hpm⟩
      repeat' (first|apply ab|(apply V;rfl;(first|(apply bl;rfl)|(apply bg;rfl)|(apply cb;(apply plT;rfl);rfl;rfl;decide)|(apply bz;(apply tyT;rfl);rfl;(apply aa;assumption);rfl)|(apply bq;(apply elT;rfl);rfl;rfl)|(apply az;rfl;rfl;rfl;omega)))|(apply Vd;rfl;(apply cu;rfl;rfl);all_goals intro h_)|(apply ac;rfl)|apply ak|(apply al;rfl)|apply aj|apply ah|apply bd|(apply ae;rfl)|(apply af;rfl)|apply ap|apply ey|apply cq|apply bo)
      · obtain ⟨m,hm⟩:∃ c0,c.methods[j]? = some c0:=⟨_,List.getElem?_eq_getElem (by omega)⟩
        have hms:=qh (f:=y5) hm
        simp only [vd] at hcs hfl hml
        have h75:=jyg m (by omega) (hb4 m (List.mem_of_getElem? hm))
        repeat' (first|apply ab|(apply V;rfl;(first|(apply bl;rfl)|(apply bg;rfl)|(apply dp;(apply tyT;rfl);rfl;(first|rfl|apply ay|apply ba))|(apply cg;rfl)|(apply az;rfl;rfl;rfl;omega)|(apply bp (c:=m);apply elT;rfl;rfl;rfl;rfl;exact fu;omega;simpa using hm)))|(apply Vp;rfl;rfl;apply fnT;rfl;apply h75;rintro _ ⟨(_|_),rfl,hok_⟩)|(apply ac;rfl)|(apply al;rfl)|apply ah|apply ai|(apply ae;rfl)|(apply af;rfl)|(apply bf _ (.inr rfl);(apply av;assumption);(focus repeat (first|apply a8|(apply a9;rfl)));rfl)|apply ap|apply cq|apply dm|apply aw)
        · exact ⟨false,rfl,nofun⟩
        · refine ⟨j + 1,by omega,⟨by omega,fun i f0 hi0 hf0=>?_⟩,⟨rfl,rfl,rfl,di (by omega),trivial⟩,rfl⟩
          by_cases hij:i = j
          · subst hij
            obtain rfl:=Option.some.inj (hm.symm.trans hf0)
            exact hok_ rfl
          · exact hpm i f0 (by omega) hf0
      · have hM:∀ m ∈ c.methods,kx m.body:=jip fun i f hf=>hpm i f (by have:=(List.getElem?_eq_some_iff.1 hf).1;omega) hf
        refine ⟨k + 1,_,_,by omega,⟨by omega,by simp only [List.length_append];omega,av hT2,aa hbx2,fun i c' hi0 hc'=>?_⟩,⟨rfl,di (by omega),trivial⟩,rfl⟩
        by_cases hik:i = k
        · subst hik
          obtain rfl:=Option.some.inj (hc.symm.trans hc')
          exact ⟨hF,hM⟩
        · exact hpre i c' (by omega) hc'
  · exact ⟨true,rfl,fun _=>⟨jip fun i c hc=>hpre i c (by have:=(List.getElem?_eq_some_iff.1 hc).1;omega) hc,hp20⟩⟩
end Go.Proofs.YtinffhimfoicdaaGreat
