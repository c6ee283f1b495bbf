/- Texts of the claim, merged: Calc1, Calc2, Calc3, Calc4, Calc5, Calc6. No conditions. -/
import Derived.OrdersHeld
import Derived.Maps.AppendAt
import Derived.Tactics
import Derived.Below
import Derived.Deep.WholeRow
import Derived.Deep.MidRow
import Derived.Laws.Tables
namespace Go.Proofs.YtinffhimfoicdaaGreat.Calc
open Go Go.RowKit
set_option linter.unusedVariables false
inductive DV where
  | flat (v:Value)
  | sl (cs:List DV) (n:Nat)
  | agg (l:List DV)
  | iface (t:Nat) (x:DV)
  | map (id:Nat)
  | row (id n:Nat)
inductive BV where
  | d (x:DV)
  | agg (l:List BV)
  | own (e sz t:Nat) (cs:List DV) (n:Nat)
  | tight (cs:List DV) (n:Nat)
  | ptr (id off:Nat)
  | eptr (cs:List DV)
  | fn (f:Nat) (cap:List BV)
  | tup (l:List BV)
  | bsl (id n:Nat)
  | fresh (e sz t:Nat) (cs:List DV) (n:Nat)
  | mp (id off:Nat)
  | any
def jb3:DV → Bool
  | .agg _=>false
  | _=>true
def js:Value → Bool
  | .bool _|.int _ _|.float _ _|.complex _ _ _|.string _|.pointer none|.nilFunc|.nilIface|.map none=>true
  | _=>false
def jb9:DV → Bool
  | .flat _=>true
  | _=>false
theorem u7 (b off i:Nat):(⟨b,off,none⟩:Addr).add i = ⟨b,off + i,none⟩:=by
  unfold Addr.add
  split
  · rename_i h;subst h;rfl
  · rfl
structure St where
  S:List (List BV × Nat)
  T:List Nat
  M:List (List (Value × DV))
structure Full where
  st:St
  pb:Nat → Nat
  pt:Nat → Option Nat
  pm:Nat → Nat
  F:Nat → Nat
  w:World
mutual
inductive RepD (x:Full):DV → Value → Prop where
  | flat (v:Value) (h:js v = true):RepD x (.flat v) v
  | nil:RepD x (.sl [] 0) (.slice none 0 0)
  | sl (b off n cap:Nat) (cs:List DV) (vs:List Value) (hc:n ≤ cap) (hm:n ≤ maxLen) (h1:cs.all jb3 = true) (hv:∀ i u,vs[i]? = some u → off + i < x.F b ∧ x.w.cell? ⟨b,off + i,none⟩ = some u) (h:RepDs x cs vs):RepD x (.sl cs n) (.slice (some ⟨b,off,none⟩) n cap)
  | emp (a:Addr) (cap:Nat) (hm:cap ≤ maxLen):RepD x (.sl [] 0) (.slice (some a) 0 cap)
  | agg (l:List DV) (vs:List Value) (h:RepDs x l vs):RepD x (.agg l) (.agg vs.toArray)
  | iface (t:Nat) (y:DV) (v:Value) (h:RepD x y v):RepD x (.iface t y) (.iface t v)
  | map (id:Nat) (h:id < x.st.M.length):RepD x (.map id) (.map (some (x.pm id)))
  | row (id n cap:Nat) (h:id < x.st.M.length) (hc:n ≤ cap) (hm:cap ≤ maxLen):RepD x (.row id n) (.slice (some ⟨x.pm id,0,none⟩) n cap)
inductive RepDs (x:Full):List DV → List Value → Prop where
  | nil:RepDs x [] []
  | cons (y:DV) (v:Value) (l:List DV) (vs:List Value) (h:RepD x y v) (hs:RepDs x l vs):RepDs x (y :: l) (v :: vs)
end
def jfm (F:Nat → Nat) (w:World) (F':Nat → Nat) (w':World):Prop:=∀ b i u,i < F b → w.cell? ⟨b,i,none⟩ = some u → i < F' b ∧ w'.cell? ⟨b,i,none⟩ = some u
theorem jfm.refl (F:Nat → Nat) (w:World):jfm F w F w:=fun _ _ _ h hc=>⟨h,hc⟩
theorem jfm.trans {F F' F'':Nat → Nat} {w w' w'':World} (h:jfm F w F' w') (k:jfm F' w' F'' w''):jfm F w F'' w'':=fun b i u hi hc=>k b i u (h b i u hi hc).1 (h b i u hi hc).2
structure Le (x y:Full):Prop where
  keep:jfm x.F x.w y.F y.w
  maps:∀ i,i < x.st.M.length → i < y.st.M.length ∧ y.pm i = x.pm i
mutual
theorem RepD.mono {x y:Full} (hk:Le x y):∀ {d:DV} {v:Value},RepD x d v → RepD y d v
  | _,_,.flat v h=>.flat v h
  | _,_,.nil=>.nil
  | _,_,.emp a cap hm=>.emp a cap hm
  | _,_,.sl b off n cap cs vs hc hm h1 hv h=>.sl b off n cap cs vs hc hm h1 (fun i u hu=>hk.keep b (off + i) u (hv i u hu).1 (hv i u hu).2) (RepDs.mono hk h)
  | _,_,.agg l vs h=>.agg l vs (RepDs.mono hk h)
  | _,_,.iface t z v h=>.iface t z v (RepD.mono hk h)
  | _,_,.map id h=>by rw [← (hk.maps id h).2];exact .map id (hk.maps id h).1
  | _,_,.row id n cap h hc hm=>by rw [← (hk.maps id h).2];exact .row id n cap (hk.maps id h).1 hc hm
theorem RepDs.mono {x y:Full} (hk:Le x y):∀ {l:List DV} {vs:List Value},RepDs x l vs → RepDs y l vs
  | _,_,.nil=>.nil
  | _,_,.cons z v l vs h hs=>.cons z v l vs (RepD.mono hk h) (RepDs.mono hk hs)
end
theorem jfn {cs:List DV} (h:cs.all jb3 = true) (n:Nat):(cs.take n).all jb3 = true:=by
  rw [List.all_eq_true] at h ⊢
  exact fun d hd=>h d (List.mem_of_mem_take hd)
theorem jks {cs:List DV} (h:cs.all jb3 = true) (n:Nat):(cs.drop n).all jb3 = true:=by
  rw [List.all_eq_true] at h ⊢
  exact fun d hd=>h d (List.mem_of_mem_drop hd)
theorem RepDs.length {x:Full}:∀ {l:List DV} {vs:List Value},RepDs x l vs → l.length = vs.length
  | _,_,.nil=>rfl
  | _,_,.cons _ _ _ _ _ hs=>by simp [RepDs.length hs]
theorem RepDs.get {x:Full}:∀ {l:List DV} {vs:List Value},RepDs x l vs → ∀ {i:Nat} {z:DV},l[i]? = some z → ∃ v,vs[i]? = some v ∧ RepD x z v
  | _,_,.nil,i,z,h=>by simp at h
  | _,_,.cons y v l vs h hs,0,z,hx=>by simp at hx;subst hx;exact ⟨v,rfl,h⟩
  | _,_,.cons y v l vs h hs,i + 1,z,hx=>by simpa using RepDs.get hs (i:=i) (by simpa using hx)
theorem RepDs.append {x:Full}:∀ {l:List DV} {vs:List Value} {l':List DV} {vs':List Value},RepDs x l vs → RepDs x l' vs' → RepDs x (l ++ l') (vs ++ vs')
  | _,_,_,_,.nil,h=>h
  | _,_,_,_,.cons z v l vs h hs,k=>.cons z v _ _ h (RepDs.append hs k)
theorem RepDs.take {x:Full}:∀ {l:List DV} {vs:List Value},RepDs x l vs → ∀ n,RepDs x (l.take n) (vs.take n)
  | _,_,.nil,n=>by simp;exact .nil
  | _,_,.cons z v l vs h hs,0=>by simp;exact .nil
  | _,_,.cons z v l vs h hs,n + 1=>by simp only [List.take_succ_cons];exact .cons _ _ _ _ h (RepDs.take hs n)
theorem RepDs.drop {x:Full}:∀ {l:List DV} {vs:List Value},RepDs x l vs → ∀ n,RepDs x (l.drop n) (vs.drop n)
  | _,_,.nil,n=>by simp;exact .nil
  | _,_,.cons z v l vs h hs,0=>by simp only [List.drop_zero];exact .cons _ _ _ _ h hs
  | _,_,.cons z v l vs h hs,n + 1=>by simp only [List.drop_succ_cons];exact RepDs.drop hs n
mutual
inductive RepB (x:Full):BV → Value → Prop where
  | d (y:DV) (v:Value) (h:RepD x y v):RepB x (.d y) v
  | agg (l:List BV) (vs:List Value) (h:RepBs x l vs):RepB x (.agg l) (.agg vs.toArray)
  | own (e sz t:Nat) (cs:List DV) (n k:Nat) (v:Value) (h:RepD x (.sl cs n) v) (hk:x.st.T[t]? = some k) (hle:cs.length ≤ k)
      (ho:k = cs.length →(v.ownBlock = x.pt t ∧ ∃ vs,x.w.ownsRow 0 e sz v n vs ∧ RepDs x cs vs) ∨(x.pt t = none ∧ cs = [] ∧ n = 0 ∧ ∃ base,v = .slice base 0 0)):RepB x (.own e sz t cs n) v
  | tight (cs:List DV) (n:Nat) (base:Option Addr) (h:RepD x (.sl cs n) (.slice base n n)):RepB x (.tight cs n) (.slice base n n)
  | ptr (id off:Nat) (h:id < x.st.S.length):RepB x (.ptr id off) (.pointer (some ⟨x.pb id,off,none⟩))
  | eptr (b off:Nat) (cs:List DV) (vs:List Value) (hv:∀ i u,vs[i]? = some u → off + i < x.F b ∧ x.w.cell? ⟨b,off + i,none⟩ = some u) (h:RepDs x cs vs):RepB x (.eptr cs) (.pointer (some ⟨b,off,none⟩))
  | fn (f:Nat) (cap:List BV) (vs:List Value) (h:RepBs x cap vs):RepB x (.fn f cap) (.func (.func f) #[] vs.toArray)
  | tup (l:List BV) (vs:List Value) (h:RepBs x l vs):RepB x (.tup l) (.tuple vs.toArray)
  | bsl (id n cap:Nat) (h:id < x.st.S.length) (hc:n ≤ cap) (hm:cap ≤ maxLen):RepB x (.bsl id n) (.slice (some ⟨x.pb id,0,none⟩) n cap)
  | fresh (e sz t:Nat) (cs:List DV) (n k:Nat) (v:Value) (hv:∃ base cap,v = .slice base n cap ∧ n ≤ cap) (hp:cs.all jb9 = true) (hk:x.st.T[t]? = some k) (hle:cs.length ≤ k)
      (ho:k = cs.length →(v.ownBlock = x.pt t ∧(∀ b,x.pt t = some b → x.F b = 0) ∧ ∃ vs,x.w.ownsRow 0 e sz v n vs ∧ RepDs x cs vs) ∨(x.pt t = none ∧ cs = [] ∧ n = 0 ∧ ∃ base,v = .slice base 0 0)):RepB x (.fresh e sz t cs n) v
  | mp (id off:Nat) (h:id < x.st.M.length):RepB x (.mp id off) (.pointer (some ⟨x.pm id,off,none⟩))
  | any (v:Value):RepB x .any v
inductive RepBs (x:Full):List BV → List Value → Prop where
  | nil:RepBs x [] []
  | cons (y:BV) (v:Value) (l:List BV) (vs:List Value) (h:RepB x y v) (hs:RepBs x l vs):RepBs x (y :: l) (v :: vs)
end
theorem RepBs.length {x:Full}:∀ {l:List BV} {vs:List Value},RepBs x l vs → l.length = vs.length
  | _,_,.nil=>rfl
  | _,_,.cons _ _ _ _ _ hs=>by simp [RepBs.length hs]
theorem RepBs.get {x:Full}:∀ {l:List BV} {vs:List Value},RepBs x l vs → ∀ {i:Nat} {y:BV},l[i]? = some y → ∃ v,vs[i]? = some v ∧ RepB x y v
  | _,_,.nil,i,y,h=>by simp at h
  | _,_,.cons z v l vs h hs,0,y,hx=>by simp at hx;subst hx;exact ⟨v,rfl,h⟩
  | _,_,.cons z v l vs h hs,i + 1,y,hx=>by simpa using RepBs.get hs (i:=i) (by simpa using hx)
theorem RepBs.append {x:Full}:∀ {l:List BV} {vs:List Value} {l':List BV} {vs':List Value},RepBs x l vs → RepBs x l' vs' → RepBs x (l ++ l') (vs ++ vs')
  | _,_,_,_,.nil,h=>h
  | _,_,_,_,.cons y v l vs h hs,k=>.cons y v _ _ h (RepBs.append hs k)
theorem RepBs.take {x:Full}:∀ {l:List BV} {vs:List Value},RepBs x l vs → ∀ n,RepBs x (l.take n) (vs.take n)
  | _,_,.nil,n=>by simp;exact .nil
  | _,_,.cons y v l vs h hs,0=>by simp;exact .nil
  | _,_,.cons y v l vs h hs,n + 1=>by simp only [List.take_succ_cons];exact .cons _ _ _ _ h (RepBs.take hs n)
theorem RepBs.drop {x:Full}:∀ {l:List BV} {vs:List Value},RepBs x l vs → ∀ n,RepBs x (l.drop n) (vs.drop n)
  | _,_,.nil,n=>by simp;exact .nil
  | _,_,.cons y v l vs h hs,0=>by simp only [List.drop_zero];exact .cons _ _ _ _ h hs
  | _,_,.cons y v l vs h hs,n + 1=>by simp only [List.drop_succ_cons];exact RepBs.drop hs n
theorem RepBs.ofD {x:Full}:∀ {l:List DV} {vs:List Value},RepDs x l vs → RepBs x (l.map .d) vs
  | _,_,.nil=>.nil
  | _,_,.cons y v l vs h hs=>.cons _ _ _ _ (.d _ _ h) (RepBs.ofD hs)
def jhb:List (Value × DV) → Bool
  |(.tuple _,_) :: _=>true
  | _=>false
def vp (x:Full) (g:Nat) (es:List (Value × DV)):Prop :=
  (jhb es = false → ∃ vs clock,x.w.heap[g]? = some (.map vs clock) ∧ vs.toList.length = es.length ∧ ∀(i:Nat) (e:MapEntry) k y,vs.toList[i]? = some e → es[i]? = some (k,y) → e.key = k ∧ RepD x y e.val) ∧
  (jhb es = true → ∃ vs rest t,x.w.heap[g]? = some (.cells (vs ++ rest).toArray t (0,0)) ∧ RepDs x (es.map (·.2)) vs)
theorem vp.mono {x y:Full} {g:Nat} {es:List (Value × DV)} (h:vp x g es) (hh:y.w.heap[g]? = x.w.heap[g]?) (hd:∀ {d:DV} {v:Value},RepD x d v → RepD y d v) (hds:∀ {d:List DV} {v:List Value},RepDs x d v → RepDs y d v):vp y g es:=by
  refine ⟨fun hr=>?_,fun hr=>?_⟩
  · obtain ⟨vs,c,h1,h2,h3⟩:=h.1 hr
    exact ⟨vs,c,hh.trans h1,h2,fun i e k z he hk=>⟨(h3 i e k z he hk).1,hd (h3 i e k z he hk).2⟩⟩
  · obtain ⟨vs,rest,t,h1,h2⟩:=h.2 hr
    exact ⟨vs,rest,t,hh.trans h1,hds h2⟩
theorem jh8 {x y:Full}:∀ {ds:List DV} {vs:List Value},RepDs x ds vs →(∀ d ∈ ds,∀ v,RepD x d v → RepD y d v) → RepDs y ds vs
  | _,_,.nil,_=>.nil
  | _,_,.cons d v l vs h1 h2,h=>.cons _ _ _ _ (h d (by simp) v h1) (jh8 h2 (fun d hd=>h d (by simp [hd])))
theorem vp.of {x y:Full} {g:Nat} {es:List (Value × DV)} (h:vp x g es) (hh:y.w.heap[g]? = x.w.heap[g]?) (hd:∀ p ∈ es,∀ v,RepD x p.2 v → RepD y p.2 v):vp y g es:=by
  refine ⟨fun hr=>?_,fun hr=>?_⟩
  · obtain ⟨vs,c,h1,h2,h3⟩:=h.1 hr
    exact ⟨vs,c,hh.trans h1,h2,fun i e k z he hk=>⟨(h3 i e k z he hk).1,hd _ (List.mem_of_getElem? hk) _ (h3 i e k z he hk).2⟩⟩
  · obtain ⟨vs,rest,t,h1,h2⟩:=h.2 hr
    refine ⟨vs,rest,t,hh.trans h1,jh8 h2 (fun d hd' v hv=>?_)⟩
    obtain ⟨p,hp,rfl⟩:=List.mem_map.1 hd'
    exact hd p hp v hv
theorem vp.le {x y:Full} {g:Nat} {es:List (Value × DV)} (h:vp x g es) (hh:y.w.heap[g]? = x.w.heap[g]?) (hk:Le x y):vp y g es:=h.mono hh (fun h=>h.mono hk) (fun h=>h.mono hk)
theorem vp.lt {x:Full} {g:Nat} {es:List (Value × DV)} (h:vp x g es):g < x.w.heap.size:=by
  cases hr:jhb es with
  | false=>obtain ⟨vs,c,h1,_⟩:=h.1 hr;exact (Array.getElem?_eq_some_iff.1 h1).1
  | true=>obtain ⟨vs,rest,t,h1,_⟩:=h.2 hr;exact (Array.getElem?_eq_some_iff.1 h1).1
structure Good (x:Full):Prop where
  box:∀ id cs t,x.st.S[id]? = some (cs,t) → ∃ vs,x.w.heap[x.pb id]? = some (.cells vs.toArray t (0,0)) ∧ RepBs x cs vs ∧ x.F (x.pb id) = 0
  inj:∀ i j,i < x.st.S.length → j < x.st.S.length → x.pb i = x.pb j → i = j
  tag:∀ t k b,x.st.T[t]? = some k → x.pt t = some b → b < x.w.heap.size ∧ x.F b ≤ k ∧(∀ i,i < x.st.S.length → x.pb i ≠ b) ∧ ∀ u,u < x.st.T.length → x.pt u = some b → u = t
  map:∀ id es,x.st.M[id]? = some es → vp x (x.pm id) es
  mapinj:∀ i j,i < x.st.M.length → j < x.st.M.length → x.pm i = x.pm j → i = j
  tmap:∀ t b i,t < x.st.T.length → x.pt t = some b → i < x.st.M.length → x.pm i ≠ b
  mp:∀ i,i < x.st.M.length → x.F (x.pm i) = 0 ∧ ∀ j,j < x.st.S.length → x.pb j ≠ x.pm i
structure Step (Wr Wm:List Nat) (x y:Full):Prop where
  os:y.w.os = x.w.os
  tape:y.w.tape = x.w.tape
  output:y.w.output = x.w.output
  size:x.w.heap.size ≤ y.w.heap.size
  frame:∀ b,b < x.w.heap.size →(∀ i,i ∈ Wr → i < x.st.S.length → x.pb i ≠ b) →(∀ i,i ∈ Wm → i < x.st.M.length → x.pm i ≠ b) →(∀ t,t < x.st.T.length → x.pt t ≠ some b) → y.w.heap[b]? = x.w.heap[b]?
  keep:jfm x.F x.w y.F y.w
  slen:x.st.S.length ≤ y.st.S.length
  ids:∀ i,i < x.st.S.length → y.pb i = x.pb i
  fresh:∀ i,x.st.S.length ≤ i → i < y.st.S.length → x.w.heap.size ≤ y.pb i
  mlen:x.st.M.length ≤ y.st.M.length
  mids:∀ i,i < x.st.M.length → y.pm i = x.pm i
  mfresh:∀ i,x.st.M.length ≤ i → i < y.st.M.length → x.w.heap.size ≤ y.pm i ∨ ∃ t,t < x.st.T.length ∧ x.pt t = some (y.pm i)
  tags:∀ t k,x.st.T[t]? = some k → ∃ k',y.st.T[t]? = some k' ∧ k ≤ k' ∧(k' = k → y.pt t = x.pt t ∧ ∀ b,x.pt t = some b → y.w.heap[b]? = x.w.heap[b]? ∧ y.F b = x.F b) ∧(y.pt t = x.pt t ∨ y.pt t = none ∨ ∃ b,y.pt t = some b ∧ x.w.heap.size ≤ b)
  tfresh:∀ t b,x.st.T.length ≤ t → t < y.st.T.length → y.pt t = some b → x.w.heap.size ≤ b
  fro:∀ b,b < x.w.heap.size →(∀ t,t < x.st.T.length → x.pt t ≠ some b) → y.F b = x.F b
theorem Step.le {Wr Wm:List Nat} {x y:Full} (h:Step Wr Wm x y):Le x y:=⟨h.keep,fun i hi=>⟨Nat.lt_of_lt_of_le hi h.mlen,h.mids i hi⟩⟩
theorem Step.refl (Wr Wm:List Nat) (x:Full):Step Wr Wm x x where
  os:=rfl
  tape:=rfl
  output:=rfl
  size:=Nat.le_refl _
  frame:=fun _ _ _ _ _=>rfl
  keep:=jfm.refl _ _
  slen:=Nat.le_refl _
  ids:=fun _ _=>rfl
  fresh:=fun i h1 h2=>by omega
  mlen:=Nat.le_refl _
  mids:=fun _ _=>rfl
  mfresh:=fun i h1 h2=>by omega
  tags:=fun t k h=>⟨k,h,Nat.le_refl _,fun _=>⟨rfl,fun _ _=>⟨rfl,rfl⟩⟩,.inl rfl⟩
  tfresh:=fun t b h1 h2=>by omega
  fro:=fun _ _ _=>rfl
theorem Step.trans' {Wr Wm Wr' Wm':List Nat} {x y z:Full} (h:Step Wr Wm x y) (k:Step Wr' Wm' y z) (hr:∀ i,i ∈ Wr' → i < y.st.S.length → i ∈ Wr ∨ x.st.S.length ≤ i) (hm:∀ i,i ∈ Wm' → i < y.st.M.length → i ∈ Wm ∨ x.st.M.length ≤ i):Step Wr Wm x z where
  os:=k.os.trans h.os
  tape:=k.tape.trans h.tape
  output:=k.output.trans h.output
  size:=Nat.le_trans h.size k.size
  frame:=fun b hb h1 h2 h3=>by
    refine (k.frame b (Nat.lt_of_lt_of_le hb h.size) (fun i hi hl=>?_) (fun i hi hl=>?_) (fun t ht=>?_)).trans (h.frame b hb h1 h2 h3)
    · by_cases hx:i < x.st.S.length
      · rw [h.ids i hx]
        rcases hr i hi hl with hr|hr
        · exact h1 i hr hx
        · omega
      · have:=h.fresh i (by omega) hl
        omega
    · by_cases hx:i < x.st.M.length
      · rw [h.mids i hx]
        rcases hm i hi hl with hm|hm
        · exact h2 i hm hx
        · omega
      · rcases h.mfresh i (by omega) hl with this|⟨t,ht,hp⟩
        · omega
        · exact fun e=>h3 t ht (e ▸ hp)
    · intro he
      by_cases hx:t < x.st.T.length
      · obtain ⟨_,_,_,_,hq⟩:=h.tags t _ (List.getElem?_eq_getElem hx)
        rcases hq with hq|hq|⟨q,hq,hlt⟩
        · exact h3 t hx (hq ▸ he)
        · rw [hq] at he
          cases he
        · rw [hq] at he
          injection he with he
          omega
      · have:=h.tfresh t b (by omega) ht he
        omega
  keep:=h.keep.trans k.keep
  slen:=Nat.le_trans h.slen k.slen
  ids:=fun i hi=>(k.ids i (Nat.lt_of_lt_of_le hi h.slen)).trans (h.ids i hi)
  fresh:=fun i h1 h2=>by
    by_cases hy:i < y.st.S.length
    · rw [k.ids i hy]
      exact h.fresh i h1 hy
    · exact Nat.le_trans h.size (k.fresh i (by omega) h2)
  mlen:=Nat.le_trans h.mlen k.mlen
  mids:=fun i hi=>(k.mids i (Nat.lt_of_lt_of_le hi h.mlen)).trans (h.mids i hi)
  mfresh:=fun i h1 h2=>by
    by_cases hy:i < y.st.M.length
    · rw [k.mids i hy]
      exact h.mfresh i h1 hy
    · rcases k.mfresh i (by omega) h2 with hl|⟨t,ht,hp⟩
      · exact .inl (Nat.le_trans h.size hl)
      · by_cases hx:t < x.st.T.length
        · obtain ⟨_,_,_,_,hq⟩:=h.tags t _ (List.getElem?_eq_getElem hx)
          rcases hq with hq|hq|⟨q,hq,hlt⟩
          · exact .inr ⟨t,hx,hq ▸ hp⟩
          · rw [hq] at hp
            cases hp
          · rw [hq] at hp
            injection hp with hp
            exact .inl (hp ▸ hlt)
        · exact .inl (h.tfresh t _ (by omega) ht hp)
  tags:=fun t n ht=>by
    obtain ⟨n1,h1,hle1,he1,hp1⟩:=h.tags t n ht
    obtain ⟨n2,h2,hle2,he2,hp2⟩:=k.tags t n1 h1
    refine ⟨n2,h2,Nat.le_trans hle1 hle2,fun e=>?_,?_⟩
    · obtain ⟨a1,b1⟩:=he1 (by omega)
      obtain ⟨a2,b2⟩:=he2 (by omega)
      exact ⟨a2.trans a1,fun b hb=>⟨(b2 b (a1.trans hb)).1.trans (b1 b hb).1,(b2 b (a1.trans hb)).2.trans (b1 b hb).2⟩⟩
    · rcases hp2 with hp2|hp2|⟨q,hq,hlt⟩
      · rw [hp2];exact hp1
      · exact .inr (.inl hp2)
      · exact .inr (.inr ⟨q,hq,Nat.le_trans h.size hlt⟩)
  tfresh:=fun t b h1 h2 hb=>by
    by_cases hy:t < y.st.T.length
    · obtain ⟨_,_,_,_,hq⟩:=k.tags t _ (List.getElem?_eq_getElem hy)
      rcases hq with hq|hq|⟨q,hq,hlt⟩
      · exact h.tfresh t b h1 hy (hq ▸ hb)
      · rw [hq] at hb
        cases hb
      · rw [hq] at hb
        injection hb with hb
        have:=h.size
        omega
    · exact Nat.le_trans h.size (k.tfresh t b (by omega) h2 hb)
  fro:=fun b hb h3=>(k.fro b (Nat.lt_of_lt_of_le hb h.size) (fun t ht he=>by
    by_cases hx:t < x.st.T.length
    · obtain ⟨_,_,_,_,hq⟩:=h.tags t _ (List.getElem?_eq_getElem hx)
      rcases hq with hq|hq|⟨q,hq,hlt⟩
      · exact h3 t hx (hq ▸ he)
      · rw [hq] at he
        cases he
      · rw [hq] at he
        injection he with he
        omega
    · have:=h.tfresh t b (by omega) ht he
      omega)).trans (h.fro b hb h3)
theorem Step.trans {Wr Wm:List Nat} {x y z:Full} (h:Step Wr Wm x y) (k:Step Wr Wm y z):Step Wr Wm x z:=h.trans' k (fun _ hi _=>.inl hi) (fun _ hi _=>.inl hi)
structure Same (Wr:List Nat) (y:Full) (w:World):Prop where
  row:∀ b i u,i < y.F b → y.w.cell? ⟨b,i,none⟩ = some u → w.cell? ⟨b,i,none⟩ = some u
  box:∀ id,id < y.st.S.length → id ∉ Wr → w.heap[y.pb id]? = y.w.heap[y.pb id]?
theorem Same.refl (Wr:List Nat) (y:Full):Same Wr y y.w:=⟨fun _ _ _ _ h=>h,fun _ _ _=>rfl⟩
theorem Step.same {Wr Wm:List Nat} {y z:Full} (hg:Good y) (h:Step Wr Wm y z):Same Wr y z.w where
  row:=fun b i u hi hc=>(h.keep b i u hi hc).2
  box:=fun id hid hn=>by
    obtain ⟨vs,h1,_⟩:=hg.box id _ _ (List.getElem?_eq_getElem hid)
    refine h.frame _ (Array.getElem?_eq_some_iff.1 h1).1 (fun i hi hl he=>?_) (fun i hi hl he=>?_) (fun t ht he=>?_)
    · exact hn ((hg.inj i id hl hid he) ▸ hi)
    · exact (hg.mp i hl).2 id hid he.symm
    · obtain ⟨_,_,h3,_⟩:=hg.tag t _ _ (List.getElem?_eq_getElem ht) he
      exact h3 id hid rfl
theorem jca {w w1:World} {base:Nat} {e:TypeId} {size n:Nat} {v:Value} {xs:List Value} (h:w.ownsRow base e size v n xs) (hm:∀ k,v.ownBlock = some k → w1.heap[k]? = w.heap[k]?):w1.ownsRow base e size v n xs:=by
  obtain ⟨h1,h2⟩:=h
  refine ⟨h1,?_⟩
  rcases h2 with h2|⟨g,cap,cur,rfl,hg,hh,r⟩
  · exact .inl h2
  · exact .inr ⟨g,cap,cur,rfl,hg,(hm g rfl).trans hh,r⟩
mutual
theorem RepB.mono {Wr Wm:List Nat} {x y:Full} (hs:Step Wr Wm x y):∀ {b:BV} {v:Value},RepB x b v → RepB y b v
  | _,_,.d z v h=>.d z v (h.mono hs.le)
  | _,_,.agg l vs h=>.agg l vs (RepBs.mono hs h)
  | _,_,.own e sz t cs n k v h hk hle ho=>by
    obtain ⟨k',h1,h2,h3,_⟩:=hs.tags t k hk
    refine .own e sz t cs n k' v (h.mono hs.le) h1 (Nat.le_trans hle h2) (fun e1=>?_)
    obtain ⟨b1,b2⟩:=h3 (by omega)
    rcases ho (by omega) with ⟨a1,vs,a2,a3⟩|⟨a1,a2⟩
    · exact .inl ⟨a1.trans b1.symm,vs,jca a2 (fun q hq=>(b2 q (a1 ▸ hq)).1),a3.mono hs.le⟩
    · exact .inr ⟨b1.trans a1,a2⟩
  | _,_,.tight cs n base h=>.tight cs n base (h.mono hs.le)
  | _,_,.ptr id off h=>by rw [← hs.ids id h];exact .ptr id off (Nat.lt_of_lt_of_le h hs.slen)
  | _,_,.eptr b off cs vs hv h=>.eptr b off cs vs (fun i u hu=>hs.keep b (off + i) u (hv i u hu).1 (hv i u hu).2) (h.mono hs.le)
  | _,_,.fn f cap vs h=>.fn f cap vs (RepBs.mono hs h)
  | _,_,.tup l vs h=>.tup l vs (RepBs.mono hs h)
  | _,_,.bsl id n cap h hc hm=>by rw [← hs.ids id h];exact .bsl id n cap (Nat.lt_of_lt_of_le h hs.slen) hc hm
  | _,_,.fresh e sz t cs n k v hv hp hk hle ho=>by
    obtain ⟨k',h1,h2,h3,_⟩:=hs.tags t k hk
    refine .fresh e sz t cs n k' v hv hp h1 (Nat.le_trans hle h2) (fun e1=>?_)
    obtain ⟨b1,b2⟩:=h3 (by omega)
    rcases ho (by omega) with ⟨a1,a0,vs,a2,a3⟩|⟨a1,a2⟩
    · exact .inl ⟨a1.trans b1.symm,fun b hb=>((b2 b (b1 ▸ hb)).2).trans (a0 b (b1 ▸ hb)),vs,jca a2 (fun q hq=>(b2 q (a1 ▸ hq)).1),a3.mono hs.le⟩
    · exact .inr ⟨b1.trans a1,a2⟩
  | _,_,.mp id off h=>by rw [← hs.mids id h];exact .mp id off (Nat.lt_of_lt_of_le h hs.mlen)
  | _,_,.any v=>.any v
theorem RepBs.mono {Wr Wm:List Nat} {x y:Full} (hs:Step Wr Wm x y):∀ {l:List BV} {vs:List Value},RepBs x l vs → RepBs y l vs
  | _,_,.nil=>.nil
  | _,_,.cons z v l vs h hs'=>.cons z v l vs (RepB.mono hs h) (RepBs.mono hs hs')
end
end Go.Proofs.YtinffhimfoicdaaGreat.Calc
namespace Go.Proofs.YtinffhimfoicdaaGreat.Calc
open Go Go.RowKit
set_option linter.unusedVariables false
abbrev Rg:=Nat → Option BV
def upd (ρ:Rg) (d:Nat) (v:BV):Rg:=fun i=>if i = d then some v else ρ i
def ke (ρ:Rg) (d:Option Nat) (v:BV):Rg:=match d with|some d=>upd ρ d v|none=>ρ
theorem j7 {x:Full} {u v:Value} (h:RepB x (.d (.flat u)) v):v = u:=by
  cases h with
  | d _ _ h=>cases h;rfl
def jt (v:Value):Option BV:=if js v = true then some (.d (.flat v)) else match v with|.slice none 0 0=>some (.tight [] 0)|_=>none
def r8:List Value → Option (List BV)
  | []=>some []
  | v :: l=>match jt v,r8 l with|some x,some xs=>some (x :: xs)|_,_=>none
def d6 (v:Value):Option BV:=match v with|.agg cs=>(r8 cs.toList).map .agg|v=>jt v
def evB (ρ:Rg):Operand → Option BV
  | .tmp t=>ρ t
  | .const v=>d6 v
  | .func f=>some (.fn f [])
  | .global _=>none
theorem jcb {x:Full} {v:Value} {b:BV} (h:jt v = some b):RepB x b v:=by
  unfold jt at h
  split at h
  · rename_i hf
    obtain rfl:=Option.some.inj h
    exact .d _ _ (.flat _ hf)
  · split at h
    · obtain rfl:=Option.some.inj h
      exact .tight _ _ _ .nil
    · cases h
theorem gi {x:Full}:∀ {l:List Value} {bs:List BV},r8 l = some bs → RepBs x bs l
  | [],bs,h=>by obtain rfl:=Option.some.inj h;exact .nil
  | v :: l,bs,h=>by
    unfold r8 at h
    split at h
    · rename_i b c hb hc
      obtain rfl:=Option.some.inj h
      exact .cons _ _ _ _ (jcb hb) (gi hc)
    · cases h
theorem zg {x:Full} {v:Value} {b:BV} (h:d6 v = some b):RepB x b v:=by
  unfold d6 at h
  split at h
  · rename_i cs
    obtain ⟨l,hl,rfl⟩:=Option.map_eq_some_iff.1 h
    have:=RepB.agg l cs.toList (gi (x:=x) hl)
    simpa using this
  · exact jcb h
structure Regs (nt:Nat) (x:Full) (ρ:Rg) (a:Act):Prop where
  defers:a.defers = []
  size:nt ≤ a.tmps.size
  reg:∀ t v,ρ t = some v → RepB x v (a.tmps.getD t undef)
theorem Regs.ev {nt:Nat} {x:Full} {ρ:Rg} {a:Act} (h:Regs nt x ρ a) {o:Operand} {v:BV} (hv:evB ρ o = some v):RepB x v (a.eval o):=by
  cases o with
  | tmp t=>exact h.reg t v hv
  | const c=>exact zg hv
  | func f =>
    obtain rfl:=Option.some.inj hv
    exact .fn f [] [] .nil
  | global g=>cases hv
theorem Regs.step {nt:Nat} {Wr Wm:List Nat} {x y:Full} {ρ:Rg} {a:Act} (h:Regs nt x ρ a) (hs:Step Wr Wm x y):Regs nt y ρ a:=⟨h.defers,h.size,fun t v hv=>(h.reg t v hv).mono hs⟩
theorem Regs.put {nt:Nat} {x:Full} {ρ:Rg} {a:Act} (h:Regs nt x ρ a) {d:Option Nat} (hd:∀ t,d = some t → t < nt) {b:BV} {v:Value} (hv:RepB x b v):Regs nt x (ke ρ d b) (a.put d v):=by
  cases d with
  | none=>exact h
  | some d =>
    have hd':=hd d rfl
    refine ⟨h.defers,by simpa [Act.put] using h.size,fun t u hu=>?_⟩
    by_cases ht:t = d
    · subst ht
      simp only [ke,upd,if_pos] at hu
      obtain rfl:=Option.some.inj hu
      have hs:=h.size
      simp only [Act.put,Array.getD_eq_getD_getElem?]
      rw [Array.getElem?_setIfInBounds_self_of_lt (by omega)]
      exact hv
    · simp only [ke,upd,if_neg ht] at hu
      have:=h.reg t u hu
      simp only [Act.put,Array.getD_eq_getD_getElem?] at this ⊢
      rw [Array.getElem?_setIfInBounds_ne (fun e=>ht e.symm)]
      exact this
inductive AX where
  | normal|exit (id:Nat)|ret
def AX.to:AX → Exit
  | .normal=>.normal
  | .exit id=>.exit id
  | .ret=>.ret
abbrev nl:=AX → Rg → St → Prop
structure Cx where
  P:Program
  nt:Nat
  Wr:List Nat
  Wm:List Nat
  nb:Nat
  nm:Nat
variable {C:Cx}
def Tri (C:Cx) (c:Code) (ρ:Rg) (st:St) (Q:nl):Prop :=
  ∀(x y:Full) (a:Act),x.st.S.length = C.nb → x.st.M.length = C.nm → Step C.Wr C.Wm x y → y.st = st → Good y → Regs C.nt y ρ a → ∀ K:Exit → Act → World → Prop,
    (∀ ex ρ' z a',Q ex ρ' z.st → Step C.Wr C.Wm x z → Good z → Regs C.nt z ρ' a' → K ex.to a' z.w) → c.wp C.P K a y.w
def d7 (N:Rg → St → Prop) (Q:nl):nl
  | .normal,ρ,st=>N ρ st
  | .exit id,ρ,st=>Q (.exit id) ρ st
  | .ret,ρ,st=>Q .ret ρ st
def inQ (id:Nat) (Q:nl):nl
  | .normal,ρ,st=>Q .normal ρ st
  | .exit i,ρ,st=>if i = id then Q .normal ρ st else Q (.exit i) ρ st
  | .ret,ρ,st=>Q .ret ρ st
theorem r9 {c:Code} {ρ:Rg} {st:St} {Q Q':nl} (h:Tri C c ρ st Q) (hq:∀ ex ρ st,Q ex ρ st → Q' ex ρ st):Tri C c ρ st Q' :=
  fun x y a h1 h1m h2 h3 h4 h5 K hK=>h x y a h1 h1m h2 h3 h4 h5 K (fun ex ρ' z a' hq'=>hK ex ρ' z a' (hq _ _ _ hq'))
theorem ah {ρ:Rg} {st:St} {Q:nl} (h:Q .normal ρ st):Tri C .skip ρ st Q:=by
  intro x y a _ _ h2 h3 h4 h5 K hK
  exact wp_skip (hK .normal ρ y a (h3 ▸ h) h2 h4 h5)
theorem bd {ρ:Rg} {st:St} {Q:nl} {id:Nat} (h:Q (.exit id) ρ st):Tri C (.exit id) ρ st Q:=by
  intro x y a _ _ h2 h3 h4 h5 K hK
  exact wp_exit (hK (.exit id) ρ y a (h3 ▸ h) h2 h4 h5)
theorem ai {ρ:Rg} {st:St} {Q:nl} (h:Q .ret ρ st):Tri C .ret ρ st Q:=by
  intro x y a _ _ h2 h3 h4 h5 K hK
  exact wp_ret (hK .ret ρ y a (h3 ▸ h) h2 h4 h5)
theorem ak {c d:Code} {ρ:Rg} {st:St} {Q:nl} (h:Tri C c ρ st (d7 (fun ρ st=>Tri C d ρ st Q) Q)):Tri C (.seq c d) ρ st Q:=by
  intro x y a h1 h1m h2 h3 h4 h5 K hK
  refine wp_seq (h x y a h1 h1m h2 h3 h4 h5 _ (fun ex ρ' z a' hq hs hg hr=>?_))
  cases ex with
  | normal=>exact hq x z a' h1 h1m hs rfl hg hr K hK
  | exit id=>exact hK (.exit id) ρ' z a' hq hs hg hr
  | ret=>exact hK .ret ρ' z a' hq hs hg hr
theorem vz {o:Operand} {c d:Code} {ρ:Rg} {st:St} {Q:nl} (t:Bool) (ho:evB ρ o = some (.d (.flat (.bool t)))) (h1:t = true → Tri C c ρ st Q) (h2:t = false → Tri C d ρ st Q):Tri C (.cond o c d) ρ st Q:=by
  intro x y a q1 q1m q2 q3 q4 q5 K hK
  have hv:=q5.ev ho
  have hb:a.eval o = .bool t:=j7 hv
  refine wp_cond_split hb (fun e=>h1 e x y a q1 q1m q2 q3 q4 q5 K hK) (fun e=>h2 e x y a q1 q1m q2 q3 q4 q5 K hK)
theorem aj {id:Nat} {c:Code} {ρ:Rg} {st:St} {Q:nl} (h:Tri C c ρ st (inQ id Q)):Tri C (.block id c) ρ st Q:=by
  intro x y a h1 h1m h2 h3 h4 h5 K hK
  refine wp_block (h x y a h1 h1m h2 h3 h4 h5 _ (fun ex ρ' z a' hq hs hg hr=>?_))
  cases ex with
  | normal=>exact hK .normal ρ' z a' hq hs hg hr
  | exit i =>
    simp only [inQ] at hq
    simp only [AX.to,Exit.inBlock]
    split at hq
    · rename_i e;rw [if_pos e];exact hK .normal ρ' z a' hq hs hg hr
    · rename_i e;rw [if_neg e];exact hK (.exit i) ρ' z a' hq hs hg hr
  | ret=>exact hK .ret ρ' z a' hq hs hg hr
theorem jnl {p:Nat → Prop} (h:∃ n,p n):∃ n,p n ∧ ∀ m,m < n → ¬ p m:=by
  obtain ⟨n,hn⟩:=h
  induction n using Nat.strongRecOn with
  | _ n ih =>
    by_cases q:∃ m,m < n ∧ p m
    · obtain ⟨m,h1,h2⟩:=q
      exact ih m h1 h2
    · exact ⟨n,hn,fun m h1 h2=>q ⟨m,h1,h2⟩⟩
theorem jkt {c:Code} {ρ:Rg} {st:St} {Q:nl} (I:Nat → Rg → St → Prop) (n:Nat) (h0:I n ρ st) (hr:∀ n ρ st,I n ρ st → Tri C c ρ st (d7 (fun ρ' st'=>∃ m,m < n ∧ I m ρ' st') Q)):Tri C (.loop c) ρ st Q:=by
  intro x y a h1 h1m h2 h3 h4 h5 K hK
  let J:Nat → Act → World → Prop:=fun n a w=>∃ ρ z,I n ρ z.st ∧ Step C.Wr C.Wm x z ∧ Good z ∧ Regs C.nt z ρ a ∧ z.w = w
  have hμ:∀(a:Act) (w:World),∃ m,(∃ n,J n a w) → J m a w ∧ ∀ k,k < m → ¬ J k a w:=fun a w=>by
    by_cases q:∃ n,J n a w
    · obtain ⟨m,hm⟩:=jnl q
      exact ⟨m,fun _=>hm⟩
    · exact ⟨0,fun h=>absurd h q⟩
  obtain ⟨μ,hμ⟩:=Classical.axiomOfChoice (fun p:Act × World=>hμ p.1 p.2)
  refine wp_loop (fun a w=>∃ n,J n a w) (fun a w=>μ (a,w)) ⟨n,ρ,y,h3 ▸ h0,h2,h4,h5,rfl⟩ (fun a w hI=>?_)
  obtain ⟨⟨ρ1,z,i1,i2,i3,i4,rfl⟩,hmin⟩:=hμ (a,w) hI
  refine hr _ ρ1 z.st i1 x z a h1 h1m i2 rfl i3 i4 _ (fun ex ρ' z' a' hq hs hg hrr=>?_)
  cases ex with
  | normal =>
    obtain ⟨m,hm,hi⟩:=hq
    have hJ:J m a' z'.w:=⟨ρ',z',hi,hs,hg,hrr,rfl⟩
    refine ⟨⟨m,hJ⟩,?_⟩
    obtain ⟨_,hmin'⟩:=hμ (a',z'.w) ⟨m,hJ⟩
    refine Nat.lt_of_le_of_lt (Nat.le_of_not_lt (fun hlt=>hmin' m hlt hJ)) hm
  | exit id=>exact hK (.exit id) ρ' z' a' hq hs hg hrr
  | ret=>exact hK .ret ρ' z' a' hq hs hg hrr
def ci (P:Program) (Wr Wm:List Nat) (f:Nat) (args:List BV) (st:St) (Q:BV → St → Prop):Prop :=
  ∀(x:Full) (vs:List Value),x.st = st → Good x → RepBs x args vs → Calls P f vs.toArray x.w (fun e w'=>∃ r v z,e = .returned v ∧ Q r z.st ∧ RepB z r v ∧ Good z ∧ Step Wr Wm x z ∧ z.w = w')
theorem dz {P:Program} {Wr Wm:List Nat} {f:Nat} {args:List BV} {st:St} {Q Q':BV → St → Prop} (h:ci P Wr Wm f args st Q) (hq:∀ r st,Q r st → Q' r st):ci P Wr Wm f args st Q' :=
  fun x vs h1 h2 h3=>(h x vs h1 h2 h3).mono fun _ _ ⟨r,v,z,e1,e2,e3⟩=>⟨r,v,z,e1,hq _ _ e2,e3⟩
end Go.Proofs.YtinffhimfoicdaaGreat.Calc
namespace Go.Proofs.YtinffhimfoicdaaGreat.Calc
open Go Go.RowKit
set_option linter.unusedVariables false
def jnm:TypeDesc → Bool
  | .struct _|.array _ _=>true
  | _=>false
def jml:Value → Bool
  | .agg _=>true
  | _=>false
def pi (P:Program) (t:Nat):Option (Bool × Nat × List BV) :=
  match P.underlying t,P.info? t with
  | some d,some i=>match i.zero with
    | some z=>if jnm d = jml z then (r8 z.cells.toList).map fun l=>(jnm d,i.size,l) else none
    | none=>none
  | _,_=>none
theorem gg {P:Program} {t:Nat} {ag:Bool} {sz:Nat} {l:List BV} (h:pi P t = some (ag,sz,l)):∃ d i z,P.underlying t = some d ∧ P.info? t = some i ∧ i.zero = some z ∧ jnm d = ag ∧ i.size = sz ∧ r8 z.cells.toList = some l ∧ jml z = ag:=by
  unfold pi at h
  split at h
  · rename_i d i hd hi
    split at h
    · rename_i z hz
      split at h
      · rename_i hag
        obtain ⟨l',hl,he⟩:=Option.map_eq_some_iff.1 h
        simp only [Prod.mk.injEq] at he
        obtain ⟨rfl,rfl,rfl⟩:=he
        exact ⟨d,i,z,hd,hi,hz,rfl,rfl,hl,hag.symm⟩
      · cases h
    · cases h
  · cases h
theorem jfo {x:Full} {z:Value} {l:List BV} (h:r8 z.cells.toList = some l) (ha:jml z = true):RepB x (.agg l) z:=by
  cases z with
  | agg cs =>
    have:=RepB.agg l cs.toList (gi (x:=x) h)
    simpa using this
  | _=>simp [jml] at ha
section
variable {P:Program} {w:World}
theorem fo {t:Nat} {d:TypeDesc} (h:P.underlying t = some d):(underlying t).run P w = .ok d w:=by simp [underlying,h]
theorem jfp {t:Nat} {i:TypeInfo} (h:P.info? t = some i):(typeInfo t).run P w = .ok i w:=by simp [typeInfo,h]
theorem gp {t:Nat} {i:TypeInfo} (h:P.info? t = some i):(sizeOf t).run P w = .ok i.size w:=by simp [sizeOf,jfp h]
theorem qu {t:Nat} {i:TypeInfo} {z:Value} (h:P.info? t = some i) (hz:i.zero = some z):(zeroValue t).run P w = .ok z w:=by simp [zeroValue,jfp h,hz]
theorem wi {t:Nat} {d:TypeDesc} (h:P.underlying t = some d):(isAgg t).run P w = .ok (jnm d) w:=by
  cases d <;> simp [isAgg,fo h,jnm]
theorem jfq {t:Nat} {d:TypeDesc} {i:TypeInfo} (h:P.underlying t = some d) (hi:P.info? t = some i) (b off:Nat) (vs:List Value) (hl:vs.length = i.size) (hv:∀ j u,vs[j]? = some u → w.cell? ⟨b,off + j,none⟩ = some u) (v:Value) (hr:(jnm d = true ∧ v = .agg vs.toArray) ∨(jnm d = false ∧ vs = [v])) :
    (Instr.loadAt t (.pointer (some ⟨b,off,none⟩))).run P w = .ok v w:=by
  simp only [Instr.loadAt,Instr.sureAddr,Sem.run_bind,Sem.run_pure,Result.andThen_ok,loadVar,wi h]
  rcases hr with ⟨hr,rfl⟩|⟨hr,rfl⟩
  · rw [if_pos hr]
    simp only [Sem.run_bind,gp hi,Result.andThen_ok]
    rw [← hl,run_loadCells_list w ⟨b,off,none⟩ vs (fun j u hu=>by rw [u7];exact hv j u hu)]
    rfl
  · rw [if_neg (by rw [hr];decide)]
    have h0:w.cell? ⟨b,off,none⟩ = some v:=hv 0 v rfl
    simp [h0]
end
def gb {α:Type} (P:Program):Sem α → Option α
  | .pure a=>some a
  | .program k=>gb P (k P)
  | .mark _ k=>gb P k
  | .choose q k=>if q.forced = true then gb P (k 0) else none
  | _=>none
theorem sa {α:Type} {P:Program}:∀ {e:Sem α} {a:α},gb P e = some a → ∀ w,e.run P w = .ok a w
  | .pure b,a,h,w=>by obtain rfl:=Option.some.inj h;rfl
  | .program k,a,h,w=>sa (e:=k P) h w
  | .mark _ k,a,h,w=>sa (e:=k) h w
  | .choose q k,a,h,w=>by
    unfold gb at h
    split at h
    · rename_i hq
      simp only [Sem.run,hq,if_true]
      exact sa h w
    · cases h
  | .load _ _ _,_,h,_=>by cases h
  | .store _ _ _ _,_,h,_=>by cases h
  | .new _ _,_,h,_=>by cases h
  | .shape _ _,_,h,_=>by cases h
  | .freeze _ _ _,_,h,_=>by cases h
  | .frozen _ _,_,h,_=>by cases h
  | .getObj _ _,_,h,_=>by cases h
  | .setObj _ _ _,_,h,_=>by cases h
  | .sys _ _,_,h,_=>by cases h
  | .halt _,_,h,_=>by cases h
def flB:BV → Option Value
  | .d (.flat v)=>some v
  | .agg l=>(go l).map fun vs=>.agg vs.toArray
  | _=>none
where go:List BV → Option (List Value)
  | []=>some []
  | .d (.flat v) :: l=>(go l).map (v :: ·)
  | _ :: _=>none
theorem jmm {x:Full}:∀ {l:List BV} {us vs:List Value},flB.go l = some us → RepBs x l vs → vs = us
  | [],us,vs,h,hr=>by cases hr;obtain rfl:=Option.some.inj h;rfl
  | b :: l,us,vs,h,hr=>by
    cases hr with
    | cons _ v _ vs h1 h2 =>
      unfold flB.go at h
      split at h
      · rename_i e;cases e
      · rename_i u l' e
        obtain ⟨us',hu,rfl⟩:=Option.map_eq_some_iff.1 h
        injection e with e1 e2
        subst e1 e2
        rw [j7 h1,jmm hu h2]
      · cases h
theorem jnn {x:Full} {b:BV} {u v:Value} (h:flB b = some u) (hr:RepB x b v):v = u:=by
  unfold flB at h
  split at h
  · obtain rfl:=Option.some.inj h
    exact j7 hr
  · rename_i l
    obtain ⟨us,hu,rfl⟩:=Option.map_eq_some_iff.1 h
    cases hr with
    | agg _ vs hs=>rw [jmm hu hs]
  · cases h
def fl (ρ:Rg) (o:Operand):Option Value:=(evB ρ o).bind flB
theorem mq {nt:Nat} {x:Full} {ρ:Rg} {a:Act} (h:Regs nt x ρ a) {o:Operand} {u:Value} (hv:fl ρ o = some u):a.eval o = u:=by
  obtain ⟨b,hb,hu⟩:=Option.bind_eq_some_iff.1 hv
  exact jnn hu (h.ev hb)
def flO (ρ:Rg):Option Operand → Option (Option Value)
  | none=>some none
  | some o=>(fl ρ o).map some
theorem jd4 {nt:Nat} {x:Full} {ρ:Rg} {a:Act} (h:Regs nt x ρ a):∀ {o:Option Operand} {u:Option Value},flO ρ o = some u → o.map a.eval = u
  | none,u,hv=>by obtain rfl:=Option.some.inj hv;rfl
  | some o,u,hv=>by
    obtain ⟨v,h1,rfl⟩:=Option.map_eq_some_iff.1 hv
    rw [Option.map_some,mq h h1]
def jfr (ρ:Rg) (o:Option Operand) (d:Nat):Option Nat :=
  match o with
  | none=>some d
  | some o=>match fl ρ o with
    | some (.int _ n)=>if 0 ≤ n then some n.toNat else none
    | _=>none
mutual
def toD:BV → Option DV
  | .d x=>some x
  | .own _ _ _ cs n=>some (.sl cs n)
  | .tight cs n=>some (.sl cs n)
  | .agg l=>(jhc l).map .agg
  | _=>none
def jhc:List BV → Option (List DV)
  | []=>some []
  | b :: l=>match toD b,jhc l with
    | some x,some xs=>some (x :: xs)
    | _,_=>none
end
mutual
theorem jd5 {x:Full}:∀ {b:BV} {d:DV} {v:Value},toD b = some d → RepB x b v → RepD x d v
  | .d y,d,v,h,hr=>by
    rw [toD] at h
    obtain rfl:=Option.some.inj h
    cases hr with
    | d _ _ h=>exact h
  | .own e sz t cs n,d,v,h,hr=>by
    rw [toD] at h
    obtain rfl:=Option.some.inj h
    cases hr with
    | own _ _ _ _ _ k _ h _ _ _=>exact h
  | .tight cs n,d,v,h,hr=>by
    rw [toD] at h
    obtain rfl:=Option.some.inj h
    cases hr with
    | tight _ _ _ h=>exact h
  | .agg l,d,v,h,hr=>by
    rw [toD] at h
    obtain ⟨l',hl,rfl⟩:=Option.map_eq_some_iff.1 h
    cases hr with
    | agg _ vs hs=>exact .agg _ _ (v6 hl hs)
  | .ptr _ _,_,_,h,_=>by simp [toD] at h
  | .eptr _,_,_,h,_=>by simp [toD] at h
  | .fn _ _,_,_,h,_=>by simp [toD] at h
  | .tup _,_,_,h,_=>by simp [toD] at h
  | .bsl _ _,_,_,h,_=>by simp [toD] at h
  | .fresh ..,_,_,h,_=>by simp [toD] at h
  | .mp _ _,_,_,h,_=>by simp [toD] at h
  | .any,_,_,h,_=>by simp [toD] at h
theorem v6 {x:Full}:∀ {l:List BV} {ds:List DV} {vs:List Value},jhc l = some ds → RepBs x l vs → RepDs x ds vs
  | [],ds,vs,h,hr=>by
    rw [jhc] at h
    obtain rfl:=Option.some.inj h
    cases hr
    exact .nil
  | b :: l,ds,vs,h,hr=>by
    rw [jhc] at h
    cases hr with
    | cons _ v _ vs h1 h2 =>
      split at h
      · rename_i y ys hy hys
        obtain rfl:=Option.some.inj h
        exact .cons _ _ _ _ (jd5 hy h1) (v6 hys h2)
      · cases h
end
def dh:BV → List BV
  | .agg l=>l
  | b=>[b]
theorem jcc {x:Full} {b:BV} {v:Value} (h:RepB x b v) (hd:∀ l,b ≠ .d (.agg l)) (ht:∀ l,b ≠ .tup l) (ha:b ≠ .any):RepBs x (dh b) v.cells.toList ∧ ∀ u ∈ v.cells.toList,True:=by
  refine ⟨?_,fun _ _=>trivial⟩
  cases h with
  | agg l vs hs=>simpa [dh,Value.cells] using hs
  | d y v h =>
    cases h with
    | agg l vs hs=>exact absurd rfl (hd l)
    | flat v h=>cases v <;> first|(simp [js] at h;done)|exact .cons _ _ _ _ (.d _ _ (.flat _ h)) .nil
    | nil=>exact .cons _ _ _ _ (.d _ _ .nil) .nil
    | emp a cap hm=>exact .cons _ _ _ _ (.d _ _ (.emp a cap hm)) .nil
    | sl b off n cap cs vs h1 h2 h0 h3 h4=>exact .cons _ _ _ _ (.d _ _ (.sl b off n cap cs vs h1 h2 h0 h3 h4)) .nil
    | iface t y v h=>exact .cons _ _ _ _ (.d _ _ (.iface t y v h)) .nil
    | map id h=>exact .cons _ _ _ _ (.d _ _ (.map id h)) .nil
    | row id n cap h hc hm=>exact .cons _ _ _ _ (.d _ _ (.row id n cap h hc hm)) .nil
  | own e sz t cs n k v h hk hle ho =>
    have hc:v.cells = #[v]:=by cases h <;> rfl
    rw [hc]
    exact .cons _ _ _ _ (.own e sz t cs n k v h hk hle ho) .nil
  | tight cs n base h=>exact .cons _ _ _ _ (.tight cs n base h) .nil
  | ptr id off h=>exact .cons _ _ _ _ (.ptr id off h) .nil
  | eptr b off cs vs hv h=>exact .cons _ _ _ _ (.eptr b off cs vs hv h) .nil
  | fn f cap vs h=>exact .cons _ _ _ _ (.fn f cap vs h) .nil
  | tup l vs h=>exact absurd rfl (ht l)
  | bsl id n cap h hc hm=>exact .cons _ _ _ _ (.bsl id n cap h hc hm) .nil
  | fresh e sz t cs n k v hv hp hk hle ho =>
    have hc:v.cells = #[v]:=by
      obtain ⟨base,cap,rfl,_⟩:=hv
      rfl
    rw [hc]
    exact .cons _ _ _ _ (.fresh e sz t cs n k v hv hp hk hle ho) .nil
  | mp id off h=>exact .cons _ _ _ _ (.mp id off h) .nil
  | any v=>exact absurd rfl ha
theorem zh {P:Program} {w:World} {t e:Nat} (h:P.underlying t = some (.pointer e)) (a:Addr):(Op.equal t (.pointer (some a)) (.pointer none)).run P w = .ok false w:=by
  unfold Op.equal Op.maxDepth
  rw [show (10000:Nat) = 9999 + 1 from rfl,Op.equalIn]
  simp only [Sem.run_bind,fo h,Result.andThen_ok,Sem.run_pure]
end Go.Proofs.YtinffhimfoicdaaGreat.Calc
namespace Go.Proofs.YtinffhimfoicdaaGreat.Calc
open Go Go.RowKit
set_option linter.unusedVariables false
def jku (P:Program) (t:Nat):Option (List (Nat × Nat) × List BV) :=
  match P.info? t,P.underlying t with
  | some it,some (.struct fs)=>match it.zero,fs.toList.mapM (fun f=>(P.info? f.type).map fun i=>(f.offset,i.size)) with
    | some z,some pl=>if jml z = true then (r8 z.cells.toList).map fun l=>(pl,l) else none
    | _,_=>none
  | _,_=>none
theorem jcd {P:Program} {t:Nat} {pl:List (Nat × Nat)} {l:List BV} (h:jku P t = some (pl,l)):∃ it fs z,P.info? t = some it ∧ P.underlying t = some (.struct fs) ∧ it.zero = some z ∧ fs.toList.mapM (fun f=>(P.info? f.type).map fun i=>(f.offset,i.size)) = some pl ∧ jml z = true ∧ r8 z.cells.toList = some l:=by
  unfold jku at h
  split at h
  · rename_i it fs h1 h2
    split at h
    · rename_i z pl' h3 h4
      split at h
      · rename_i h5
        obtain ⟨l',h6,he⟩:=Option.map_eq_some_iff.1 h
        simp only [Prod.mk.injEq] at he
        obtain ⟨rfl,rfl⟩:=he
        exact ⟨it,fs,z,h1,h2,h3,h4,h5,h6⟩
      · cases h
    · cases h
  · cases h
theorem zi {P:Program}:∀ {fs:List Field} {pl:List (Nat × Nat)},fs.mapM (fun f=>(P.info? f.type).map fun i=>(f.offset,i.size)) = some pl → ∀ {f:Nat} {off size:Nat},pl[f]? = some (off,size) → ∃ fd i,fs[f]? = some fd ∧ P.info? fd.type = some i ∧ fd.offset = off ∧ i.size = size
  | [],pl,h,f,off,size,hf=>by
    simp at h
    subst h
    simp at hf
  | fd :: fs,pl,h,f,off,size,hf=>by
    simp only [List.mapM_cons,Option.bind_eq_bind,Option.pure_def] at h
    obtain ⟨p,hp,h⟩:=Option.bind_eq_some_iff.1 h
    obtain ⟨pl',hpl,h⟩:=Option.bind_eq_some_iff.1 h
    obtain rfl:=Option.some.inj h
    obtain ⟨i,hi,rfl⟩:=Option.map_eq_some_iff.1 hp
    cases f with
    | zero =>
      simp only [List.getElem?_cons_zero,Option.some.injEq,Prod.mk.injEq] at hf
      exact ⟨fd,i,rfl,hi,hf.1,hf.2⟩
    | succ f =>
      simp only [List.getElem?_cons_succ] at hf ⊢
      exact zi hpl hf
def u9 (P:Program) (t:Nat):Option (Nat × Nat) :=
  match P.underlying t with
  | some (.slice e)=>(P.info? e).map fun i=>(e,i.size)
  | _=>none
theorem jk {P:Program} {t e sz:Nat} (h:u9 P t = some (e,sz)):P.underlying t = some (.slice e) ∧ ∃ i,P.info? e = some i ∧ i.size = sz:=by
  unfold u9 at h
  split at h
  · rename_i e' h1
    obtain ⟨i,hi,he⟩:=Option.map_eq_some_iff.1 h
    simp only [Prod.mk.injEq] at he
    obtain ⟨rfl,rfl⟩:=he
    exact ⟨h1,i,hi,rfl⟩
  · cases h
def ofD:DV → BV
  | .agg l=>.agg (l.map .d)
  | x=>.d x
theorem jd6 {x:Full} {d:DV} {v:Value} (h:RepD x d v):RepB x (ofD d) v:=by
  cases h with
  | agg l vs h=>exact .agg _ _ (RepBs.ofD h)
  | flat v h=>exact .d _ _ (.flat v h)
  | nil=>exact .d _ _ .nil
  | emp a cap hm=>exact .d _ _ (.emp a cap hm)
  | sl b off n cap cs vs h1 h2 h0 h3 h4=>exact .d _ _ (.sl b off n cap cs vs h1 h2 h0 h3 h4)
  | iface t y v h=>exact .d _ _ (.iface t y v h)
  | map id h=>exact .d _ _ (.map id h)
  | row id n cap h hc hm=>exact .d _ _ (.row id n cap h hc hm)
def part (ag:Bool) (sz off:Nat) (cs:List BV):Option BV :=
  if off + sz ≤ cs.length then (if ag = true then some (.agg ((cs.drop off).take sz)) else match (cs.drop off).take sz with|[b]=>some b|_=>none) else none
def mg:BV → Option (List DV × Nat)
  | .d (.sl cs n)=>some (cs,n)
  | .own _ _ _ cs n=>some (cs,n)
  | .tight cs n=>some (cs,n)
  | _=>none
theorem po {x:Full} {b:BV} {cs:List DV} {n:Nat} {v:Value} (h:mg b = some (cs,n)) (hr:RepB x b v):RepD x (.sl cs n) v:=by
  cases b with
  | d y =>
    cases y with
    | sl cs' n' =>
      simp only [mg,Option.some.injEq,Prod.mk.injEq] at h
      obtain ⟨rfl,rfl⟩:=h
      cases hr with
      | d _ _ h=>exact h
    | _=>simp [mg] at h
  | own e sz t cs' n' =>
    simp only [mg,Option.some.injEq,Prod.mk.injEq] at h
    obtain ⟨rfl,rfl⟩:=h
    cases hr with
    | own _ _ _ _ _ k _ h _ _ _=>exact h
  | tight cs' n' =>
    simp only [mg,Option.some.injEq,Prod.mk.injEq] at h
    obtain ⟨rfl,rfl⟩:=h
    cases hr with
    | tight _ _ _ h=>exact h
  | _=>simp [mg] at h
def jsv (P:Program) (t:Nat) (op:BinOp) (x y:Option BV):Option Bool :=
  match P.underlying t,x,y with
  | some (.pointer _),some (.ptr _ _),some (.d (.flat (.pointer none)))=>match op with
    | .eql=>some false
    | .neq=>some true
    | _=>none
  | _,_,_=>none
def jh4 (ρ:Rg):List Operand → Option (List BV)
  | []=>some []
  | o :: l=>match evB ρ o,jh4 ρ l with
    | some b,some bs=>some (b :: bs)
    | _,_=>none
theorem jae {nt:Nat} {x:Full} {ρ:Rg} {a:Act} (h:Regs nt x ρ a):∀ {l:List Operand} {bs:List BV},jh4 ρ l = some bs → RepBs x bs (l.map a.eval)
  | [],bs,hv=>by obtain rfl:=Option.some.inj hv;exact .nil
  | o :: l,bs,hv=>by
    unfold jh4 at hv
    split at hv
    · rename_i b bs' h1 h2
      obtain rfl:=Option.some.inj hv
      exact .cons _ _ _ _ (h.ev h1) (jae h h2)
    · cases hv
def mi {α:Type}:Nat → List α → List α → List α
  | _,[],cs=>cs
  | off,c :: l,cs=>mi (off + 1) l (cs.set off c)
theorem ri {α:Type}:∀(l:List α) (off:Nat) (cs:List α),(mi off l cs).length = cs.length
  | [],_,_=>rfl
  | c :: l,off,cs=>by rw [mi,ri l,List.length_set]
theorem RepBs.set {x:Full}:∀ {l:List BV} {vs:List Value},RepBs x l vs → ∀(i:Nat) {b:BV} {v:Value},RepB x b v → RepBs x (l.set i b) (vs.set i v)
  | _,_,.nil,i,_,_,_=>by simp;exact .nil
  | _,_,.cons y v l vs h hs,0,_,_,hb=>by simp only [List.set_cons_zero];exact .cons _ _ _ _ hb hs
  | _,_,.cons y v l vs h hs,i + 1,_,_,hb=>by simp only [List.set_cons_succ];exact .cons _ _ _ _ h (RepBs.set hs i hb)
theorem jaf {x:Full}:∀ {bs:List BV} {us:List Value},RepBs x bs us → ∀(off:Nat) {cs:List BV} {vs:List Value},RepBs x cs vs → RepBs x (mi off bs cs) (mi off us vs)
  | _,_,.nil,_,_,_,h=>h
  | _,_,.cons y v l vs h hs,off,_,_,hc=>by rw [mi,mi];exact jaf hs (off + 1) (hc.set off h)
theorem jce (off:Nat):∀(us:List Value) (j:Nat) (vs:List Value),((us.zipIdx j).foldl (fun (cs:Array Value) (p:Value × Nat)=>cs.setIfInBounds (off + p.2) p.1) vs.toArray) =(mi (off + j) us vs).toArray
  | [],_,_=>rfl
  | u :: us,j,vs=>by
    rw [List.zipIdx_cons,List.foldl_cons,List.setIfInBounds_toArray,jce off us (j + 1),mi,Nat.add_assoc]
def jhd:BV → Bool
  | .agg _|.tup _|.d (.agg _)|.any=>false
  | _=>true
def f6:BV → Bool
  | .agg l=>l.all jhd
  | b=>jhd b
theorem qv {x:Full} {b:BV} {v:Value} (hk:f6 b = true) (h:RepB x b v):RepBs x (dh b) v.cells.toList:=by
  refine (jcc h ?_ ?_ ?_).1
  · rintro l rfl
    simp [f6,jhd] at hk
  · rintro l rfl
    simp [f6,jhd] at hk
  · rintro rfl
    simp [f6,jhd] at hk
def nf (ρ:Rg) (place:Nat → Option (Nat × Nat)):List (Nat × Operand) → List BV → Option (List BV)
  | [],cs=>some cs
  |(i,o) :: rest,cs=>match place i,evB ρ o with
    | some (off,sz),some b=>if f6 b = true ∧(dh b).length = sz ∧ off + sz ≤ cs.length then nf ρ place rest (mi off (dh b) cs) else none
    | _,_=>none
theorem jag {nt:Nat} {x:Full} {ρ:Rg} {a:Act} (hr:Regs nt x ρ a) (place:Nat → Option (Nat × Nat)):∀(parts:List (Nat × Operand)) {cs cs':List BV} {vs:List Value},RepBs x cs vs → nf ρ place parts cs = some cs' → ∃ vs',Instr.fill place vs.toArray (parts.map fun p=>(p.1,a.eval p.2)) = some vs'.toArray ∧ RepBs x cs' vs'
  | [],cs,cs',vs,h,hf=>by obtain rfl:=Option.some.inj hf;exact ⟨vs,rfl,h⟩
  |(i,o) :: rest,cs,cs',vs,h,hf=>by
    unfold nf at hf
    split at hf
    · rename_i off sz b h1 h2
      split at hf
      · rename_i hc
        obtain ⟨c1,c2,c3⟩:=hc
        have hb:=qv c1 (hr.ev h2)
        have hlen:=hb.length
        have hsz:(a.eval o).cells.size = sz:=by rw [← Array.length_toList,← hlen,c2]
        obtain ⟨vs',g1,g2⟩:=jag hr place rest (jaf hb off h) hf
        refine ⟨vs',?_,g2⟩
        rw [List.map_cons,Instr.fill]
        simp only [h1]
        have hl:=h.length
        rw [if_neg (by simp only [List.size_toArray,Bool.or_eq_true,decide_eq_true_eq,not_or];omega)]
        rw [← g1]
        congr 1
        have:=jce off (a.eval o).cells.toList 0 vs
        rw [Nat.add_zero] at this
        rw [← this,← Array.foldl_toList,Array.toList_zipIdx]
      · cases hf
    · cases hf
def jmn (P:Program) (t f:Nat):Option (Nat × Nat) :=
  match P.underlying t with
  | some (.struct fs)=>match fs[f]? with
    | some fd=>some (fd.type,fd.offset)
    | none=>none
  | _=>none
theorem jh9 {P:Program} {t f u off:Nat} (h:jmn P t f = some (u,off)):∃ fs fd,P.underlying t = some (.struct fs) ∧ fs[f]? = some fd ∧ fd.type = u ∧ fd.offset = off:=by
  unfold jmn at h
  split at h
  · rename_i fs h1
    split at h
    · rename_i fd h2
      simp only [Option.some.injEq,Prod.mk.injEq] at h
      exact ⟨fs,fd,h1,h2,h.1,h.2⟩
    · cases h
  · cases h
def bn (P:Program) (st:St) (ρ:Rg):Op → Option BV
  | .move x=>evB ρ x
  | .assign x=>evB ρ x
  | .pick c a b=>match evB ρ c with
    | some (.d (.flat (.bool t)))=>if t = true then evB ρ a else evB ρ b
    | _=>none
  | .binOp op t x y _=>match fl ρ x,fl ρ y with
    | some a,some b=>(gb P (do eqGuard op t x y a b;binOp op t a b)).bind d6
    | _,_=>(jsv P t op (evB ρ x) (evB ρ y)).map fun b=>.d (.flat (.bool b))
  | .unOp op _ x=>match fl ρ x with
    | some a=>(gb P (Op.unary op a)).bind d6
    | none=>none
  | .convert s d x=>match fl ρ x with
    | some a=>(gb P (convert s d a)).bind d6
    | none=>none
  | .index t x i=>match fl ρ x,fl ρ i with
    | some a,some b=>(gb P (Instr.index t a b)).bind d6
    | _,_=>none
  | .nilCheck x=>match evB ρ x with
    | some (.ptr i o)=>some (.ptr i o)
    | some (.eptr cs)=>some (.eptr cs)
    | some (.fn f l)=>some (.fn f l)
    | _=>none
  | .load t x=>match evB ρ x,pi P t with
    | some (.ptr id off),some (ag,sz,_)=>match st.S[id]? with
      | some (cs,_)=>part ag sz off cs
      | none=>none
    | some (.eptr cs),some (ag,sz,_)=>part ag sz 0 (cs.map .d)
    | _,_=>none
  | .fieldAddr s x f=>match jku P s with
    | some (pl,_)=>match pl[f]? with
      | some (o,sz)=>if sz = 0 then none else match evB ρ x with
        | some (.ptr id off)=>some (.ptr id (off + o))
        | some (.eptr cs)=>some (.eptr (cs.drop o))
        | _=>none
      | none=>none
    | none=>none
  | .indexAddr t x i=>match u9 P t,(evB ρ x).bind mg,fl ρ i with
    | some (_,sz),some (cs,n),some (.int _ j)=>if 0 ≤ j ∧ j < n then some (.eptr ((cs.drop (j.toNat * sz)).take sz)) else none
    | _,_,_=>none
  | .field t x f=>match evB ρ x,jmn P t f with
    | some (.agg l),some (u,off)=>match pi P u with
      | some (ag,sz,_)=>part ag sz off l
      | none=>none
    | _,_=>none
  | .extract x i=>match evB ρ x with
    | some (.tup l)=>l[i]?
    | _=>none
  | .slice t x lo hi mx=>match evB ρ x with
    | some (.d (.flat s))=>match flO ρ lo,flO ρ hi,flO ρ mx with
      | some l,some h,some m=>(gb P (Instr.sliceAt t s l h m)).bind d6
      | _,_,_=>none
    | some b=>match mg b,u9 P t,jfr ρ lo 0,mx with
      | some (cs,n),some (_,sz),some 0,some _=>match jfr ρ hi n,jfr ρ mx n with
        | some h,some m=>if h = m ∧ h ≤ n ∧ lo.isNone = true ∧ hi.isSome = true then some (.tight (cs.take (h * sz)) h) else none
        | _,_=>none
      | some (cs,n),some (_,sz),some l,none=>match jfr ρ hi n with
        | some h=>if l ≤ h ∧ h ≤ n then some (.d (.sl ((cs.drop (l * sz)).take ((h - l) * sz)) (h - l))) else none
        | none=>none
      | _,_,_,_=>none
    | none=>none
  | .build t ps=>match jku P t with
    | some (pl,z)=>(nf ρ (pl[·]?) ps.toList z).map .agg
    | none=>none
  | .call c=>match c.callee,c.args.toList with
    | .builtin .len,[x]=>match evB ρ x with
      | some (.d (.flat v))=>(gb P (Builtin.len_ c.argTypes 0 #[v])).bind d6
      | some b=>match mg b,u9 P (c.argTypes.getD 0 0),c.argTypes[0]? with
        | some (_,n),some _,some _=>some (.d (.flat (.int .i64 n)))
        | _,_,_=>none
      | none=>none
    | .builtin .min,[x,y]=>match fl ρ x,fl ρ y with
      | some u,some v=>(gb P (Builtin.min_ c.argTypes 0 #[u,v])).bind d6
      | _,_=>none
    | .builtin .max,[x,y]=>match fl ρ x,fl ρ y with
      | some u,some v=>(gb P (Builtin.max_ c.argTypes 0 #[u,v])).bind d6
      | _,_=>none
    | _,_=>none
  | .makeInterface t x=>match P.underlying t with
    | some (.interface _)=>none
    | some _=>((evB ρ x).bind toD).map fun d=>.d (.iface t d)
    | none=>none
  | .makeFunc (.func f) first caps=>if first = #[] then (jh4 ρ caps.toList).map (.fn f) else none
  | .typeAssert x _ t ok=>match P.underlying t with
    | some (.interface _)=>none
    | some _=>match evB ρ x,pi P t with
      | some (.d (.iface u d)),some (ag,_,z)=>if u = t then some (if ok = true then .tup [ofD d,.d (.flat (.bool true))] else ofD d) else if ok = true then (if ag = true then some (.tup [.agg z,.d (.flat (.bool false))]) else none) else none
      | some (.d (.flat .nilIface)),some (ag,_,z)=>if ok = true then (if ag = true then some (.tup [.agg z,.d (.flat (.bool false))]) else none) else none
      | _,_=>none
    | none=>none
  | _=>none
theorem jcf {x:Full} (hg:Good x) {id:Nat} {cs:List BV} {t:Nat} (h:x.st.S[id]? = some (cs,t)):∃ vs:List Value,RepBs x cs vs ∧ ∀ Wr w,Same Wr x w → id ∉ Wr → ∀ j u,vs[j]? = some u → w.cell? ⟨x.pb id,j,none⟩ = some u:=by
  obtain ⟨vs,h1,h2,_⟩:=hg.box id cs t h
  refine ⟨vs,h2,fun Wr w hw hn j u hu=>?_⟩
  have hb:=hw.box id (List.getElem?_eq_some_iff.1 h).1 hn
  simp [World.cell?,hb,h1,hu]
theorem v7 {P:Program} {x:Full} {t:Nat} {ag:Bool} {sz off:Nat} {z:List BV} (ht:pi P t = some (ag,sz,z)) {cs:List BV} {b:BV} (hp:part ag sz off cs = some b) {vs:List Value} (hr:RepBs x cs vs) (blk o0:Nat) :
    ∃ v,(∀ w:World,(∀ j u,vs[j]? = some u → w.cell? ⟨blk,o0 + j,none⟩ = some u) →(Instr.loadAt t (.pointer (some ⟨blk,o0 + off,none⟩))).run P w = .ok v w) ∧ RepB x b v:=by
  obtain ⟨d,i,zz,h1,h2,_,h4,h5,_,_⟩:=gg ht
  subst h4 h5
  unfold part at hp
  split at hp
  case isFalse=>cases hp
  rename_i hle
  have hl:=hr.length
  have hr2:=(hr.drop off).take i.size
  have hlen:((vs.drop off).take i.size).length = i.size:=by rw [List.length_take,List.length_drop];omega
  have hv2:∀ w:World,(∀ j u,vs[j]? = some u → w.cell? ⟨blk,o0 + j,none⟩ = some u) → ∀ j u,((vs.drop off).take i.size)[j]? = some u → w.cell? ⟨blk,o0 + off + j,none⟩ = some u:=fun w hv j u hu=>by
    have hj:j < i.size:=by rw [← hlen];exact (List.getElem?_eq_some_iff.1 hu).1
    rw [List.getElem?_take,if_pos hj,List.getElem?_drop] at hu
    rw [Nat.add_assoc]
    exact hv _ _ hu
  split at hp
  · rename_i hag
    obtain rfl:=Option.some.inj hp
    exact ⟨_,fun w hv=>jfq h1 h2 blk (o0 + off) _ hlen (hv2 w hv) _ (.inl ⟨hag,rfl⟩),.agg _ _ hr2⟩
  · rename_i hag
    split at hp
    · rename_i b' e
      obtain rfl:=Option.some.inj hp
      rw [e] at hr2
      generalize hvs:(vs.drop off).take i.size = us at hr2 hlen hv2
      cases hr2 with
      | cons _ v _ vs' h6 h7 =>
        cases h7
        exact ⟨v,fun w hv=>jfq h1 h2 blk (o0 + off) [v] hlen (hv2 w hv) v (.inr ⟨by simpa using hag,rfl⟩),h6⟩
    · cases hp
theorem wj {P:Program} {w:World} {s:Nat} {fs:Array Field} {f:Nat} {fd:Field} {i:TypeInfo} (h1:P.underlying s = some (.struct fs)) (h2:fs[f]? = some fd) (h3:P.info? fd.type = some i) (h4:i.size ≠ 0) (b off:Nat) :
    (Instr.fieldAt s (.pointer (some ⟨b,off,none⟩)) f).run P w = .ok (.pointer (some ⟨b,off + fd.offset,none⟩)) w:=by
  simp only [Instr.fieldAt,Sem.run_bind,fo h1,Result.andThen_ok,h2,Instr.sureAddr,Sem.run_pure,fieldPlace,gp h3,if_neg h4,u7]
theorem sb {P:Program} {x:Full} {e:Sem Value} {b:BV} (h:(gb P e).bind d6 = some b):∃ v,(∀ w,e.run P w = .ok v w) ∧ RepB x b v:=by
  obtain ⟨v,hv,hb⟩:=Option.bind_eq_some_iff.1 h
  exact ⟨v,sa hv,zg hb⟩
theorem jah {nt:Nat} {x:Full} {ρ:Rg} {a:Act} (h:Regs nt x ρ a) {o:Option Operand} {d k:Nat} (hb:jfr ρ o d = some k):(o.map a.eval = none ∧ k = d) ∨ ∃ kd n,o.map a.eval = some (.int kd n) ∧ 0 ≤ n ∧ k = n.toNat:=by
  cases o with
  | none =>
    obtain rfl:=Option.some.inj hb
    exact .inl ⟨rfl,rfl⟩
  | some o =>
    simp only [jfr] at hb
    split at hb
    · rename_i kd n hf
      split at hb
      · rename_i hn
        obtain rfl:=Option.some.inj hb
        exact .inr ⟨kd,n,by rw [Option.map_some,mq h hf],hn,rfl⟩
      · cases hb
    · cases hb
theorem jno {P:Program} {x:Full} {t e:Nat} {ti:TypeInfo} (g1:P.underlying t = some (.slice e)) (g2:P.info? e = some ti) {cs:List DV} {n:Nat} {v:Value} (hv:RepD x (.sl cs n) v) {lo hi:Option Value} {l h:Nat}
    (hl:(lo = none ∧ l = 0) ∨ ∃ kd m,lo = some (.int kd m) ∧ 0 ≤ m ∧ l = m.toNat) (hh:(hi = none ∧ h = n) ∨ ∃ kd m,hi = some (.int kd m) ∧ 0 ≤ m ∧ h = m.toNat) (c1:l ≤ h) (c2:h ≤ n) :
    ∃ u,(∀ w,(Instr.sliceAt t v lo hi none).run P w = .ok u w) ∧ RepD x (.sl ((cs.drop (l * ti.size)).take ((h - l) * ti.size)) (h - l)) u:=by
  have bounds:∀(w:World) cap,n ≤ cap →(Instr.sliceBounds true n cap lo hi none).run P w = .ok (l,h,cap) w:=fun w cap hcap=>by
    have hb:∀(y:Nat) (k:IntKind) (m:Int) (code:BoundsCode),0 ≤ m → m.toNat ≤ y →(Instr.sliceBound (.int k m) y code).run P w = .ok m.toNat w:=fun y k m code h0 h1=>by
      simp only [Instr.sliceBound,asIntOf,Sem.run_bind,Sem.run_pure,Result.andThen_ok]
      rw [if_pos ⟨h0,by omega⟩]
      rfl
    rcases hl with ⟨rfl,rfl⟩|⟨kl,ml,rfl,hl0,rfl⟩ <;> rcases hh with ⟨rfl,rfl⟩|⟨kh,mh,rfl,hh0,rfl⟩
    · simp [Instr.sliceBounds]
    · simp only [Instr.sliceBounds,Sem.run_bind,Sem.run_pure,Result.andThen_ok]
      rw [hb _ _ _ _ hh0 (by omega)]
      rfl
    · simp only [Instr.sliceBounds,Sem.run_bind,Sem.run_pure,Result.andThen_ok]
      rw [hb _ _ _ _ hl0 (by omega)]
      rfl
    · simp only [Instr.sliceBounds,Sem.run_bind,Sem.run_pure,Result.andThen_ok]
      rw [hb _ _ _ _ hh0 (by omega)]
      simp only [Result.andThen_ok]
      rw [hb _ _ _ _ hl0 (by omega)]
      rfl
  cases hv with
  | nil =>
    obtain rfl:h = 0:=by omega
    obtain rfl:l = 0:=by omega
    refine ⟨.slice none 0 0,fun w=>?_,by simpa using RepD.nil⟩
    simp only [Instr.sliceAt,Sem.run_bind,fo g1,Result.andThen_ok,Instr.slice,bounds w 0 (Nat.le_refl _),gp g2,Sem.run_pure]
    rfl
  | emp a cap hm =>
    obtain rfl:h = 0:=by omega
    obtain rfl:l = 0:=by omega
    refine ⟨.slice (if cap = 0 then some a else (some a:Option Addr).map (·.add (0 * ti.size))) (0 - 0) (cap - 0),fun w=>?_,?_⟩
    · simp only [Instr.sliceAt,Sem.run_bind,fo g1,Result.andThen_ok,Instr.slice,bounds w cap (Nat.zero_le _),gp g2,Sem.run_pure]
    · have e:(if cap = 0 then some a else (some a:Option Addr).map (·.add (0 * ti.size))) = some a:=by
        split
        · rfl
        · rw [Nat.zero_mul];rfl
      rw [e]
      simpa using RepD.emp a cap hm
  | sl bb off _ cap _ vs h6 h7 h0' h8 h9 =>
    refine ⟨.slice (if cap = l then some ⟨bb,off,none⟩ else (some ⟨bb,off,none⟩:Option Addr).map (·.add (l * ti.size))) (h - l) (cap - l),fun w=>?_,?_⟩
    · simp only [Instr.sliceAt,Sem.run_bind,fo g1,Result.andThen_ok,Instr.slice,bounds w cap h6,gp g2,Sem.run_pure]
    · by_cases hcl:cap = l
      · obtain rfl:h = l:=by omega
        rw [if_pos hcl,Nat.sub_self,Nat.zero_mul,List.take_zero]
        exact .sl bb off 0 _ [] [] (Nat.zero_le _) (Nat.zero_le _) rfl (fun i u hu=>by simp at hu) .nil
      · rw [if_neg hcl,Option.map_some,u7]
        refine .sl bb (off + l * ti.size) (h - l) (cap - l) _ ((vs.drop (l * ti.size)).take ((h - l) * ti.size)) (by omega) (by omega) (jfn (jks h0' _) _) (fun i u hu=>?_) ((h9.drop _).take _)
        rw [List.getElem?_take] at hu
        split at hu
        · rw [List.getElem?_drop] at hu
          rw [Nat.add_assoc]
          exact h8 _ _ hu
        · cases hu
def wl (Wr:List Nat) (ρ:Rg):Op → Bool
  | .load _ x=>match evB ρ x with
    | some (.ptr id _)=>!Wr.contains id
    | _=>true
  | _=>true
theorem jcg (ρ:Rg) (op:Op):wl [] ρ op = true:=by
  unfold wl
  split
  · split <;> simp
  · rfl
theorem jkv {P:Program} {x:Full} {t e:Nat} {ti:TypeInfo} (g1:P.underlying t = some (.slice e)) (g2:P.info? e = some ti) {cs:List DV} {n:Nat} {v:Value} (hv:RepD x (.sl cs n) v) {hi mx:Option Value} {h:Nat}
    (hh:(hi = none ∧ h = n) ∨ ∃ kd m,hi = some (.int kd m) ∧ 0 ≤ m ∧ h = m.toNat) (hm:(mx = none ∧ h = n) ∨ ∃ kd m,mx = some (.int kd m) ∧ 0 ≤ m ∧ h = m.toNat) (h1:hi ≠ none) (h2:mx ≠ none) (c2:h ≤ n) :
    ∃ base,(∀ w,(Instr.sliceAt t v none hi mx).run P w = .ok (.slice base h h) w) ∧ RepB x (.tight (cs.take (h * ti.size)) h) (.slice base h h):=by
  rcases hh with ⟨rfl,_⟩|⟨kh,mh,rfl,hh0,rfl⟩
  · exact absurd rfl h1
  rcases hm with ⟨rfl,_⟩|⟨km,mm,rfl,hm0,he⟩
  · exact absurd rfl h2
  have hb:∀(w:World) (y:Nat) (k:IntKind) (m:Int) (code:BoundsCode),0 ≤ m → m.toNat ≤ y →(Instr.sliceBound (.int k m) y code).run P w = .ok m.toNat w:=fun w y k m code h0 h1=>by
    simp only [Instr.sliceBound,asIntOf,Sem.run_bind,Sem.run_pure,Result.andThen_ok]
    rw [if_pos ⟨h0,by omega⟩]
    rfl
  have bounds:∀(w:World) cap,n ≤ cap →(Instr.sliceBounds true n cap none (some (.int kh mh)) (some (.int km mm))).run P w = .ok (0,mh.toNat,mh.toNat) w:=fun w cap hcap=>by
    simp only [Instr.sliceBounds,Sem.run_bind,Sem.run_pure,Result.andThen_ok]
    rw [hb _ _ _ _ _ hm0 (by omega)]
    simp only [Result.andThen_ok]
    rw [hb _ _ _ _ _ hh0 (by omega),← he]
    rfl
  cases hv with
  | nil =>
    have h0:mh.toNat = 0:=by omega
    rw [h0] at bounds ⊢
    refine ⟨none,fun w=>?_,by simpa using .tight _ _ _ RepD.nil⟩
    simp only [Instr.sliceAt,Sem.run_bind,fo g1,Result.andThen_ok,Instr.slice,bounds w 0 (Nat.le_refl _),gp g2,Sem.run_pure]
    rfl
  | emp a cap hm =>
    have h0:mh.toNat = 0:=by omega
    rw [h0] at bounds ⊢
    refine ⟨some a,fun w=>?_,by simpa using .tight _ _ _ (RepD.emp a 0 (Nat.zero_le _))⟩
    simp only [Instr.sliceAt,Sem.run_bind,fo g1,Result.andThen_ok,Instr.slice,bounds w cap (Nat.zero_le _),gp g2,Sem.run_pure,Option.map_some,Nat.zero_mul,Nat.sub_zero]
    split <;> rfl
  | sl bb off _ cap _ vs h6 h7 h0' h8 h9 =>
    refine ⟨some ⟨bb,off,none⟩,fun w=>?_,.tight _ _ _ (.sl bb off _ _ _ (vs.take (mh.toNat * ti.size)) (Nat.le_refl _) (by omega) (jfn h0' _) (fun i u hu=>?_) (h9.take _))⟩
    · simp only [Instr.sliceAt,Sem.run_bind,fo g1,Result.andThen_ok,Instr.slice,bounds w cap h6,gp g2,Sem.run_pure,Option.map_some,u7,Nat.zero_mul,Nat.add_zero,Nat.sub_zero]
      split <;> rfl
    · rw [List.getElem?_take] at hu
      split at hu
      · exact h8 _ _ hu
      · cases hu
theorem jch {P:Program} {st:St} {ρ:Rg} {o:Oper} {b:BV} (Wr:List Nat) (h:bn P st ρ o.op = some b) (hk:wl Wr ρ o.op = true) {nt:Nat} {y:Full} {a:Act} (hs:y.st = st) (hg:Good y) (hr:Regs nt y ρ a):∃ v,(∀ w,Same Wr y w →(execOp a.eval o).run P w = .ok (.value v) w) ∧ RepB y b v:=by
  obtain ⟨dst,op,type,pos,after,guard⟩:=o
  subst hs
  cases op with
  | move x=>exact ⟨_,fun w hsame=>by simp [execOp],hr.ev h⟩
  | assign x=>exact ⟨_,fun w hsame=>by simp [execOp],hr.ev h⟩
  | pick c p q =>
    simp only [bn] at h
    split at h
    · rename_i t hc
      have hcv:=j7 (hr.ev hc)
      cases t with
      | true=>exact ⟨a.eval p,fun w hsame=>by simp [execOp,hcv,asBool],hr.ev (by simpa using h)⟩
      | false=>exact ⟨a.eval q,fun w hsame=>by simp [execOp,hcv,asBool],hr.ev (by simpa using h)⟩
    · cases h
  | unOp op t x =>
    simp only [bn] at h
    split at h
    · rename_i u hu
      obtain ⟨v,hv,hb⟩:=sb (x:=y) h
      exact ⟨v,fun w hsame=>by simp [execOp,mq hr hu,hv],hb⟩
    · cases h
  | convert s d x =>
    simp only [bn] at h
    split at h
    · rename_i u hu
      obtain ⟨v,hv,hb⟩:=sb (x:=y) h
      exact ⟨v,fun w hsame=>by simp [execOp,mq hr hu,hv],hb⟩
    · cases h
  | index t x i =>
    simp only [bn] at h
    split at h
    · rename_i u k hu hk
      obtain ⟨v,hv,hb⟩:=sb (x:=y) h
      exact ⟨v,fun w hsame=>by simp [execOp,mq hr hu,mq hr hk,hv],hb⟩
    · cases h
  | binOp op t p q ty =>
    simp only [bn] at h
    split at h
    · rename_i u k hu hk
      obtain ⟨v,hv,hb⟩:=sb (x:=y) h
      exact ⟨v,fun w hsame=>by rw [show (execOp a.eval { dst:=dst,op:=.binOp op t p q ty,type:=type,pos:=pos,after:=after,guard:=guard }) =(do let z ← (do eqGuard op t p q (a.eval p) (a.eval q);binOp op t (a.eval p) (a.eval q));pure (.value z)) from rfl,mq hr hu,mq hr hk,Sem.run_bind,hv];simp,hb⟩
    · obtain ⟨r,h1,rfl⟩:=Option.map_eq_some_iff.1 h
      unfold jsv at h1
      split at h1
      case h_2=>cases h1
      rename_i e id off h2 h3 h4
      have hv:=hr.ev h3
      have hq:=j7 (hr.ev h4)
      generalize hw:a.eval p = v at hv
      cases hv with
      | ptr _ _ hlt =>
        refine ⟨.bool r,fun w hsame=>?_,.d _ _ (.flat _ rfl)⟩
        split at h1
        · obtain rfl:=Option.some.inj h1
          rw [show (execOp a.eval { dst:=dst,op:=.binOp .eql t p q ty,type:=type,pos:=pos,after:=after,guard:=guard }) =(do let z ← (do eqGuard .eql t p q (a.eval p) (a.eval q);binOp .eql t (a.eval p) (a.eval q));pure (.value z)) from rfl,hw,hq]
          rw [show (do eqGuard .eql t p q (.pointer (some ⟨y.pb id,off,none⟩)) (.pointer none);binOp .eql t (.pointer (some ⟨y.pb id,off,none⟩)) (.pointer none):Sem Value) =(do let z ← Op.equal t (.pointer (some ⟨y.pb id,off,none⟩)) (.pointer none);pure (.bool z)) from rfl]
          simp only [Sem.run_bind,zh h2,Result.andThen_ok,Sem.run_pure]
        · obtain rfl:=Option.some.inj h1
          rw [show (execOp a.eval { dst:=dst,op:=.binOp .neq t p q ty,type:=type,pos:=pos,after:=after,guard:=guard }) =(do let z ← (do eqGuard .neq t p q (a.eval p) (a.eval q);binOp .neq t (a.eval p) (a.eval q));pure (.value z)) from rfl,hw,hq]
          rw [show (do eqGuard .neq t p q (.pointer (some ⟨y.pb id,off,none⟩)) (.pointer none);binOp .neq t (.pointer (some ⟨y.pb id,off,none⟩)) (.pointer none):Sem Value) =(do let z ← Op.equal t (.pointer (some ⟨y.pb id,off,none⟩)) (.pointer none);pure (.bool (!z))) from rfl]
          simp only [Sem.run_bind,zh h2,Result.andThen_ok,Sem.run_pure]
          rfl
        · cases h1
  | nilCheck x =>
    simp only [bn] at h
    split at h
    · rename_i i off hx
      obtain rfl:=Option.some.inj h
      have hv:=hr.ev hx
      generalize hw:a.eval x = v at hv
      cases hv with
      | ptr _ _ hlt=>exact ⟨_,fun w hsame=>by simp [execOp,hw],.ptr _ _ hlt⟩
    · rename_i cs hx
      obtain rfl:=Option.some.inj h
      have hv:=hr.ev hx
      generalize hw:a.eval x = v at hv
      cases hv with
      | eptr bb off _ vs h1 h2=>exact ⟨_,fun w hsame=>by simp [execOp,hw],.eptr bb off _ vs h1 h2⟩
    · rename_i f l hx
      obtain rfl:=Option.some.inj h
      have hv:=hr.ev hx
      generalize hw:a.eval x = v at hv
      cases hv with
      | fn _ _ vs h1=>exact ⟨_,fun w hsame=>by simp [execOp,hw],.fn f l vs h1⟩
    · cases h
  | load t x =>
    simp only [bn] at h
    split at h
    · rename_i id off ag sz z hx ht
      split at h
      · rename_i cs tt hb
        have hv:=hr.ev hx
        generalize hw:a.eval x = v at hv
        obtain ⟨vs,h1,h2⟩:=jcf hg hb
        cases hv with
        | ptr _ _ hlt =>
          obtain ⟨u,hu,hub⟩:=v7 (x:=y) ht h h1 (y.pb id) 0
          refine ⟨u,fun w hsame=>?_,hub⟩
          have hn:id ∉ Wr:=by
            simp only [wl,hx] at hk
            simpa using hk
          have hu:=hu w (fun j u hu=>by rw [Nat.zero_add];exact h2 Wr w hsame hn j u hu)
          rw [Nat.zero_add] at hu
          simp [execOp,hw,hu]
      · cases h
    · rename_i cs ag sz z hx ht
      have hv:=hr.ev hx
      generalize hw:a.eval x = v at hv
      cases hv with
      | eptr bb off _ vs h1 h2 =>
        obtain ⟨u,hu,hub⟩:=v7 (x:=y) ht h (RepBs.ofD h2) bb off
        refine ⟨u,fun w hsame=>?_,hub⟩
        have hu:=hu w (fun j u hu=>hsame.row _ _ _ (h1 j u hu).1 (h1 j u hu).2)
        rw [Nat.add_zero] at hu
        simp [execOp,hw,hu]
    · cases h
  | fieldAddr s x f =>
    simp only [bn] at h
    split at h
    case h_2=>cases h
    rename_i pl l h0
    split at h
    case h_2=>cases h
    rename_i o sz h2
    split at h
    case isTrue=>cases h
    rename_i h4
    obtain ⟨it,fs,z,_,h1,_,g1,_,_⟩:=jcd h0
    obtain ⟨fd,i,g2,h3,rfl,rfl⟩:=zi g1 h2
    have h2:fs[f]? = some fd:=by rw [← Array.getElem?_toList];exact g2
    split at h
    · rename_i id off hx
      obtain rfl:=Option.some.inj h
      have hv:=hr.ev hx
      generalize hw:a.eval x = v at hv
      cases hv with
      | ptr _ _ hlt=>exact ⟨_,fun w hsame=>by simp [execOp,hw,wj h1 h2 h3 h4],.ptr _ _ hlt⟩
    · rename_i cs hx
      obtain rfl:=Option.some.inj h
      have hv:=hr.ev hx
      generalize hw:a.eval x = v at hv
      cases hv with
      | eptr bb off _ vs h5 h6 =>
        refine ⟨_,fun w hsame=>by simp [execOp,hw,wj h1 h2 h3 h4],.eptr bb (off + fd.offset) _ (vs.drop fd.offset) (fun i u hu=>?_) (h6.drop _)⟩
        rw [List.getElem?_drop] at hu
        rw [Nat.add_assoc]
        exact h5 _ _ hu
    · cases h
  | indexAddr t x i =>
    simp only [bn] at h
    split at h
    case h_2=>cases h
    rename_i e sz cs n k j h0 h2 h3
    split at h
    case isFalse=>cases h
    rename_i h5
    obtain ⟨h1,ti,h4,rfl⟩:=jk h0
    obtain rfl:=Option.some.inj h
    obtain ⟨bx,hx,hrow⟩:=Option.bind_eq_some_iff.1 h2
    have hv:=po hrow (hr.ev hx)
    generalize hw:a.eval x = v at hv
    have hi:=mq hr h3
    cases hv with
    | nil=>omega
    | emp=>omega
    | sl bb off _ cap _ vs h6 h7 h0' h8 h9 =>
      refine ⟨.pointer (some ⟨bb,off + j.toNat * ti.size,none⟩),fun w hsame=>?_,.eptr bb _ _ ((vs.drop (j.toNat * ti.size)).take ti.size) (fun q u hu=>?_) ((h9.drop _).take _)⟩
      · simp [execOp,hw,hi,Instr.indexAt,asIntOf,fo h1,gp h4,h5,u7]
      · rw [List.getElem?_take] at hu
        split at hu
        · rw [List.getElem?_drop] at hu
          rw [Nat.add_assoc]
          exact h8 _ _ hu
        · cases hu
  | slice t x lo hi mx =>
    simp only [bn] at h
    split at h
    · rename_i s hx
      split at h
      · rename_i l hh m h1 h2 h3
        obtain ⟨v,hv,hb⟩:=sb (x:=y) h
        exact ⟨v,fun w hsame=>by simp [execOp,j7 (hr.ev hx),jd4 hr h1,jd4 hr h2,jd4 hr h3,hv],hb⟩
      · cases h
    · rename_i bx _ hx
      split at h
      case h_3=>cases h
      case h_1 =>
        rename_i cs n e sz mo h1 h2 h3
        split at h
        case h_2=>cases h
        rename_i hh m h4 h5
        split at h
        case isFalse=>cases h
        rename_i hc
        obtain ⟨rfl,c2,c3,c4⟩:=hc
        obtain rfl:=Option.some.inj h
        obtain ⟨g1,ti,g2,rfl⟩:=jk h2
        obtain rfl:lo = none:=by simpa using c3
        obtain ⟨hio,rfl⟩:=Option.isSome_iff_exists.1 c4
        obtain ⟨base,hv,hb⟩:=jkv (P:=P) g1 g2 (po h1 (hr.ev hx)) (jah hr h4) (jah hr h5) (by simp) (by simp) c2
        exact ⟨_,fun w hsame=>by simp [execOp] at hv ⊢;simp [hv],hb⟩
      rename_i cs n e sz l h1 h2 h3
      split at h
      case h_2=>cases h
      rename_i hh h4
      split at h
      case isFalse=>cases h
      rename_i hc
      obtain ⟨c1,c2⟩:=hc
      obtain rfl:=Option.some.inj h
      obtain ⟨g1,ti,g2,rfl⟩:=jk h2
      obtain ⟨v,hv,hb⟩:=jno (P:=P) g1 g2 (po h1 (hr.ev hx)) (jah hr h3) (jah hr h4) c1 c2
      exact ⟨v,fun w hsame=>by simp [execOp,hv],.d _ _ hb⟩
    · cases h
  | field t x f =>
    simp only [bn] at h
    split at h
    · rename_i l u off hx hf
      split at h
      · rename_i ag sz z ht
        obtain ⟨fs,fd,g1,g2,rfl,rfl⟩:=jh9 hf
        obtain ⟨d,i,zz,h1,h2,_,h4,h5,_,_⟩:=gg ht
        subst h4 h5
        have hv:=hr.ev hx
        generalize hw:a.eval x = v at hv
        cases hv with
        | agg _ vs hvs =>
          have hl:=hvs.length
          unfold part at h
          split at h
          case isFalse=>cases h
          rename_i hle
          have hr2:=(hvs.drop fd.offset).take i.size
          split at h
          · rename_i hag
            obtain rfl:=Option.some.inj h
            refine ⟨_,fun w hsame=>?_,.agg _ _ hr2⟩
            simp [execOp,hw,Instr.field,fo g1,g2,asAgg,Go.part,wi h1,hag,gp h2]
          · rename_i hag
            split at h
            · rename_i b' e
              obtain rfl:=Option.some.inj h
              rw [e] at hr2
              generalize hvs':(vs.drop fd.offset).take i.size = us at hr2
              cases hr2 with
              | cons _ v _ vs' h6 h7 =>
                cases h7
                refine ⟨v,fun w hsame=>?_,h6⟩
                have hv0:vs[fd.offset]? = some v:=by
                  have:=congrArg (·[0]?) hvs'
                  simp only [List.getElem?_take,List.getElem?_drop,Nat.add_zero,List.getElem?_cons_zero] at this
                  split at this
                  · exact this
                  · cases this
                simp [execOp,hw,Instr.field,fo g1,g2,asAgg,Go.part,wi h1,hag,hv0]
            · cases h
      · cases h
    · cases h
  | extract x i =>
    simp only [bn] at h
    split at h
    · rename_i l hx
      have hv:=hr.ev hx
      generalize hw:a.eval x = v at hv
      cases hv with
      | tup _ vs h1 =>
        obtain ⟨u,hu,hub⟩:=h1.get h
        exact ⟨u,fun w hsame=>by simp [execOp,hw,Instr.extract,hu],hub⟩
    · cases h
  | build t ps =>
    simp only [bn] at h
    split at h
    · rename_i pl z h0
      obtain ⟨cs,hc,rfl⟩:=Option.map_eq_some_iff.1 h
      obtain ⟨it,fs,zz,g1,g2,g3,g4,g5,g6⟩:=jcd h0
      obtain ⟨vs,k1,k2⟩:=jag hr (pl[·]?) ps.toList (gi (x:=y) g6) hc
      have hb:P.built t (ps.map fun (i,x)=>(i,a.eval x)).toList = some vs.toArray:=by
        unfold Program.built
        simp only [g1,g2,g3,g4]
        rw [Array.toList_map]
        simpa using k1
      exact ⟨.agg vs.toArray,fun w hsame=>by simp only [execOp,Sem.run_bind,run_build w t _ _ hb,Result.andThen_ok,Sem.run_pure],.agg _ _ k2⟩
    · cases h
  | call c =>
    obtain ⟨callee,args,ats⟩:=c
    simp only [bn] at h
    split at h
    · rename_i x hx
      obtain rfl:args = #[x]:=by cases args;simpa using hx
      split at h
      · rename_i v hv
        obtain ⟨u,hu,hb⟩:=sb (x:=y) h
        refine ⟨u,fun w hsame=>?_,hb⟩
        have hu':(Builtin.len_ ats type #[v]).run P w = .ok u w:=hu w
        simp [execOp,resolve,invoke,builtin,j7 (hr.ev hv),hu']
      · rename_i b _ hv
        split at h
        · rename_i cs n es t0 h1 h2 h3
          obtain rfl:=Option.some.inj h
          obtain ⟨e,sz⟩:=es
          obtain ⟨g1,_⟩:=jk h2
          have ht:ats.getD 0 0 = t0:=by rw [Array.getD_eq_getD_getElem?,h3];rfl
          rw [ht] at g1
          have hw:=po h1 (hr.ev hv)
          generalize hq:a.eval x = v at hw
          refine ⟨.int .i64 n,fun w hsame=>?_,.d _ _ (.flat _ rfl)⟩
          have hrun:(Builtin.len_ ats type #[v]).run P w = .ok (.int .i64 n) w:=by
            cases hw with
            | nil=>simp [Builtin.len_,h3,fo g1,goInt]
            | emp a cap hm=>simp [Builtin.len_,h3,fo g1,goInt]
            | sl bb off _ cap _ vs h6 h7 h0' h8 h9=>simp [Builtin.len_,h3,fo g1,goInt]
          simp [execOp,resolve,invoke,builtin,hq,hrun]
        · cases h
      · cases h
    · rename_i p q hx
      obtain rfl:args = #[p,q]:=by cases args;simpa using hx
      split at h
      · rename_i u v hu hv
        obtain ⟨r,hr1,hb⟩:=sb (x:=y) h
        refine ⟨r,fun w hsame=>?_,hb⟩
        have hr2:(Builtin.min_ ats type #[u,v]).run P w = .ok r w:=hr1 w
        simp [execOp,resolve,invoke,builtin,mq hr hu,mq hr hv,hr2]
      · cases h
    · rename_i p q hx
      obtain rfl:args = #[p,q]:=by cases args;simpa using hx
      split at h
      · rename_i u v hu hv
        obtain ⟨r,hr1,hb⟩:=sb (x:=y) h
        refine ⟨r,fun w hsame=>?_,hb⟩
        have hr2:(Builtin.max_ ats type #[u,v]).run P w = .ok r w:=hr1 w
        simp [execOp,resolve,invoke,builtin,mq hr hu,mq hr hv,hr2]
      · cases h
    · cases h
  | makeInterface t x =>
    simp only [bn] at h
    split at h
    · cases h
    · rename_i d hn hu
      obtain ⟨dd,hd,rfl⟩:=Option.map_eq_some_iff.1 h
      obtain ⟨bx,hx,hdd⟩:=Option.bind_eq_some_iff.1 hd
      have hv:=jd5 hdd (hr.ev hx)
      refine ⟨.iface t (a.eval x),fun w hsame=>?_,.d _ _ (.iface t dd _ hv)⟩
      simp only [execOp,Instr.makeInterface,Sem.run_bind,fo hu,Result.andThen_ok]
      cases d <;> first|exact absurd rfl (hn _)|simp
    · cases h
  | makeFunc f first caps =>
    cases f with
    | func f =>
      simp only [bn] at h
      split at h
      · rename_i he
        subst he
        obtain ⟨bs,hbs,rfl⟩:=Option.map_eq_some_iff.1 h
        have hv:=jae hr hbs
        refine ⟨.func (.func f) #[] (caps.toList.map a.eval).toArray,fun w hsame=>?_,.fn f bs _ hv⟩
        cases caps
        simp [execOp,Instr.makeFunc]
      · cases h
    | _=>simp [bn] at h
  | typeAssert x xt t ok =>
    simp only [bn] at h
    split at h
    case h_1=>cases h
    case h_3=>cases h
    rename_i d hn hu
    split at h
    · rename_i u dd ag sz z hx ht
      obtain ⟨d',i,zz,g1,g2,g3,g4,g5,g6,g7⟩:=gg ht
      have hv:=hr.ev hx
      generalize hw:a.eval x = v at hv
      cases hv with
      | d _ _ hv =>
        cases hv with
        | iface _ _ v hv =>
          split at h
          · rename_i hut
            subst hut
            have hrun:∀(w:World) r,(if ok = true then (.tuple #[v,.bool true]:Value) else v) = r →(Instr.typeAssert (.iface u v) xt u ok).run P w = .ok r w:=fun w r hr=>by
              subst hr
              simp only [Instr.typeAssert,Sem.run_bind,fo hu,Result.andThen_ok]
              cases d <;> first|exact absurd rfl (hn _)|simp
            obtain rfl:=Option.some.inj h
            refine ⟨if ok = true then (.tuple #[v,.bool true]:Value) else v,fun w hsame=>by simp only [execOp,hw,Sem.run_bind,hrun w _ rfl,Result.andThen_ok,Sem.run_pure],?_⟩
            split
            · exact .tup [ofD dd,.d (.flat (.bool true))] [v,.bool true] (.cons _ _ _ _ (jd6 hv) (.cons _ _ _ _ (.d _ _ (.flat _ rfl)) .nil))
            · exact jd6 hv
          · rename_i hut
            split at h
            case isFalse=>cases h
            rename_i hok
            split at h
            case isFalse=>cases h
            rename_i hag
            obtain rfl:=Option.some.inj h
            refine ⟨.tuple #[zz,.bool false],fun w hsame=>?_,.tup [.agg z,.d (.flat (.bool false))] [zz,.bool false] (.cons _ _ _ _ (jfo g6 (g7.trans hag)) (.cons _ _ _ _ (.d _ _ (.flat _ rfl)) .nil))⟩
            have hrun:(Instr.typeAssert (.iface u v) xt t ok).run P w = .ok (.tuple #[zz,.bool false]) w:=by
              simp only [Instr.typeAssert,Sem.run_bind,fo hu,Result.andThen_ok]
              cases d <;> first|exact absurd rfl (hn _)|simp [hut,hok,qu g2 g3]
            simp only [execOp,hw,Sem.run_bind,hrun,Result.andThen_ok,Sem.run_pure]
    · rename_i ag sz z hx ht
      obtain ⟨d',i,zz,g1,g2,g3,g4,g5,g6,g7⟩:=gg ht
      have hw:=j7 (hr.ev hx)
      split at h
      case isFalse=>cases h
      rename_i hok
      split at h
      case isFalse=>cases h
      rename_i hag
      obtain rfl:=Option.some.inj h
      refine ⟨.tuple #[zz,.bool false],fun w hsame=>?_,.tup [.agg z,.d (.flat (.bool false))] [zz,.bool false] (.cons _ _ _ _ (jfo g6 (g7.trans hag)) (.cons _ _ _ _ (.d _ _ (.flat _ rfl)) .nil))⟩
      have hrun:(Instr.typeAssert .nilIface xt t ok).run P w = .ok (.tuple #[zz,.bool false]) w:=by
        simp only [Instr.typeAssert,Sem.run_bind,fo hu,Result.andThen_ok]
        cases d <;> first|exact absurd rfl (hn _)|simp [hok,qu g2 g3]
      simp only [execOp,hw,Sem.run_bind,hrun,Result.andThen_ok,Sem.run_pure]
    · cases h
  | _=>simp [bn] at h
end Go.Proofs.YtinffhimfoicdaaGreat.Calc
namespace Go.Proofs.YtinffhimfoicdaaGreat.Calc
open Go Go.RowKit
set_option linter.unusedVariables false
theorem kz {w w':World} {b:Nat} (h:w'.heap[b]? = w.heap[b]?) (i:Nat):w'.cell? ⟨b,i,none⟩ = w.cell? ⟨b,i,none⟩:=by
  simp [World.cell?,h]
theorem jnp {w:World} {b i:Nat} {u:Value} (h:w.cell? ⟨b,i,none⟩ = some u):b < w.heap.size:=by
  by_cases hb:b < w.heap.size
  · exact hb
  · simp [World.cell?,Array.getElem?_eq_none (Nat.le_of_not_lt hb)] at h
theorem Good.box_lt {x:Full} (h:Good x) {i:Nat} (hi:i < x.st.S.length):x.pb i < x.w.heap.size:=by
  obtain ⟨vs,h1,_⟩:=h.box i _ _ (List.getElem?_eq_getElem hi)
  exact (Array.getElem?_eq_some_iff.1 h1).1
theorem Good.map_lt {x:Full} (h:Good x) {i:Nat} (hi:i < x.st.M.length):x.pm i < x.w.heap.size:=by
  exact (h.map i _ (List.getElem?_eq_getElem hi)).lt
theorem Good.tag_lt {x:Full} (h:Good x) {t b:Nat} (ht:t < x.st.T.length) (hb:x.pt t = some b):b < x.w.heap.size:=(h.tag t _ b (List.getElem?_eq_getElem ht) hb).1
theorem Good.map_ne {x:Full} (h:Good x) {i j:Nat} (hi:i < x.st.M.length) (hj:j < x.st.S.length):x.pm i ≠ x.pb j:=fun e=>(h.mp i hi).2 j hj e.symm
structure Grown (w w':World) (o:Obj):Prop where
  os:w'.os = w.os
  tape:w'.tape = w.tape
  output:w'.output = w.output
  heap:w'.heap = w.heap.push o
theorem Grown.old {w w':World} {o:Obj} (h:Grown w w' o) {b:Nat} (hb:b < w.heap.size):w'.heap[b]? = w.heap[b]?:=by
  rw [h.heap,Array.getElem?_push,if_neg (by omega)]
theorem Grown.new {w w':World} {o:Obj} (h:Grown w w' o):w'.heap[w.heap.size]? = some o:=by
  rw [h.heap,Array.getElem?_push,if_pos rfl]
theorem Grown.size {w w':World} {o:Obj} (h:Grown w w' o):w.heap.size ≤ w'.heap.size:=by rw [h.heap];simp
theorem Grown.keep {w w':World} {o:Obj} (h:Grown w w' o) {F:Nat → Nat} (k:Nat):jfm F w (fun b=>if b = w.heap.size then k else F b) w':=fun b i u hi hc=>by
  have hb:=jnp hc
  exact ⟨by simp only [if_neg (Nat.ne_of_lt hb)];exact hi,(kz (h.old hb) i).trans hc⟩
def j9 (x:Full) (w':World) (cs:List BV) (t:Nat):Full :=
  ⟨⟨x.st.S ++ [(cs,t)],x.st.T,x.st.M⟩,fun i=>if i = x.st.S.length then x.w.heap.size else x.pb i,x.pt,x.pm,fun b=>if b = x.w.heap.size then 0 else x.F b,w'⟩
theorem jai {x:Full} {w':World} {cs:List BV} {t:Nat} {o:Obj} (hg:Good x) (h:Grown x.w w' o):Step [] [] x (j9 x w' cs t) where
  os:=h.os
  tape:=h.tape
  output:=h.output
  size:=h.size
  frame:=fun b hb _ _ _=>h.old hb
  keep:=h.keep 0
  slen:=by simp [j9]
  ids:=fun i hi=>if_neg (Nat.ne_of_lt hi)
  fresh:=fun i h1 h2=>by
    simp only [j9,List.length_append,List.length_singleton] at h2 ⊢
    rw [if_pos (by omega)]
    exact Nat.le_refl _
  mlen:=Nat.le_refl _
  mids:=fun _ _=>rfl
  mfresh:=fun i h1 h2=>by simp only [j9] at h2;omega
  tags:=fun u k hu=>⟨k,hu,Nat.le_refl _,fun _=>⟨rfl,fun b hb=>⟨h.old (hg.tag u k b hu hb).1,if_neg (Nat.ne_of_lt (hg.tag u k b hu hb).1)⟩⟩,.inl rfl⟩
  tfresh:=fun u b h1 h2=>by simp only [j9] at h2;omega
  fro:=fun b hb _=>if_neg (Nat.ne_of_lt hb)
theorem jfs {x:Full} {w':World} {cs:List BV} {vs:List Value} {t:Nat} (hg:Good x) (h:Grown x.w w' (.cells vs.toArray t (0,0))) (hr:RepBs x cs vs):Good (j9 x w' cs t):=by
  have hs:=jai (cs:=cs) (t:=t) hg h
  constructor
  · intro id cs' t' hid
    simp only [j9,List.getElem?_append] at hid
    split at hid
    · rename_i hlt
      obtain ⟨us,h1,h2,h3⟩:=hg.box id cs' t' hid
      have hb:=hg.box_lt hlt
      refine ⟨us,?_,h2.mono hs,?_⟩
      · simp only [j9,if_neg (Nat.ne_of_lt hlt)]
        exact (h.old hb).trans h1
      · simp only [j9,if_neg (Nat.ne_of_lt hlt),if_neg (Nat.ne_of_lt hb)]
        exact h3
    · rename_i hlt
      have hid0:id = x.st.S.length:=by
        have:=(List.getElem?_eq_some_iff.1 hid).1
        simp at this
        omega
      subst hid0
      simp only [Nat.sub_self,List.getElem?_cons_zero,Option.some.injEq,Prod.mk.injEq] at hid
      obtain ⟨rfl,rfl⟩:=hid
      refine ⟨vs,?_,hr.mono hs,?_⟩
      · simp only [j9,if_pos]
        exact h.new
      · simp [j9]
  · intro i j hi hj e
    simp only [j9,List.length_append,List.length_singleton] at hi hj e
    split at e <;> split at e
    · omega
    · have:=hg.box_lt (show j < x.st.S.length by omega)
      omega
    · have:=hg.box_lt (show i < x.st.S.length by omega)
      omega
    · exact hg.inj i j (by omega) (by omega) e
  · intro u k b hu hb
    obtain ⟨h1,h2,h3,h4⟩:=hg.tag u k b hu hb
    refine ⟨Nat.lt_of_lt_of_le h1 h.size,?_,fun i hi=>?_,h4⟩
    · simp only [j9,if_neg (Nat.ne_of_lt h1)]
      exact h2
    · simp only [j9,List.length_append,List.length_singleton] at hi ⊢
      split
      · omega
      · exact h3 i (by omega)
  · intro id es hid
    exact (hg.map id es hid).le (h.old (hg.map id es hid).lt) hs.le
  · exact hg.mapinj
  · exact hg.tmap
  · intro i hi
    obtain ⟨h1,h2⟩:=hg.mp i hi
    have hl:=hg.map_lt hi
    refine ⟨by simp only [j9,if_neg (Nat.ne_of_lt hl)];exact h1,fun j hj=>?_⟩
    simp only [j9,List.length_append,List.length_singleton] at hj ⊢
    split
    · exact fun e=>absurd (e ▸ hl) (Nat.lt_irrefl _)
    · exact h2 j (by omega)
def ko (x:Full) (w':World) (k:Nat):Full :=
  ⟨⟨x.st.S,x.st.T ++ [k],x.st.M⟩,x.pb,fun t=>if t = x.st.T.length then some x.w.heap.size else x.pt t,x.pm,fun b=>if b = x.w.heap.size then k else x.F b,w'⟩
theorem mr {x:Full} {w':World} {k:Nat} {o:Obj} (hg:Good x) (h:Grown x.w w' o):Step [] [] x (ko x w' k) where
  os:=h.os
  tape:=h.tape
  output:=h.output
  size:=h.size
  frame:=fun b hb _ _ _=>h.old hb
  keep:=h.keep k
  slen:=Nat.le_refl _
  ids:=fun i hi=>rfl
  fresh:=fun i h1 h2=>by simp only [ko] at h2;omega
  mlen:=Nat.le_refl _
  mids:=fun _ _=>rfl
  mfresh:=fun i h1 h2=>by simp only [ko] at h2;omega
  tags:=fun u n hu=>by
    have hlt:=(List.getElem?_eq_some_iff.1 hu).1
    refine ⟨n,?_,Nat.le_refl _,fun _=>⟨?_,fun b hb=>⟨h.old (hg.tag u n b hu hb).1,if_neg (Nat.ne_of_lt (hg.tag u n b hu hb).1)⟩⟩,.inl ?_⟩
    · simp only [ko];rw [List.getElem?_append_left hlt];exact hu
    · simp only [ko,if_neg (Nat.ne_of_lt hlt)]
    · simp only [ko,if_neg (Nat.ne_of_lt hlt)]
  tfresh:=fun u b h1 h2 hb=>by
    simp only [ko,List.length_append,List.length_singleton] at h2 hb
    rw [if_pos (by omega)] at hb
    injection hb with hb
    omega
  fro:=fun b hb _=>if_neg (Nat.ne_of_lt hb)
theorem sc {x:Full} {w':World} {cur:Array Value} {e k:Nat} (hg:Good x) (h:Grown x.w w' (.cells cur e (0,0))):Good (ko x w' k):=by
  have hs:=mr (k:=k) hg h
  constructor
  · intro id cs' t' hid
    obtain ⟨us,h1,h2,h3⟩:=hg.box id cs' t' hid
    have hb:=(Array.getElem?_eq_some_iff.1 h1).1
    refine ⟨us,(h.old hb).trans h1,h2.mono hs,?_⟩
    simp only [ko,if_neg (Nat.ne_of_lt hb)]
    exact h3
  · exact hg.inj
  · intro u n b hu hb
    simp only [ko,List.getElem?_append] at hu hb ⊢
    split at hu
    · rename_i hlt
      rw [if_neg (Nat.ne_of_lt hlt)] at hb
      obtain ⟨h1,h2,h3,h4⟩:=hg.tag u n b hu hb
      refine ⟨Nat.lt_of_lt_of_le h1 h.size,?_,h3,fun v hv he=>?_⟩
      · rw [if_neg (Nat.ne_of_lt h1)]
        exact h2
      · simp only [List.length_append,List.length_singleton] at hv
        split at he
        · injection he with he
          omega
        · exact h4 v (by omega) he
    · rename_i hlt
      have hu0:u = x.st.T.length:=by
        have:=(List.getElem?_eq_some_iff.1 hu).1
        simp at this
        omega
      subst hu0
      simp only [Nat.sub_self,List.getElem?_cons_zero,Option.some.injEq] at hu
      subst hu
      rw [if_pos rfl] at hb
      injection hb with hb
      subst hb
      refine ⟨?_,by simp,fun i hi=>Nat.ne_of_lt (hg.box_lt hi),fun v hv he=>?_⟩
      · rw [h.heap];simp
      · simp only [List.length_append,List.length_singleton] at hv
        split at he
        · assumption
        · have:=hg.tag_lt (show v < x.st.T.length by omega) he
          omega
  · intro id es hid
    exact (hg.map id es hid).le (h.old (hg.map id es hid).lt) hs.le
  · exact hg.mapinj
  · intro u b i hu hb hi
    simp only [ko,List.length_append,List.length_singleton] at hu hb
    split at hb
    · injection hb with hb
      have:=hg.map_lt (show i < x.st.M.length from hi)
      simp only [ko]
      omega
    · exact hg.tmap u b i (by omega) hb hi
  · intro i hi
    exact ⟨by simp only [ko,if_neg (Nat.ne_of_lt (hg.map_lt hi))];exact (hg.mp i hi).1,(hg.mp i hi).2⟩
theorem sd {w:World} {b e:Nat} {cur:Array Value} {fr:Nat × Nat} (h:w.heap[b]? = some (.cells cur e fr)) {k:Nat} {vs:List Value} (hv:cur.toList.take k = vs) {i:Nat} {u:Value} (hu:vs[i]? = some u):w.cell? ⟨b,i,none⟩ = some u:=by
  rw [← hv,List.getElem?_take] at hu
  split at hu
  · simp only [World.cell?,h]
    simpa using hu
  · cases hu
theorem wm {x:Full} {w':World} {cur:Array Value} {e sz n cap:Nat} {ds:List DV} {vs:List Value} (hg:Good x) (h:Grown x.w w' (.cells cur e (0,0))) (h1:ds.all jb3 = true) (hr:RepDs x ds vs) (hv:cur.toList.take (n * sz) = vs) (hl:vs.length = n * sz) (hn:n ≤ cap) (hc:cap ≤ maxLen) (hs:cur.size = cap * sz) :
    RepB (ko x w' ds.length) (.own e sz x.st.T.length ds n) (.slice (some ⟨x.w.heap.size,0,none⟩) n cap):=by
  have hr':=hr.mono (mr (k:=ds.length) hg h).le
  refine .own e sz _ ds n ds.length _ (.sl _ 0 _ _ _ vs hn (by omega) h1 (fun i u hu=>?_) hr') ?_ (Nat.le_refl _) (fun _=>.inl ⟨?_,vs,⟨hl,.inr ⟨_,cap,cur,rfl,Nat.zero_le _,h.new,hn,hc,hs,hv⟩⟩,hr'⟩)
  · have hi:=(List.getElem?_eq_some_iff.1 hu).1
    rw [← hr.length] at hi
    refine ⟨by simp only [ko,if_pos];omega,?_⟩
    rw [Nat.zero_add]
    exact sd (w:=w') h.new hv hu
  · simp [ko]
  · simp [ko,Value.ownBlock]
structure Turned (w w':World) (g:Nat) (cur:Array Value) (e:Nat):Prop where
  os:w'.os = w.os
  tape:w'.tape = w.tape
  output:w'.output = w.output
  size:w'.heap.size = w.heap.size
  old:∀ b,b ≠ g → w'.heap[b]? = w.heap[b]?
  new:w'.heap[g]? = some (.cells cur e (0,0))
theorem kq {w:World} {g e:Nat} {old cur:Array Value} (h:w.heap[g]? = some (.cells old e (0,0))):Turned w (w.setRow g cur) g cur e where
  os:=rfl
  tape:=rfl
  output:=rfl
  size:=setRow_size w g cur
  old:=fun b hb=>setRow_other w g b cur hb
  new:=setRow_heap w g old cur e (0,0) h
def vq (x:Full) (w':World) (id:Nat) (cs:List BV) (t:Nat):Full :=
  ⟨⟨x.st.S.set id (cs,t),x.st.T,x.st.M⟩,x.pb,x.pt,x.pm,x.F,w'⟩
theorem zj {x:Full} {w':World} {id:Nat} {cs:List BV} {t:Nat} {cur:Array Value} (hg:Good x) (hid:id < x.st.S.length) (h:Turned x.w w' (x.pb id) cur t):Step [id] [] x (vq x w' id cs t) where
  os:=h.os
  tape:=h.tape
  output:=h.output
  size:=Nat.le_of_eq h.size.symm
  frame:=fun b _ h1 _ _=>h.old b (fun e=>h1 id (by simp) hid e.symm)
  keep:=fun b i u hi hc=>by
    refine ⟨hi,(kz (h.old b (fun e=>?_)) i).trans hc⟩
    subst e
    obtain ⟨_,_,_,h3⟩:=hg.box id _ _ (List.getElem?_eq_getElem hid)
    omega
  slen:=by simp [vq]
  ids:=fun _ _=>rfl
  fresh:=fun i h1 h2=>by simp only [vq,List.length_set] at h2;omega
  mlen:=Nat.le_refl _
  mids:=fun _ _=>rfl
  mfresh:=fun i h1 h2=>by simp only [vq] at h2;omega
  tags:=fun u k hu=>⟨k,hu,Nat.le_refl _,fun _=>⟨rfl,fun b hb=>⟨h.old b (fun e=>(hg.tag u k b hu hb).2.2.1 id hid e.symm),rfl⟩⟩,.inl rfl⟩
  tfresh:=fun u b h1 h2=>by simp only [vq] at h2;omega
  fro:=fun _ _ _=>rfl
theorem jhe {x:Full} {w':World} {id:Nat} {cs:List BV} {vs:List Value} {t:Nat} (hg:Good x) (hid:id < x.st.S.length) (h:Turned x.w w' (x.pb id) vs.toArray t) (hr:RepBs x cs vs):Good (vq x w' id cs t):=by
  have hs:=zj (cs:=cs) hg hid h
  constructor
  · intro i cs' t' hi
    simp only [vq,List.getElem?_set] at hi
    split at hi
    · rename_i e
      subst e
      obtain ⟨_,_,_,h3⟩:=hg.box id _ _ (List.getElem?_eq_getElem hid)
      simp only [Option.some.injEq,Prod.mk.injEq] at hi
      obtain ⟨rfl,rfl⟩:=hi
      exact ⟨vs,h.new,hr.mono hs,h3⟩
    · rename_i e
      obtain ⟨us,h1,h2,h3⟩:=hg.box i cs' t' hi
      have hi':=(List.getElem?_eq_some_iff.1 hi).1
      exact ⟨us,(h.old _ (fun he=>e (hg.inj i id hi' hid he).symm)).trans h1,h2.mono hs,h3⟩
  · intro i j hi hj e
    simp only [vq,List.length_set] at hi hj e
    exact hg.inj i j hi hj e
  · intro u k b hu hb
    obtain ⟨h1,h2,h3,h4⟩:=hg.tag u k b hu hb
    refine ⟨by simp only [vq];rw [h.size];exact h1,h2,fun i hi=>?_,h4⟩
    simp only [vq,List.length_set] at hi
    exact h3 i hi
  · intro i es hi
    exact (hg.map i es hi).le (h.old _ (hg.map_ne (List.getElem?_eq_some_iff.1 hi).1 hid)) hs.le
  · exact hg.mapinj
  · exact hg.tmap
  · intro i hi
    exact ⟨(hg.mp i hi).1,fun j hj=>(hg.mp i hi).2 j (by simpa [vq] using hj)⟩
def jx (x:Full) (w':World) (t g k:Nat):Full :=
  ⟨⟨x.st.S,x.st.T.set t k,x.st.M⟩,x.pb,x.pt,x.pm,fun b=>if b = g then k else x.F b,w'⟩
theorem wn {x:Full} {w':World} {t g k n e:Nat} {cur:Array Value} (hg:Good x) (ht:x.st.T[t]? = some n) (hp:x.pt t = some g) (hn:n < k) (h:Turned x.w w' g cur e)
    (hc:∀ i u,i < n → x.w.cell? ⟨g,i,none⟩ = some u → cur[i]? = some u):Step [] [] x (jx x w' t g k) where
  os:=h.os
  tape:=h.tape
  output:=h.output
  size:=Nat.le_of_eq h.size.symm
  frame:=fun b _ _ _ h3=>h.old b (fun e=>h3 t (List.getElem?_eq_some_iff.1 ht).1 (e ▸ hp))
  keep:=fun b i u hi hcc=>by
    by_cases hb:b = g
    · subst hb
      have:=(hg.tag t n b ht hp).2.1
      refine ⟨by simp only [jx,if_pos];omega,?_⟩
      simp only [jx,World.cell?,h.new]
      exact hc i u (by omega) hcc
    · exact ⟨by simp only [jx,if_neg hb];exact hi,(kz (h.old b hb) i).trans hcc⟩
  slen:=Nat.le_refl _
  ids:=fun _ _=>rfl
  fresh:=fun i h1 h2=>by simp only [jx] at h2;omega
  mlen:=Nat.le_refl _
  mids:=fun _ _=>rfl
  mfresh:=fun i h1 h2=>by simp only [jx] at h2;omega
  tags:=fun u m hu=>by
    have hu':=(List.getElem?_eq_some_iff.1 hu).1
    by_cases hut:u = t
    · subst hut
      have:m = n:=Option.some.inj (hu.symm.trans ht)
      subst this
      exact ⟨k,by simp [jx,hu'],Nat.le_of_lt hn,fun e=>by omega,.inl rfl⟩
    · exact ⟨m,by simp only [jx];rw [List.getElem?_set_ne (fun e=>hut e.symm)];exact hu,Nat.le_refl _,fun _=>⟨rfl,fun b hb=>⟨h.old b (fun e=>hut (((hg.tag t n g ht hp).2.2.2 u hu' (e ▸ hb)))),if_neg (fun (e:b = g)=>hut (((hg.tag t n g ht hp).2.2.2 u hu' (e ▸ hb))))⟩⟩,.inl rfl⟩
  tfresh:=fun u b h1 h2=>by simp only [jx,List.length_set] at h2;omega
  fro:=fun b _ h3=>if_neg (fun (e:b = g)=>h3 t (List.getElem?_eq_some_iff.1 ht).1 (e ▸ hp))
theorem jd7 {x:Full} {w':World} {t g k n e:Nat} {cur old:Array Value} (hg:Good x) (ho:x.w.heap[g]? = some (.cells old e (0,0))) (ht:x.st.T[t]? = some n) (hp:x.pt t = some g) (hn:n < k) (h:Turned x.w w' g cur e)
    (hc:∀ i u,i < n → x.w.cell? ⟨g,i,none⟩ = some u → cur[i]? = some u):Good (jx x w' t g k):=by
  have hs:=wn hg ht hp hn h hc
  have ht':=(List.getElem?_eq_some_iff.1 ht).1
  obtain ⟨g1,g2,g3,g4⟩:=hg.tag t n g ht hp
  constructor
  · intro i cs' t' hi
    obtain ⟨us,h1,h2,h3⟩:=hg.box i cs' t' hi
    have hne:=g3 i (List.getElem?_eq_some_iff.1 hi).1
    refine ⟨us,(h.old _ hne).trans h1,h2.mono hs,?_⟩
    simp only [jx,if_neg hne]
    exact h3
  · exact hg.inj
  · intro u m b hu hb
    simp only [jx,List.length_set] at hu hb ⊢
    by_cases hut:u = t
    · subst hut
      obtain rfl:g = b:=Option.some.inj (hp.symm.trans hb)
      simp only [List.getElem?_set_self ht',Option.some.injEq] at hu
      exact ⟨by rw [h.size];exact g1,by rw [if_pos rfl];omega,g3,g4⟩
    · rw [List.getElem?_set_ne (fun e=>hut e.symm)] at hu
      obtain ⟨h1,h2,h3,h4⟩:=hg.tag u m b hu hb
      have hbg:b ≠ g:=fun e=>hut (g4 u (List.getElem?_eq_some_iff.1 hu).1 (e ▸ hb))
      exact ⟨by rw [h.size];exact h1,by rw [if_neg hbg];exact h2,h3,h4⟩
  · intro i es hi
    exact (hg.map i es hi).le (h.old _ (hg.tmap t g i ht' hp (List.getElem?_eq_some_iff.1 hi).1)) hs.le
  · exact hg.mapinj
  · intro u b i hu hb hi
    simp only [jx,List.length_set] at hu
    exact hg.tmap u b i hu hb hi
  · intro i hi
    exact ⟨by simp only [jx,if_neg (hg.tmap t g i ht' hp hi)];exact (hg.mp i hi).1,(hg.mp i hi).2⟩
def gz (x:Full) (w':World) (t k:Nat):Full :=
  ⟨⟨x.st.S,x.st.T.set t k,x.st.M⟩,x.pb,fun u=>if u = t then some x.w.heap.size else x.pt u,x.pm,fun b=>if b = x.w.heap.size then k else x.F b,w'⟩
theorem se {x:Full} {w':World} {t k n:Nat} {o:Obj} (hg:Good x) (ht:x.st.T[t]? = some n) (hn:n < k) (h:Grown x.w w' o):Step [] [] x (gz x w' t k) where
  os:=h.os
  tape:=h.tape
  output:=h.output
  size:=h.size
  frame:=fun b hb _ _ _=>h.old hb
  keep:=h.keep k
  slen:=Nat.le_refl _
  ids:=fun _ _=>rfl
  fresh:=fun i h1 h2=>by simp only [gz] at h2;omega
  mlen:=Nat.le_refl _
  mids:=fun _ _=>rfl
  mfresh:=fun i h1 h2=>by simp only [gz] at h2;omega
  tags:=fun u m hu=>by
    have hu':=(List.getElem?_eq_some_iff.1 hu).1
    by_cases hut:u = t
    · subst hut
      have:m = n:=Option.some.inj (hu.symm.trans ht)
      subst this
      exact ⟨k,by simp [gz,hu'],Nat.le_of_lt hn,fun e=>by omega,.inr (.inr ⟨_,by simp [gz],Nat.le_refl _⟩)⟩
    · exact ⟨m,by simp only [gz];rw [List.getElem?_set_ne (fun e=>hut e.symm)];exact hu,Nat.le_refl _,fun _=>⟨by simp only [gz,if_neg hut],fun b hb=>⟨h.old (hg.tag_lt hu' hb),if_neg (Nat.ne_of_lt (hg.tag_lt hu' hb))⟩⟩,.inl (by simp only [gz,if_neg hut])⟩
  tfresh:=fun u b h1 h2=>by simp only [gz,List.length_set] at h2;omega
  fro:=fun b hb _=>if_neg (Nat.ne_of_lt hb)
theorem wo {x:Full} {w':World} {t k n e:Nat} {cur:Array Value} (hg:Good x) (ht:x.st.T[t]? = some n) (hn:n < k) (h:Grown x.w w' (.cells cur e (0,0))):Good (gz x w' t k):=by
  have hs:=se hg ht hn h
  have ht':=(List.getElem?_eq_some_iff.1 ht).1
  constructor
  · intro i cs' t' hi
    obtain ⟨us,h1,h2,h3⟩:=hg.box i cs' t' hi
    have hb:=(Array.getElem?_eq_some_iff.1 h1).1
    refine ⟨us,(h.old hb).trans h1,h2.mono hs,?_⟩
    simp only [gz,if_neg (Nat.ne_of_lt hb)]
    exact h3
  · exact hg.inj
  · intro u m b hu hb
    simp only [gz,List.length_set] at hu hb ⊢
    by_cases hut:u = t
    · subst hut
      rw [if_pos rfl] at hb
      injection hb with hb
      subst hb
      simp only [List.getElem?_set_self ht',Option.some.injEq] at hu
      refine ⟨by rw [h.heap];simp,by rw [if_pos rfl];omega,fun i hi=>Nat.ne_of_lt (hg.box_lt hi),fun v hv he=>?_⟩
      split at he
      · assumption
      · have:=hg.tag_lt hv he
        omega
    · rw [List.getElem?_set_ne (fun e=>hut e.symm)] at hu
      rw [if_neg hut] at hb
      obtain ⟨h1,h2,h3,h4⟩:=hg.tag u m b hu hb
      refine ⟨Nat.lt_of_lt_of_le h1 h.size,by rw [if_neg (Nat.ne_of_lt h1)];exact h2,h3,fun v hv he=>?_⟩
      split at he
      · injection he with he
        omega
      · exact h4 v hv he
  · intro i es hi
    exact (hg.map i es hi).le (h.old (hg.map i es hi).lt) hs.le
  · exact hg.mapinj
  · intro u b i hu hb hi
    simp only [gz,List.length_set] at hu hb
    split at hb
    · injection hb with hb
      have:=hg.map_lt (show i < x.st.M.length from hi)
      simp only [gz]
      omega
    · exact hg.tmap u b i hu hb hi
  · intro i hi
    exact ⟨by simp only [gz,if_neg (Nat.ne_of_lt (hg.map_lt hi))];exact (hg.mp i hi).1,(hg.mp i hi).2⟩
theorem jaj {z:Full} {g e sz n cap t k:Nat} {cur:Array Value} {ds:List DV} {vs:List Value} (hb:z.w.heap[g]? = some (.cells cur e (0,0))) (h1:ds.all jb3 = true) (hr:RepDs z ds vs) (hv:cur.toList.take (n * sz) = vs) (hl:vs.length = n * sz) (hn:n ≤ cap) (hc:cap ≤ maxLen) (hs:cur.size = cap * sz)
    (hF:ds.length ≤ z.F g) (ht:z.st.T[t]? = some k) (hk:k = ds.length) (hp:z.pt t = some g):RepB z (.own e sz t ds n) (.slice (some ⟨g,0,none⟩) n cap):=by
  subst hk
  refine .own e sz _ ds n ds.length _ (.sl _ 0 _ _ _ vs hn (by omega) h1 (fun i u hu=>?_) hr) ht (Nat.le_refl _) (fun _=>.inl ⟨?_,vs,⟨hl,.inr ⟨_,cap,cur,rfl,Nat.zero_le _,hb,hn,hc,hs,hv⟩⟩,hr⟩)
  · have hi:=(List.getElem?_eq_some_iff.1 hu).1
    rw [← hr.length] at hi
    rw [Nat.zero_add]
    exact ⟨by omega,sd hb hv hu⟩
  · simp [hp,Value.ownBlock]
def jb4 (e sz by':Nat) (b:BV) (ys:List DV) (m:Nat) (st:St):Option (St × BV) :=
  match b with
  | .tight cs n=>if m = 0 then some (st,.tight cs n) else if (n + m) * by' ≤ 140737488355328 ∧ n + m ≤ maxLen ∧ cs.length = n * sz then some ({ st with T:=st.T ++ [(cs ++ ys).length] },.own e sz st.T.length (cs ++ ys) (n + m)) else none
  | .own e' sz' t cs n=>if m = 0 then some (st,.own e' sz' t cs n) else if (n + m) * by' ≤ 140737488355328 ∧ n + m ≤ maxLen ∧ e' = e ∧ sz' = sz ∧ st.T[t]? = some cs.length then some ({ st with T:=st.T.set t (cs ++ ys).length },.own e sz t (cs ++ ys) (n + m)) else none
  | _=>none
theorem jci {x:Full} {d:DV} {v:Value} (h:RepD x d v) (h1:jb3 d = true):v.oneCell' = true:=by
  cases h with
  | flat v h=>cases v <;> first|rfl|simp [js] at h
  | agg=>cases h1
  | _=>rfl
theorem ua {x:Full}:∀ {ds:List DV} {vs:List Value},RepDs x ds vs → ds.all jb3 = true → ∀ v ∈ vs,v.oneCell' = true
  | _,_,.nil,_,v,hv=>by cases hv
  | _,_,.cons y u l vs h hs,h1,v,hv=>by
    simp only [List.all_cons,Bool.and_eq_true] at h1
    rcases List.mem_cons.1 hv with rfl|hv
    · exact jci h h1.1
    · exact ua hs h1.2 v hv
theorem sf (b off j:Nat):(⟨b,off,none⟩:Addr).add j = ⟨b,off + j,none⟩:=u7 b off j
theorem wq {P:Program} {w:World} {t e ty:Nat} {i:TypeInfo} (ht:P.underlying t = some (.slice e)) (hi:P.info? e = some i) (base:Option Addr) (n cap:Nat) (hn:n ≤ cap) (ao:Option Addr) (c:Nat) :
    (Builtin.append_ #[t,t] ty #[.slice base n cap,.slice ao 0 c]).run P w = .ok (.slice base n cap) w:=by
  cases base <;> cases ao <;> simp [Builtin.append_,run_underlying ht,sizeOf,typeInfo,hi,Builtin.lenOf,hn,Builtin.firstCells,loadCells,loadCellsFrom,storeCells]
theorem jh (w:World) (o:Obj):Grown w (w.drew.alloc o) o:=⟨rfl,rfl,rfl,rfl⟩
theorem mu {olds news:List Value} {z:Array Value} {n m sz cap:Nat} (h1:olds.length = n * sz) (h2:news.length = m * sz) (h3:z.size = sz) (h4:n + m ≤ cap):(olds.toArray ++ news.toArray ++ Builtin.zeroCells z (cap - (n + m))).size = cap * sz:=by
  simp only [Array.size_append,List.size_toArray,size_zeroCells,h1,h2,h3,← Nat.add_mul]
  congr 1
  omega
theorem mw {olds news:List Value} {z:Array Value} {n m sz k:Nat} (h1:olds.length = n * sz) (h2:news.length = m * sz):(olds.toArray ++ news.toArray ++ Builtin.zeroCells z k).toList.take ((n + m) * sz) = olds ++ news:=by
  simp only [Array.toList_append]
  rw [List.append_assoc,← List.append_assoc,Nat.add_mul,← h1,← h2,← List.length_append]
  exact List.take_left
theorem all_append {a b:List DV} (h1:a.all jb3 = true) (h2:b.all jb3 = true):(a ++ b).all jb3 = true:=by
  rw [List.all_append,h1,h2];rfl
theorem jhf {P:Program} {x:Full} (hg:Good x) {t e ty sz by' m:Nat} {i:TypeInfo} {zv:Value} (ht:P.underlying t = some (.slice e)) (hi:P.info? e = some i) (hz:i.zero = some zv) (hsz:i.size = sz) (hby:i.bytes = by') (hzs:zv.cells.size = sz) (hpos:0 < sz)
    {b b':BV} {v u:Value} {ys:List DV} {st':St} (hb:RepB x b v) (hy:RepD x (.sl ys m) u) (hys:ys.length = m * sz) (h:jb4 e sz by' b ys m x.st = some (st',b')) :
    ∃ v' z,(Builtin.append_ #[t,t] ty #[v,u]).run P x.w = .ok v' z.w ∧ z.st = st' ∧ Good z ∧ Step [] [] x z ∧ RepB z b' v':=by
  subst hsz hby
  have hu:∃ ao c,u = .slice ao m c:=by cases hy <;> exact ⟨_,_,rfl⟩
  have news:m ≠ 0 → ∃ a c us,u = .slice (some a) m c ∧ us.length = m * i.size ∧(∀ j q,us[j]? = some q → x.w.cell? (a.add j) = some q) ∧(∀ q ∈ us,q.oneCell' = true) ∧ RepDs x ys us ∧ ys.all jb3 = true:=fun hm=>by
    cases hy with
    | nil=>exact absurd rfl hm
    | emp=>exact absurd rfl hm
    | sl bb off _ cap _ us h1 h2 h3 h4 h5=>exact ⟨⟨bb,off,none⟩,cap,us,rfl,by rw [← h5.length,hys],fun j q hq=>by rw [sf];exact (h4 j q hq).2,ua h5 h3,h5,h3⟩
  cases hb with
  | tight cs k base hcs =>
    simp only [jb4] at h
    split at h
    · rename_i hm
      subst hm
      simp only [Option.some.injEq,Prod.mk.injEq] at h
      obtain ⟨rfl,rfl⟩:=h
      obtain ⟨ao,c,rfl⟩:=hu
      exact ⟨_,x,wq ht hi base k k (Nat.le_refl _) ao c,rfl,hg,Step.refl _ _ _,.tight cs k base hcs⟩
    · rename_i hm
      split at h
      case isFalse=>cases h
      rename_i hc
      obtain ⟨c1,c2,c3⟩:=hc
      simp only [Option.some.injEq,Prod.mk.injEq] at h
      obtain ⟨rfl,rfl⟩:=h
      obtain ⟨a,c,us,rfl,l1,l2,l3,l4,l5⟩:=news hm
      have hsmall:k + m ≤ 9223372036854775807:=by simp only [maxLen] at c2;omega
      cases hcs with
      | nil =>
        have hr:=run_append_nil (P:=P) x.w t ty e i zv ht hi hz a m c us l1 l2 (by omega) (by omega) (by simp only [Nat.zero_add] at c1;omega)
        have hge:=grownCap_ge x.w m 0 e
        have hgr:=jh x.w (.cells (us.toArray ++ Builtin.zeroCells zv.cells (grownCap x.w m 0 e - m)) e)
        have hrep:=wm (sz:=i.size) (n:=m) (cap:=grownCap x.w m 0 e) (ds:=ys) (vs:=us) hg hgr l5 l4 (by have:=mw (olds:=[]) (news:=us) (z:=zv.cells) (n:=0) (m:=m) (sz:=i.size) (k:=grownCap x.w m 0 e - m) (by simp) l1;simpa using this) l1 hge (grownCap_le_maxLen x.w m 0 e (by simpa using c2))
          (by have:=mu (olds:=[]) (news:=us) (z:=zv.cells) (n:=0) (m:=m) (sz:=i.size) (cap:=grownCap x.w m 0 e) (by simp) l1 hzs (by omega);simpa using this)
        exact ⟨_,ko x _ ys.length,hr,by simp [ko],sc hg hgr,mr hg hgr,by rw [List.nil_append,Nat.zero_add];exact hrep⟩
      | emp ad _ hm0 =>
        have hl:([]:List Value).length = 0 * i.size:=by simp
        have hr:=run_append_grow (P:=P) x.w t ty e i zv ht hi hz ad 0 0 [] hl (fun j q hq=>by simp at hq) a m c us l1 l2 (by omega) (by omega) (growslice_fits (by omega) c1)
        have hge:=grownCap_ge x.w (0 + m) 0 e
        have hgr:=jh x.w (.cells (([]:List Value).toArray ++ us.toArray ++ Builtin.zeroCells zv.cells (grownCap x.w (0 + m) 0 e - (0 + m))) e)
        have hrep:=wm (sz:=i.size) (n:=0 + m) (cap:=grownCap x.w (0 + m) 0 e) (ds:=[] ++ ys) (vs:=[] ++ us) hg hgr (by simpa using l5) (by simpa using l4) (mw hl l1) (by rw [List.length_append,hl,l1,Nat.add_mul]) hge (grownCap_le_maxLen x.w (0 + m) 0 e c2)
          (mu hl l1 hzs hge)
        exact ⟨_,ko x (x.w.drew.alloc (.cells (([]:List Value).toArray ++ us.toArray ++ Builtin.zeroCells zv.cells (grownCap x.w (0 + m) 0 e - (0 + m))) e)) ([] ++ ys).length,hr,rfl,sc hg hgr,mr hg hgr,hrep⟩
      | sl bb off _ _ _ vs h1 h2 h3 h4 h5 =>
        have hl:vs.length = k * i.size:=by rw [← h5.length,c3]
        have hr:=run_append_grow (P:=P) x.w t ty e i zv ht hi hz ⟨bb,off,none⟩ k k vs hl (fun j q hq=>by rw [sf];exact (h4 j q hq).2) a m c us l1 l2 (by omega) (by omega) (growslice_fits (by omega) c1)
        have hge:=grownCap_ge x.w (k + m) k e
        have hgr:=jh x.w (.cells (vs.toArray ++ us.toArray ++ Builtin.zeroCells zv.cells (grownCap x.w (k + m) k e - (k + m))) e)
        have hrep:=wm (sz:=i.size) (n:=k + m) (cap:=grownCap x.w (k + m) k e) (ds:=cs ++ ys) (vs:=vs ++ us) hg hgr (all_append h3 l5) (h5.append l4) (mw hl l1) (by rw [List.length_append,hl,l1,Nat.add_mul]) hge (grownCap_le_maxLen x.w (k + m) k e c2)
          (mu hl l1 hzs hge)
        exact ⟨_,ko x _ (cs ++ ys).length,hr,rfl,sc hg hgr,mr hg hgr,hrep⟩
  | own e' sz' tg cs k kk v hcs hk hle ho =>
    simp only [jb4] at h
    split at h
    · rename_i hm
      subst hm
      simp only [Option.some.injEq,Prod.mk.injEq] at h
      obtain ⟨rfl,rfl⟩:=h
      obtain ⟨ao,c,rfl⟩:=hu
      have hv:∃ base cap,v = .slice base k cap ∧ k ≤ cap:=by
        cases hcs with
        | nil=>exact ⟨_,_,rfl,Nat.le_refl _⟩
        | emp a cap hm=>exact ⟨_,_,rfl,Nat.zero_le _⟩
        | sl bb off _ cap _ vs h1=>exact ⟨_,_,rfl,h1⟩
      obtain ⟨base,cap,rfl,hcap⟩:=hv
      exact ⟨_,x,wq ht hi base k cap hcap ao c,rfl,hg,Step.refl _ _ _,.own e' sz' tg cs k kk _ hcs hk hle ho⟩
    · rename_i hm
      split at h
      case isFalse=>cases h
      rename_i hc
      obtain ⟨c1,c2,rfl,rfl,c3⟩:=hc
      simp only [Option.some.injEq,Prod.mk.injEq] at h
      obtain ⟨rfl,rfl⟩:=h
      obtain ⟨a,c,us,rfl,l1,l2,l3,l4,l5⟩:=news hm
      have hsmall:k + m ≤ 9223372036854775807:=by simp only [maxLen] at c2;omega
      have hkk:kk = cs.length:=Option.some.inj (hk.symm.trans c3)
      have hgrows:cs.length <(cs ++ ys).length:=by
        rw [List.length_append,hys]
        have:0 < m * i.size:=Nat.mul_pos (by omega) hpos
        omega
      have h1c:cs.all jb3 = true:=by
        cases hcs with
        | nil=>rfl
        | emp=>rfl
        | sl bb off _ cap _ vs h1 h2 h3=>exact h3
      rcases ho hkk with ⟨o1,vs,o2,o3⟩|⟨o1,rfl,rfl,base,rfl⟩
      case inr =>
        have hgrows':(([]:List DV).length) < ys.length:=by simpa using hgrows
        have fin:∀ w',(Builtin.append_ #[t,t] ty #[.slice base 0 0,.slice (some a) m c]).run P x.w = .ok (.slice (some ⟨x.w.heap.size,0,none⟩) m (grownCap x.w m 0 e')) w' → w' = x.w.drew.alloc (.cells (us.toArray ++ Builtin.zeroCells zv.cells (grownCap x.w m 0 e' - m)) e') →
            ∃ v' z,(Builtin.append_ #[t,t] ty #[.slice base 0 0,.slice (some a) m c]).run P x.w = .ok v' z.w ∧ z.st = ⟨x.st.S,x.st.T.set tg ([] ++ ys).length,x.st.M⟩ ∧ Good z ∧ Step [] [] x z ∧ RepB z (.own e' i.size tg ([] ++ ys) (0 + m)) v':=by
          intro w' hr hw
          subst hw
          have hge:=grownCap_ge x.w m 0 e'
          have hgr:=jh x.w (.cells (us.toArray ++ Builtin.zeroCells zv.cells (grownCap x.w m 0 e' - m)) e')
          have hst:=se (k:=ys.length) hg c3 hgrows' hgr
          refine ⟨_,gz x _ tg ys.length,hr,by simp [gz],wo hg c3 hgrows' hgr,hst,?_⟩
          have hrep:=jaj (z:=gz x _ tg ys.length) (t:=tg) (sz:=i.size) (n:=m) (cap:=grownCap x.w m 0 e') (ds:=ys) (vs:=us) (k:=ys.length) hgr.new l5 (l4.mono hst.le) (by have:=mw (olds:=[]) (news:=us) (z:=zv.cells) (n:=0) (m:=m) (sz:=i.size) (k:=grownCap x.w m 0 e' - m) (by simp) l1;simpa using this) l1 hge (grownCap_le_maxLen x.w m 0 e' (by simpa using c2))
            (by have:=mu (olds:=[]) (news:=us) (z:=zv.cells) (n:=0) (m:=m) (sz:=i.size) (cap:=grownCap x.w m 0 e') (by simp) l1 hzs (by omega);simpa using this)
            (by simp [gz]) (by simp [gz,(List.getElem?_eq_some_iff.1 c3).1]) rfl (by simp [gz])
          rw [List.nil_append,Nat.zero_add]
          exact hrep
        cases base with
        | none=>exact fin _ (run_append_nil (P:=P) x.w t ty e' i zv ht hi hz a m c us l1 l2 (by omega) (by omega) (by simp only [Nat.zero_add] at c1;omega)) rfl
        | some b0 =>
          have hr:=run_append_grow (P:=P) x.w t ty e' i zv ht hi hz b0 0 0 [] (by simp) (fun j q hq=>by simp at hq) a m c us l1 l2 (by omega) (by omega) (growslice_fits (by omega) c1)
          refine fin _ ?_ rfl
          simpa using hr
      have hl:=o2.1
      rcases o2.2 with ⟨rfl,hk0⟩|⟨g,cap,cur,rfl,_,hgg,hnc,hcm,hcs',htake⟩
      · subst hk0
        have hvs:vs = []:=List.eq_nil_of_length_eq_zero (by simpa using hl)
        subst hvs
        have hcs0:cs = []:=List.eq_nil_of_length_eq_zero (by simpa using o3.length)
        subst hcs0
        have hr:=run_append_nil (P:=P) x.w t ty e' i zv ht hi hz a m c us l1 l2 (by omega) (by omega) (by simp only [Nat.zero_add] at c1;omega)
        have hge:=grownCap_ge x.w m 0 e'
        have hgr:=jh x.w (.cells (us.toArray ++ Builtin.zeroCells zv.cells (grownCap x.w m 0 e' - m)) e')
        have hst:=se (k:=ys.length) hg c3 (by simpa using hgrows) hgr
        refine ⟨_,gz x _ tg ys.length,hr,by simp [gz],wo hg c3 (by simpa using hgrows) hgr,hst,?_⟩
        have hrep:=jaj (z:=gz x _ tg ys.length) (t:=tg) (sz:=i.size) (n:=m) (cap:=grownCap x.w m 0 e') (ds:=ys) (vs:=us) (k:=ys.length) hgr.new l5 (l4.mono hst.le) (by have:=mw (olds:=[]) (news:=us) (z:=zv.cells) (n:=0) (m:=m) (sz:=i.size) (k:=grownCap x.w m 0 e' - m) (by simp) l1;simpa using this) l1 hge (grownCap_le_maxLen x.w m 0 e' (by simpa using c2))
          (by have:=mu (olds:=[]) (news:=us) (z:=zv.cells) (n:=0) (m:=m) (sz:=i.size) (cap:=grownCap x.w m 0 e') (by simp) l1 hzs (by omega);simpa using this)
          (by simp [gz]) (by simp [gz,(List.getElem?_eq_some_iff.1 c3).1]) rfl (by simp [gz])
        rw [List.nil_append,Nat.zero_add]
        exact hrep
      · have hp:x.pt tg = some g:=by rw [← o1];rfl
        by_cases hroom:k + m ≤ cap
        · have hfit:k * i.size + us.length ≤ cur.size:=by rw [l1,hcs',← Nat.add_mul];exact Nat.mul_le_mul_right _ hroom
          have hr:=run_append_room (P:=P) x.w t ty e' i ht hi g k cap cur hgg a m c us l1 l2 l3 hroom hfit
          have htn:=kq (w:=x.w) (cur:=(cur.toList.take (k * i.size) ++ us ++ cur.toList.drop (k * i.size + us.length)).toArray) hgg
          have hcl:cs.length = k * i.size:=by rw [o3.length,hl]
          have hcc:∀ j q,j < cs.length → x.w.cell? ⟨g,j,none⟩ = some q →(cur.toList.take (k * i.size) ++ us ++ cur.toList.drop (k * i.size + us.length)).toArray[j]? = some q:=fun j q hj hq=>by
            simp only [World.cell?,hgg] at hq
            have hq':cur.toList[j]? = some q:=by simpa using hq
            have hlt:=(List.getElem?_eq_some_iff.1 hq').1
            simp only [List.getElem?_toArray]
            rw [List.append_assoc,List.getElem?_append_left (by rw [List.length_take];omega),List.getElem?_take,if_pos (by omega)]
            exact hq'
          have hst:=wn hg c3 hp hgrows htn hcc
          refine ⟨_,jx x _ tg g (cs ++ ys).length,hr,rfl,jd7 hg hgg c3 hp hgrows htn hcc,hst,?_⟩
          refine jaj (z:=jx x _ tg g (cs ++ ys).length) (vs:=vs ++ us) (k:=(cs ++ ys).length) htn.new (all_append h1c l5) ((o3.append l4).mono hst.le) ?_ (by rw [List.length_append,hl,l1,Nat.add_mul]) hroom hcm ?_ (by simp [jx]) (by simp [jx,(List.getElem?_eq_some_iff.1 c3).1]) rfl hp
          · rw [List.toList_toArray,htake,Nat.add_mul,← hl,← l1,← List.length_append]
            exact List.take_left
          · simp only [List.size_toArray,List.length_append,List.length_take,List.length_drop,Array.length_toList]
            omega
        · have hr:=run_append_grow (P:=P) x.w t ty e' i zv ht hi hz ⟨g,0,none⟩ k cap vs hl (fun j q hq=>by rw [sf,Nat.zero_add];exact sd hgg htake hq) a m c us l1 l2 (by omega) (by omega) (growslice_fits (by omega) c1)
          have hge:=grownCap_ge x.w (k + m) cap e'
          have hgr:=jh x.w (.cells (vs.toArray ++ us.toArray ++ Builtin.zeroCells zv.cells (grownCap x.w (k + m) cap e' - (k + m))) e')
          have hst:=se (k:=(cs ++ ys).length) hg c3 hgrows hgr
          refine ⟨_,gz x _ tg (cs ++ ys).length,hr,rfl,wo hg c3 hgrows hgr,hst,?_⟩
          exact jaj (z:=gz x _ tg (cs ++ ys).length) (vs:=vs ++ us) (k:=(cs ++ ys).length) hgr.new (all_append h1c l5) ((o3.append l4).mono hst.le) (mw hl l1) (by rw [List.length_append,hl,l1,Nat.add_mul]) hge (grownCap_le_maxLen x.w (k + m) cap e' c2)
            (mu hl l1 hzs hge) (by simp [gz]) (by simp [gz,(List.getElem?_eq_some_iff.1 c3).1]) rfl (by simp [gz])
  | _=>simp [jb4] at h
def et (x:Full):Full:=⟨⟨x.st.S,x.st.T ++ [0],x.st.M⟩,x.pb,fun t=>if t = x.st.T.length then none else x.pt t,x.pm,x.F,x.w⟩
theorem fw (x:Full):Step [] [] x (et x) where
  os:=rfl
  tape:=rfl
  output:=rfl
  size:=Nat.le_refl _
  frame:=fun _ _ _ _ _=>rfl
  keep:=jfm.refl _ _
  slen:=Nat.le_refl _
  ids:=fun _ _=>rfl
  fresh:=fun i h1 h2=>by simp only [et] at h2;omega
  mlen:=Nat.le_refl _
  mids:=fun _ _=>rfl
  mfresh:=fun i h1 h2=>by simp only [et] at h2;omega
  tags:=fun t k h=>by
    have hlt:=(List.getElem?_eq_some_iff.1 h).1
    refine ⟨k,?_,Nat.le_refl _,fun _=>⟨?_,fun _ _=>⟨rfl,rfl⟩⟩,.inl ?_⟩
    · simp only [et];rw [List.getElem?_append_left hlt];exact h
    · simp only [et,if_neg (Nat.ne_of_lt hlt)]
    · simp only [et,if_neg (Nat.ne_of_lt hlt)]
  tfresh:=fun t b h1 h2 h3=>by
    simp only [et,List.length_append,List.length_singleton] at h2 h3
    rw [if_pos (by omega)] at h3
    cases h3
  fro:=fun _ _ _=>rfl
theorem k8 {x:Full} (hg:Good x):Good (et x):=by
  have hs:=fw x
  refine ⟨fun i cs t hi=>?_,hg.inj,fun t k b ht hb=>?_,fun i es hi=>?_,hg.mapinj,fun t b i ht hb hi=>?_,hg.mp⟩
  · obtain ⟨vs,q1,q2,q3⟩:=hg.box i cs t hi
    exact ⟨vs,q1,q2.mono hs,q3⟩
  · simp only [et,List.getElem?_append] at ht hb
    split at hb
    · cases hb
    · rename_i hne
      split at ht
      · rename_i hlt
        obtain ⟨h1,h2,h3,h4⟩:=hg.tag t k b ht hb
        refine ⟨h1,h2,h3,fun u hu he=>?_⟩
        simp only [et,List.length_append,List.length_singleton] at hu he
        split at he
        · cases he
        · exact h4 u (by omega) he
      · rename_i hlt
        have:=(List.getElem?_eq_some_iff.1 ht).1
        simp at this
        omega
  · exact (hg.map i es hi).le rfl hs.le
  · simp only [et,List.length_append,List.length_singleton] at ht hb
    split at hb
    · cases hb
    · exact hg.tmap t b i (by omega) hb hi
theorem jhg {x:Full} (e sz:Nat) {v:Value} (h:RepB x (.tight [] 0) v):RepB (et x) (.own e sz x.st.T.length [] 0) v:=by
  cases h with
  | tight _ _ base h=>exact .own e sz _ [] 0 0 _ (h.mono (fw x).le) (by simp [et]) (Nat.le_refl _) (fun _=>.inr ⟨by simp [et],rfl,rfl,base,rfl⟩)
end Go.Proofs.YtinffhimfoicdaaGreat.Calc
namespace Go.Proofs.YtinffhimfoicdaaGreat.Calc
open Go Go.RowKit
set_option linter.unusedVariables false
def jsw (P:Program) (e:Nat):Option Nat:=(P.info? e).map (·.bytes)
def jak {α:Type}:Nat → List α → List α
  | 0,_=>[]
  | n + 1,l=>l ++ jak n l
theorem jft {x:Full} {l:List BV} {vs:List Value} (h:RepBs x l vs):∀ n,RepBs x (jak n l) (jak n vs)
  | 0=>.nil
  | n + 1=>h.append (jft h n)
theorem rj {α:Type} (l:List α):∀ n,(jak n l).length = n * l.length
  | 0=>by simp [jak]
  | n + 1=>by rw [jak,List.length_append,rj l n,Nat.add_mul];omega
theorem jfu {α:Type} (l:List α):∀(n i:Nat),i < n * l.length →(jak n l)[i]? = l[i % l.length]?
  | 0,i,h=>by simp at h
  | n + 1,i,h=>by
    rw [jak]
    by_cases hi:i < l.length
    · rw [List.getElem?_append_left hi,Nat.mod_eq_of_lt hi]
    · rw [List.getElem?_append_right (by omega),jfu l n (i - l.length) (by rw [Nat.add_mul] at h;omega)]
      congr 1
      exact (Nat.mod_eq_sub_mod (by omega)).symm
theorem jkw (z:Array Value) (n:Nat):((Array.range (n * z.size)).map fun i=>z[i % z.size]!) =(jak n z.toList).toArray:=by
  apply Array.ext'
  apply List.ext_getElem?
  intro i
  simp only [Array.toList_map,Array.toList_range,List.getElem?_map]
  by_cases hi:i < n * z.size
  · rw [jfu z.toList n i (by simpa using hi),List.getElem?_range hi]
    have hz:0 < z.size:=by
      rcases Nat.eq_zero_or_pos z.size with h|h
      · rw [h,Nat.mul_zero] at hi;omega
      · exact h
    have:=Nat.mod_lt i hz
    simp [this]
  · rw [List.getElem?_eq_none (by simp;omega),List.getElem?_eq_none (by rw [rj];simpa using hi)]
    rfl
theorem va {ρ:Rg} {place:Nat → Option (Nat × Nat)}:∀ {parts:List (Nat × Operand)} {cs cs':List BV},nf ρ place parts cs = some cs' → cs'.length = cs.length
  | [],cs,cs',h=>by obtain rfl:=Option.some.inj h;rfl
  |(i,o) :: rest,cs,cs',h=>by
    unfold nf at h
    split at h
    · split at h
      · rw [va h,ri]
      · cases h
    · cases h
def db (P:Program) (ok:Nat → Bool) (st:St) (ρ:Rg):Op → Option (St × Option BV)
  | .alloc e=>match pi P e with
    | some (_,_,z)=>some (⟨st.S ++ [(z,e)],st.T,st.M⟩,some (.ptr st.S.length 0))
    | none=>none
  | .box e x=>match evB ρ x with
    | some b=>if f6 b = true then some (⟨st.S ++ [(dh b,e)],st.T,st.M⟩,some (.ptr st.S.length 0)) else none
    | none=>none
  | .buildSlice t len ps=>match u9 P t with
    | some (e,sz)=>match pi P e with
      | some (_,sz',z)=>if sz' = sz ∧ z.length = sz ∧ 0 < len * sz ∧ len * sz ≤ 2 ^ 24 ∧ len ≤ maxLen then
          match (nf ρ (fun i=>some (i * sz,sz)) ps.toList (jak len z)).bind jhc with
          | some ds=>if ds.all jb3 = true then some (⟨st.S,st.T ++ [ds.length],st.M⟩,some (.own e sz st.T.length ds len)) else none
          | none=>none
        else none
      | none=>none
    | none=>none
  | .store t x v=>match evB ρ x,evB ρ v,pi P t with
    | some (.ptr id off),some b,some (_,sz,_)=>match st.S[id]? with
      | some (cs,ty)=>if ok id = true ∧ f6 b = true ∧(dh b).length = sz ∧ off + sz ≤ cs.length then some (⟨st.S.set id (mi off (dh b) cs,ty),st.T,st.M⟩,none) else none
      | none=>none
    | _,_,_=>none
  | .call c=>match c.callee,c.args.toList,c.argTypes.toList with
    | .builtin .append,[x,y],[t,t']=>if t = t' then
        match u9 P t with
        | some (e,sz)=>match evB ρ x,(evB ρ y).bind mg,pi P e,jsw P e with
          | some b,some (ys,m),some (_,sz',z),some by'=>if sz' = sz ∧ z.length = sz ∧ 0 < sz ∧ ys.length = m * sz then (jb4 e sz by' b ys m st).map fun (s,b)=>(s,some b) else none
          | _,_,_,_=>none
        | none=>none
      else none
    | _,_,_=>none
  | _=>none
theorem jia {x:Full} {b:BV} {v:Value} (h:RepB x b v) (h1:jhd b = true):v.oneCell' = true:=by
  cases h with
  | d y v h=>exact jci h (by cases y <;> simp [jhd] at h1 ⊢ <;> rfl)
  | agg=>cases h1
  | tup=>cases h1
  | any=>cases h1
  | own e sz t cs n k v h=>cases h <;> rfl
  | fresh e sz t cs n k v h =>
    obtain ⟨_,_,rfl,_⟩:=h
    rfl
  | _=>rfl
theorem ub {x:Full}:∀ {l:List BV} {vs:List Value},RepBs x l vs → l.all jhd = true → ∀ v ∈ vs,v.oneCell' = true
  | _,_,.nil,_,v,hv=>by cases hv
  | _,_,.cons y u l vs h hs,h1,v,hv=>by
    simp only [List.all_cons,Bool.and_eq_true] at h1
    rcases List.mem_cons.1 hv with rfl|hv
    · exact jia h h1.1
    · exact ub hs h1.2 v hv
theorem zk {b:BV} (h:f6 b = true):(dh b).all jhd = true:=by
  cases b <;> simp_all [f6,dh]
theorem jib {P:Program} {w:World} {e:Nat} {i:TypeInfo} {z:Value} (h:P.info? e = some i) (hz:i.zero = some z):(Instr.alloc e true (.tuple #[])).run P w = .ok (.pointer (some ⟨w.heap.size,0,none⟩)) (w.alloc (.cells z.cells e)):=by
  simp [Instr.alloc,qu h hz,newVar,newRow]
theorem k9 (w:World) (o:Obj):Grown w (w.alloc o) o:=⟨rfl,rfl,rfl,rfl⟩
theorem jnq {P:Program} {w:World} {e:Nat} {v:Value}:(Instr.box e v).run P w = .ok (.pointer (some ⟨w.heap.size,0,none⟩)) (w.alloc (.cells v.cells e)):=by
  simp [Instr.box,newVar,newRow]
theorem wt {P:Program} {w:World} {t g off ty:Nat} {i:TypeInfo} {v:Value} {vs:List Value} (h:P.info? t = some i) (hg:w.heap[g]? = some (.cells vs.toArray ty (0,0))) (hs:v.cells.size = i.size) (hfit:off + i.size ≤ vs.length) (h1:∀ u ∈ v.cells.toList,u.oneCell' = true) :
    (Instr.storeAt t (.pointer (some ⟨g,off,none⟩)) v).run P w = .ok () (w.setRow g (mi off v.cells.toList vs).toArray):=by
  have hp:∀(us:List Value) (off:Nat) (vs:List Value),off + us.length ≤ vs.length → mi off us vs = vs.take off ++ us ++ vs.drop (off + us.length):=by
    intro us
    induction us with
    | nil=>intro off vs _;simp [mi]
    | cons u us ih =>
      intro off vs hle
      simp only [List.length_cons] at hle
      rw [mi,ih (off + 1) (vs.set off u) (by simp;omega)]
      have h1:(vs.set off u).take (off + 1) = vs.take off ++ [u]:=by
        rw [List.take_add_one,List.take_set_of_le (Nat.le_refl _),List.getElem?_set_self (by omega)]
        rfl
      have h2:(vs.set off u).drop (off + 1 + us.length) = vs.drop (off +(us.length + 1)):=by
        rw [List.drop_set_of_lt (by omega)]
        congr 1
        omega
      rw [h1,h2]
      simp
  have hst:=run_storeCells_at P g off ty v.cells.toList 0 vs.toArray w hg (by simp;omega) h1
  simp only [Nat.add_zero] at hst
  rw [hp _ _ _ (by simp;omega)]
  simp only [Instr.storeAt,Instr.sureAddr,Sem.run_bind,Sem.run_pure,Result.andThen_ok,storeVar,gp h,hs]
  simpa using hst
theorem y7 {P:Program} {w:World} {t e len:Nat} {i:TypeInfo} {z:Value} {parts:Array (Nat × Value)} {cells:Array Value} (ht:P.underlying t = some (.slice e)) (hi:P.info? e = some i) (hz:i.zero = some z) (hs:z.cells.size = i.size) (h1:len * i.size ≠ 0) (h2:len * i.size ≤ 2 ^ 24)
    (hf:Instr.fill (fun j=>some (j * i.size,i.size)) (jak len z.cells.toList).toArray parts.toList = some cells):(Instr.buildSlice t len parts).run P w = .ok (.slice (some ⟨w.heap.size,0,none⟩) len len) (w.alloc (.cells cells e)):=by
  have hzero:=jkw z.cells len
  rw [hs] at hzero
  simp only [Instr.buildSlice,Sem.run_bind,fo ht,Result.andThen_ok,gp hi,qu hi hz,Sem.run_pure,if_neg h1,if_neg (Nat.not_lt.2 h2),hs,hzero,hf,newRow,run_newObj,World.alloc]
def jxw (z:Full) (nx:Next):Option BV → Prop
  | some b=>∃ v,nx = .value v ∧ RepB z b v
  | none=>nx = .skip
theorem jcj {P:Program} {ok:Nat → Bool} {st st':St} {ρ:Rg} {o:Oper} {r:Option BV} (h:db P ok st ρ o.op = some (st',r)) {nt:Nat} {y:Full} {a:Act} (hs:y.st = st) (hg:Good y) (hr:Regs nt y ρ a) :
    ∃ nx z W,(execOp a.eval o).run P y.w = .ok nx z.w ∧ z.st = st' ∧ Good z ∧ Step W [] y z ∧(∀ i ∈ W,ok i = true) ∧ jxw z nx r:=by
  obtain ⟨dst,op,type,pos,after,guard⟩:=o
  subst hs
  cases op with
  | alloc e =>
    simp only [db] at h
    split at h
    · rename_i ag sz z ht
      obtain ⟨d,i,zz,g1,g2,g3,_,_,g6,_⟩:=gg ht
      simp only [Option.some.injEq,Prod.mk.injEq] at h
      obtain ⟨rfl,rfl⟩:=h
      have hgr:=k9 y.w (.cells zz.cells.toList.toArray e)
      refine ⟨.value (.pointer (some ⟨y.w.heap.size,0,none⟩)),j9 y _ z e,[],?_,rfl,jfs hg hgr (gi g6),jai hg hgr,by simp,_,rfl,?_⟩
      · simp [execOp,jib g2 g3,j9]
      · have:=RepB.ptr (x:=j9 y (y.w.alloc (.cells zz.cells.toList.toArray e)) z e) y.st.S.length 0 (by simp [j9])
        simpa [j9] using this
    · cases h
  | box e x =>
    simp only [db] at h
    split at h
    · rename_i b hx
      split at h
      case isFalse=>cases h
      rename_i hk
      simp only [Option.some.injEq,Prod.mk.injEq] at h
      obtain ⟨rfl,rfl⟩:=h
      have hgr:=k9 y.w (.cells (a.eval x).cells.toList.toArray e)
      refine ⟨.value (.pointer (some ⟨y.w.heap.size,0,none⟩)),j9 y _ (dh b) e,[],?_,rfl,jfs hg hgr (qv hk (hr.ev hx)),jai hg hgr,by simp,_,rfl,?_⟩
      · simp [execOp,jnq,j9]
      · have:=RepB.ptr (x:=j9 y (y.w.alloc (.cells (a.eval x).cells.toList.toArray e)) (dh b) e) y.st.S.length 0 (by simp [j9])
        simpa [j9] using this
    · cases h
  | buildSlice t len ps =>
    simp only [db] at h
    split at h
    case h_2=>cases h
    rename_i e sz he
    split at h
    case h_2=>cases h
    rename_i ag sz' z ht
    split at h
    case isFalse=>cases h
    rename_i hc
    obtain ⟨rfl,c2,c3,c4,c5⟩:=hc
    split at h
    case h_2=>cases h
    rename_i ds hd
    split at h
    case isFalse=>cases h
    rename_i h1
    simp only [Option.some.injEq,Prod.mk.injEq] at h
    obtain ⟨rfl,rfl⟩:=h
    obtain ⟨g1,ti,g2,g3⟩:=jk he
    obtain ⟨d,i,zz,k1,k2,k3,_,k5,k6,_⟩:=gg ht
    obtain rfl:ti = i:=Option.some.inj (g2.symm.trans k2)
    subst g3
    obtain ⟨cs,hf,hds⟩:=Option.bind_eq_some_iff.1 hd
    have hz:=gi (x:=y) k6
    have hzl:zz.cells.size = ti.size:=by rw [← Array.length_toList,← hz.length,c2]
    obtain ⟨vs,q1,q2⟩:=jag hr (fun j=>some (j * ti.size,ti.size)) ps.toList (jft hz len) hf
    have hrd:=v6 hds q2
    have hlen:vs.length = len * ti.size:=by
      rw [← q2.length]
      have:=va hf
      rw [this,rj,c2]
    have hgr:=k9 y.w (.cells vs.toArray e)
    refine ⟨.value (.slice (some ⟨y.w.heap.size,0,none⟩) len len),ko y _ ds.length,[],?_,rfl,sc hg hgr,mr hg hgr,by simp,_,rfl,wm (sz:=ti.size) (n:=len) (cap:=len) hg hgr h1 hrd ?_ hlen (Nat.le_refl _) c5 (by simpa using hlen)⟩
    · have:=y7 (w:=y.w) (parts:=ps.map fun (i,x)=>(i,a.eval x)) (cells:=vs.toArray) g1 g2 k3 hzl (by omega) c4 (by simpa using q1)
      simp only [execOp,Sem.run_bind,this,Result.andThen_ok,Sem.run_pure]
      rfl
    · rw [List.toList_toArray,← hlen]
      exact List.take_length
  | store t x v =>
    simp only [db] at h
    split at h
    · rename_i id off b ag sz z hx hv ht
      split at h
      case h_2=>cases h
      rename_i cs ty hb
      split at h
      case isFalse=>cases h
      rename_i hc
      obtain ⟨c1,c2,c3,c4⟩:=hc
      simp only [Option.some.injEq,Prod.mk.injEq] at h
      obtain ⟨rfl,rfl⟩:=h
      obtain ⟨d,i,zz,k1,k2,k3,_,k5,k6,_⟩:=gg ht
      subst k5
      obtain ⟨vs,q1,q2,_⟩:=hg.box id cs ty hb
      have hrx:=hr.ev hx
      generalize hw:a.eval x = vx at hrx
      have hcell:=qv c2 (hr.ev hv)
      cases hrx with
      | ptr _ _ hlt =>
        have hl:=hcell.length
        have hrun:=wt (P:=P) (t:=t) (off:=off) (v:=a.eval v) k2 q1 (by rw [← Array.length_toList];omega) (by rw [← q2.length];exact c4) (ub hcell (zk c2))
        have htn:=kq (w:=y.w) (cur:=(mi off (a.eval v).cells.toList vs).toArray) q1
        refine ⟨.skip,vq y _ id _ ty,[id],?_,rfl,jhe hg hlt htn (jaf hcell off q2),zj hg hlt htn,by simpa using c1,rfl⟩
        simp only [execOp,hw,Sem.run_bind,hrun,Result.andThen_ok,Sem.run_pure]
        rfl
    · cases h
  | call c =>
    obtain ⟨callee,args,ats⟩:=c
    simp only [db] at h
    split at h
    case h_2=>cases h
    rename_i p q t t' hargs hats
    obtain rfl:args = #[p,q]:=by cases args;simpa using hargs
    obtain rfl:ats = #[t,t']:=by cases ats;simpa using hats
    split at h
    case isFalse=>cases h
    rename_i htt
    subst htt
    split at h
    case h_2=>cases h
    rename_i e sz he
    split at h
    case h_2=>cases h
    rename_i b ys m ag sz' z by' hx hy ht hby
    split at h
    case isFalse=>cases h
    rename_i hc
    obtain ⟨rfl,c2,c3,c4⟩:=hc
    obtain ⟨⟨s,b'⟩,happ,hh⟩:=Option.map_eq_some_iff.1 h
    simp only [Prod.mk.injEq] at hh
    obtain ⟨rfl,rfl⟩:=hh
    obtain ⟨g1,ti,g2,g3⟩:=jk he
    obtain ⟨d,i,zz,k1,k2,k3,_,k5,k6,_⟩:=gg ht
    obtain rfl:ti = i:=Option.some.inj (g2.symm.trans k2)
    subst g3
    have hz:=gi (x:=y) k6
    have hzl:zz.cells.size = ti.size:=by rw [← Array.length_toList,← hz.length,c2]
    obtain ⟨ti',g4,g5⟩:=Option.map_eq_some_iff.1 hby
    obtain rfl:ti = ti':=Option.some.inj (g2.symm.trans g4)
    obtain ⟨by0,hy1,hy2⟩:=Option.bind_eq_some_iff.1 hy
    obtain ⟨v',zf,r1,r2,r3,r4,r5⟩:=jhf (ty:=type) hg g1 g2 k3 rfl g5 hzl c3 (hr.ev hx) (po hy2 (hr.ev hy1)) c4 happ
    refine ⟨.value v',zf,[],?_,r2,r3,r4,by simp,v',rfl,r5⟩
    simp [execOp,resolve,invoke,builtin,r1]
  | _=>simp [db] at h
end Go.Proofs.YtinffhimfoicdaaGreat.Calc
