/- Texts of the claim, merged: Calc25, Calc26, Calc27, FB, FC, FD, FT, FE, Calc23, FF, TA. No conditions. -/
import Derived.Test.YtokilnhpepbjlaaGreatPg5
import Derived.Test.YtokilnhpepbjlaaGreatPg2
namespace Go.Proofs.YtokilnhpepbjlaaGreat.Calc
open Go Go.RowKit
set_option linter.unusedVariables false
section
variable {P : Program} {ok okm : Nat → Bool} {o : Oper} {ρ : Rg} {Q : Rg → St → Prop} {x y i : Operand}
theorem opR_iaB {st : St} {t e sz id n : Nat} {j : Int} {k : IntKind} (ho : o.op = .indexAddr t x i) (he : elOf P t = some (e,sz)) (hx : evB ρ x = some (.bsl id n)) (hi : fl ρ i = some (.int k j)) (h : 0 ≤ j ∧ j < n) (hq : Q (updO ρ o.dst (.ptr id (j.toNat * sz))) st) : OpR P ok okm o ρ st Q := by
  intro nt z c Kx h1 h2 h3 h4
  subst h1
  obtain ⟨g1,ti,g2,rfl⟩ := elOf_some he
  have hv := h3.ev hx
  generalize hw : c.eval x = v at hv
  have hiv := fl_inv h3 hi
  cases hv with
  | bsl _ _ cap hid hc hm =>
    have hrun : (execOp c.eval o).run P z.w = .ok (.value (.pointer (some ⟨z.pb id,j.toNat * ti.size,none⟩))) z.w := by
      obtain ⟨dst,op,type,pos,after,guard⟩ := o
      subst ho
      simp [execOp,hw,hiv,Instr.indexAt,asIntOf,run_und g1,run_size g2,h,add_eq]
    unfold Oper.wp
    rw [hrun]
    exact ⟨_,z,[],[],rfl,hq,h2,Step.refl _ _ _,by simp,by simp,h3.put h4 (.ptr id _ hid)⟩
theorem opR_lenB {st : St} {t e sz id n : Nat} (ho : o.op = .call { callee := .builtin .len,args := #[x],argTypes := #[t] }) (he : elOf P t = some (e,sz)) (hx : evB ρ x = some (.bsl id n)) (hq : Q (updO ρ o.dst (vI n)) st) : OpR P ok okm o ρ st Q := by
  intro nt z c Kx h1 h2 h3 h4
  subst h1
  obtain ⟨g1,ti,g2,rfl⟩ := elOf_some he
  have hv := h3.ev hx
  generalize hw : c.eval x = v at hv
  cases hv with
  | bsl _ _ cap hid hc hm =>
    have hrun : (execOp c.eval o).run P z.w = .ok (.value (.int .i64 n)) z.w := by
      obtain ⟨dst,op,type,pos,after,guard⟩ := o
      subst ho
      have hl : (Builtin.len_ #[t] type #[.slice (some ⟨z.pb id,0,none⟩) n cap]).run P z.w = .ok (.int .i64 n) z.w := by simp [Builtin.len_,run_und g1,goInt]
      simp [execOp,resolve,invoke,builtin,hw,hl]
    unfold Oper.wp
    rw [hrun]
    exact ⟨_,z,[],[],rfl,hq,h2,Step.refl _ _ _,by simp,by simp,h3.put h4 (.d _ _ (.flat _ rfl))⟩
theorem opR_bsB {S L : List (List BV × Nat)} {T : List Nat} {M : List (List (Value × DV))} {ag : Bool} {t e sz len nb : Nat} {zs : List BV} {ps : Array (Nat × Operand)} {cs : List BV} (ho : o.op = .buildSlice t len ps) (hS : S.length = nb) (he : elOf P t = some (e,sz)) (ht : tyOf P e = some (ag,sz,zs)) (hz : zs.length = sz) (h0 : 0 < len * sz ∧ len * sz ≤ 2 ^ 24 ∧ len ≤ maxLen)
    (hf : fillB ρ (fun i => some (i * sz,sz)) ps.toList (repL len zs) = some cs) (hq : Q (updO ρ o.dst (.bsl (nb + L.length) len)) ⟨S ++ (L ++ [(cs,e)]),T,M⟩) : OpR P ok okm o ρ ⟨S ++ L,T,M⟩ Q := by
  intro nt y a Kx h1 h2 h3 h4
  obtain ⟨g1,ti,g2,g3⟩ := elOf_some he
  obtain ⟨d,i,zz,k1,k2,k3,_,k5,k6,_⟩ := tyOf_some ht
  obtain rfl : ti = i := Option.some.inj (g2.symm.trans k2)
  subst g3
  have hzr := cellsB_rep (x := y) k6
  have hzl : zz.cells.size = ti.size := by rw [← Array.length_toList,← hzr.length,hz]
  obtain ⟨vs,q1,q2⟩ := fill_run h3 (fun j => some (j * ti.size,ti.size)) ps.toList (repL_rep hzr len) hf
  have hgr := alloc_grown y.w (.cells vs.toArray e)
  have hrun : (execOp a.eval o).run P y.w = .ok (.value (.slice (some ⟨y.w.heap.size,0,none⟩) len len)) (y.w.alloc (.cells vs.toArray e)) := by
    obtain ⟨dst,op,type,pos,after,guard⟩ := o
    subst ho
    have := run_buildSlice (w := y.w) (parts := ps.map fun (i,x) => (i,a.eval x)) (cells := vs.toArray) g1 g2 k3 hzl (by omega) h0.2.1 (by simpa using q1)
    simp only [execOp,Sem.run_bind,this,Result.andThen_ok,Sem.run_pure]
  unfold Oper.wp
  rw [hrun]
  have e1 : y.st.S.length = nb + L.length := by rw [h1,← hS];exact List.length_append
  refine ⟨_,boxed y _ cs e,[],[],rfl,?_,box_good h2 hgr q2,box_step h2 hgr,by simp,by simp,(h3.step (box_step h2 hgr)).put h4 (b := .bsl (nb + L.length) len) ?_⟩
  · have e2 : ∀ w',(boxed y w' cs e).st = ⟨S ++ (L ++ [(cs,e)]),T,M⟩ := fun w' => by
      show (⟨y.st.S ++ [(cs,e)],y.st.T,y.st.M⟩ : St) = _
      rw [h1,List.append_assoc]
    rw [e2]
    exact hq
  · have := RepB.bsl (x := boxed y (y.w.alloc (.cells vs.toArray e)) cs e) (nb + L.length) len len (by simp [boxed,e1]) (Nat.le_refl _) h0.2.2
    rw [← e1] at this ⊢
    simpa [boxed] using this
theorem opR_bsT {S : List (List BV × Nat)} {T X : List Nat} {M : List (List (Value × DV))} {ag : Bool} {t e sz len : Nat} {zs : List BV} {ps : Array (Nat × Operand)} {ds : List DV} (ho : o.op = .buildSlice t len ps) (he : elOf P t = some (e,sz)) (ht : tyOf P e = some (ag,sz,zs)) (hz : zs.length = sz) (h0 : 0 < len * sz ∧ len * sz ≤ 2 ^ 24 ∧ len ≤ maxLen)
    (hf : (fillB ρ (fun i => some (i * sz,sz)) ps.toList (repL len zs)).bind toDs = some ds) (h1 : ds.all oneD = true) (hq : Q (updO ρ o.dst (.tight ds len)) ⟨S,T ++ (X ++ [ds.length]),M⟩) : OpR P ok okm o ρ ⟨S,T ++ X,M⟩ Q := by
  intro nt y a Kx e0 h2 h3 h4
  obtain ⟨g1,ti,g2,g3⟩ := elOf_some he
  obtain ⟨d,i,zz,k1,k2,k3,_,k5,k6,_⟩ := tyOf_some ht
  obtain rfl : ti = i := Option.some.inj (g2.symm.trans k2)
  subst g3
  obtain ⟨cs,hf,hds⟩ := Option.bind_eq_some_iff.1 hf
  have hzr := cellsB_rep (x := y) k6
  have hzl : zz.cells.size = ti.size := by rw [← Array.length_toList,← hzr.length,hz]
  obtain ⟨vs,q1,q2⟩ := fill_run h3 (fun j => some (j * ti.size,ti.size)) ps.toList (repL_rep hzr len) hf
  have hrd := toDs_rep hds q2
  have hlen : vs.length = len * ti.size := by
    rw [← q2.length]
    have := fillB_length hf
    rw [this,repL_length,hz]
  have hgr := alloc_grown y.w (.cells vs.toArray e)
  have hrun : (execOp a.eval o).run P y.w = .ok (.value (.slice (some ⟨y.w.heap.size,0,none⟩) len len)) (y.w.alloc (.cells vs.toArray e)) := by
    obtain ⟨dst,op,type,pos,after,guard⟩ := o
    subst ho
    have := run_buildSlice (w := y.w) (parts := ps.map fun (i,x) => (i,a.eval x)) (cells := vs.toArray) g1 g2 k3 hzl (by omega) h0.2.1 (by simpa using q1)
    simp only [execOp,Sem.run_bind,this,Result.andThen_ok,Sem.run_pure]
  have hrow := row_rep (sz := ti.size) (n := len) (cap := len) h2 hgr h1 hrd (by rw [List.toList_toArray,← hlen];exact List.take_length) hlen (Nat.le_refl _) h0.2.2 (by simpa using hlen)
  unfold Oper.wp
  rw [hrun]
  refine ⟨_,rowed y _ ds.length,[],[],rfl,?_,row_good h2 hgr,row_step h2 hgr,by simp,by simp,(h3.step (row_step h2 hgr)).put h4 (b := .tight ds len) ?_⟩
  · have e2 : ∀ w',(rowed y w' ds.length).st = ⟨S,T ++ (X ++ [ds.length]),M⟩ := fun w' => by
      show (⟨y.st.S,y.st.T ++ [ds.length],y.st.M⟩ : St) = _
      rw [e0,List.append_assoc]
    rw [e2]
    exact hq
  · cases hrow with
    | own _ _ _ _ _ _ _ hd => exact .tight _ _ _ hd
end
end Go.Proofs.YtokilnhpepbjlaaGreat.Calc
namespace Go.Proofs.YtokilnhpepbjlaaGreat.Calc
open Go Go.RowKit
set_option linter.unusedVariables false
theorem anys_rep {x : Full} : ∀ vs : List Value,RepBs x (List.replicate vs.length .any) vs
  | [] => .nil
  | v :: vs => by
    rw [List.length_cons,List.replicate_succ]
    exact .cons _ _ _ _ (.any v) (anys_rep vs)
section
variable {P : Program} {ok okm : Nat → Bool} {o : Oper} {ρ : Rg} {Q : Rg → St → Prop} {x y : Operand}
theorem opR_apB {S L : List (List BV × Nat)} {T : List Nat} {M : List (List (Value × DV))} {ag : Bool} {t e sz by' n m nb : Nat} {zs : List BV} {cs ys : List DV} (ho : o.op = .call { callee := .builtin .append,args := #[x,y],argTypes := #[t,t] }) (hS : S.length = nb) (he : elOf P t = some (e,sz)) (ht : tyOf P e = some (ag,sz,zs)) (hb : byOf P e = some by')
    (hx : evB ρ x = some (.tight cs n)) (hy : (evB ρ y).bind rowB = some (ys,m)) (hz : zs.length = sz) (hys : ys.length = m * sz) (hm : m ≠ 0) (h1 : (n + m) * by' ≤ 140737488355328) (h2 : n + m ≤ maxLen) (hl : cs.length = n * sz)
    (hq : ∀ N,Q (updO ρ o.dst (.bsl (nb + L.length) (n + m))) ⟨S ++ (L ++ [((cs ++ ys).map .d ++ List.replicate N .any,e)]),T,M⟩) : OpR P ok okm o ρ ⟨S ++ L,T,M⟩ Q := by
  intro nt z a Kx e0 hg hr h4
  obtain ⟨g1,ti,g2,g3⟩ := elOf_some he
  obtain ⟨d,i,zz,k1,k2,k3,_,k5,k6,_⟩ := tyOf_some ht
  obtain rfl : ti = i := Option.some.inj (g2.symm.trans k2)
  subst g3
  have hzr := cellsB_rep (x := z) k6
  have hzl : zz.cells.size = ti.size := by rw [← Array.length_toList,← hzr.length,hz]
  obtain ⟨ti',g4,g5⟩ := Option.map_eq_some_iff.1 hb
  obtain rfl : ti = ti' := Option.some.inj (g2.symm.trans g4)
  subst g5
  obtain ⟨by0,hy1,hy2⟩ := Option.bind_eq_some_iff.1 hy
  have hyr := rowB_rep hy2 (hr.ev hy1)
  have hxr := hr.ev hx
  generalize hw : a.eval x = v at hxr
  generalize hu : a.eval y = u at hyr
  have news : ∃ ad c us,u = .slice (some ad) m c ∧ us.length = m * ti.size ∧ (∀ j q,us[j]? = some q → z.w.cell? (ad.add j) = some q) ∧ (∀ q ∈ us,q.oneCell' = true) ∧ RepDs z ys us := by
    cases hyr with
    | nil => exact absurd rfl hm
    | emp => exact absurd rfl hm
    | sl bb off _ cap _ us a1 a2 a3 a4 a5 => exact ⟨⟨bb,off,none⟩,cap,us,rfl,by rw [← a5.length,hys],fun j q hq => by rw [addr_add];exact (a4 j q hq).2,oneDs_cell a5 a3,a5⟩
  obtain ⟨ad,c,us,rfl,l1,l2,l3,l4⟩ := news
  have hsmall : n + m ≤ 9223372036854775807 := by simp only [maxLen] at h2;omega
  have fin : ∀ (vs : List Value) (cap : Nat) (w' : World) (cells : List Value) (K : Nat),RepDs z cs vs → cells = vs ++ us ++ List.replicate K (.bool false) ∨ True → (Builtin.append_ #[t,t] o.type #[v,.slice (some ad) m c]).run P z.w = .ok (.slice (some ⟨z.w.heap.size,0,none⟩) (n + m) cap) w' → n + m ≤ cap → cap ≤ maxLen →
      ∀ rest : List Value,Grown z.w w' (.cells (vs ++ us ++ rest).toArray e (0,0)) → o.wp P a z.w (fun a' w' => ∃ ρ' z' W V,z'.w = w' ∧ Q ρ' z'.st ∧ Good z' ∧ Step W V z z' ∧ (∀ i ∈ W,i < z.st.S.length → ok i = true) ∧ (∀ i ∈ V,i < z.st.M.length → okm i = true) ∧ Regs nt z' ρ' a') Kx := by
    intro vs cap w' cells K hvs _ hrun hcap hcm rest hgr
    have hrep : RepBs z ((cs ++ ys).map .d ++ List.replicate rest.length .any) (vs ++ us ++ rest) := (RepBs.ofD (hvs.append l4)).append (anys_rep rest)
    have hex : (execOp a.eval o).run P z.w = .ok (.value (.slice (some ⟨z.w.heap.size,0,none⟩) (n + m) cap)) w' := by
      obtain ⟨dst,op,type,pos,after,guard⟩ := o
      subst ho
      simp [execOp,resolve,invoke,builtin,hw,hu,hrun]
    unfold Oper.wp
    rw [hex]
    have e1 : z.st.S.length = nb + L.length := by rw [e0,← hS];exact List.length_append
    refine ⟨_,boxed z w' ((cs ++ ys).map .d ++ List.replicate rest.length .any) e,[],[],rfl,?_,box_good hg hgr hrep,box_step hg hgr,by simp,by simp,(hr.step (box_step hg hgr)).put h4 (b := .bsl (nb + L.length) (n + m)) ?_⟩
    · have e2 : (boxed z w' ((cs ++ ys).map .d ++ List.replicate rest.length .any) e).st = ⟨S ++ (L ++ [((cs ++ ys).map .d ++ List.replicate rest.length .any,e)]),T,M⟩ := by
        show (⟨z.st.S ++ [_],z.st.T,z.st.M⟩ : St) = _
        rw [e0,List.append_assoc]
      rw [e2]
      exact hq rest.length
    · have := RepB.bsl (x := boxed z w' ((cs ++ ys).map .d ++ List.replicate rest.length .any) e) (nb + L.length) (n + m) cap (by simp [boxed,e1]) hcap hcm
      rw [← e1] at this ⊢
      simpa [boxed] using this
  cases hxr with
  | tight _ _ base hcs =>
    cases hcs with
    | nil =>
      have hrn := run_append_nil (P := P) z.w t o.type e ti zz g1 g2 k3 ad m c us l1 l2 (by omega) (by omega) (by simp only [Nat.zero_add] at h1;omega)
      have hge := grownCap_ge z.w m 0 e
      have hgr := drew_grown z.w (.cells (us.toArray ++ Builtin.zeroCells zz.cells (grownCap z.w m 0 e - m)) e)
      refine fin [] (grownCap z.w m 0 e) _ [] 0 .nil (.inr trivial) (by rw [Nat.zero_add];exact hrn) (by omega) (grownCap_le_maxLen z.w m 0 e (by simpa using h2)) (Builtin.zeroCells zz.cells (grownCap z.w m 0 e - m)).toList ?_
      have e3 : (([] : List Value) ++ us ++ (Builtin.zeroCells zz.cells (grownCap z.w m 0 e - m)).toList).toArray = us.toArray ++ Builtin.zeroCells zz.cells (grownCap z.w m 0 e - m) := by simp
      rw [e3]
      exact hgr
    | emp ad0 _ hm0 =>
      have hl0 : ([] : List Value).length = 0 * ti.size := by simp
      have hrn := run_append_grow (P := P) z.w t o.type e ti zz g1 g2 k3 ad0 0 0 [] hl0 (fun j q hq => by simp at hq) ad m c us l1 l2 (by omega) (by omega) (growslice_fits (by omega) h1)
      have hge := grownCap_ge z.w (0 + m) 0 e
      have hgr := drew_grown z.w (.cells (([] : List Value).toArray ++ us.toArray ++ Builtin.zeroCells zz.cells (grownCap z.w (0 + m) 0 e - (0 + m))) e)
      refine fin [] (grownCap z.w (0 + m) 0 e) _ [] 0 .nil (.inr trivial) hrn hge (grownCap_le_maxLen z.w (0 + m) 0 e h2) (Builtin.zeroCells zz.cells (grownCap z.w (0 + m) 0 e - (0 + m))).toList ?_
      have e3 : (([] : List Value) ++ us ++ (Builtin.zeroCells zz.cells (grownCap z.w (0 + m) 0 e - (0 + m))).toList).toArray = ([] : List Value).toArray ++ us.toArray ++ Builtin.zeroCells zz.cells (grownCap z.w (0 + m) 0 e - (0 + m)) := by simp
      rw [e3]
      exact hgr
    | sl bb off _ _ _ vs a1 a2 a3 a4 a5 =>
      have hl0 : vs.length = n * ti.size := by rw [← a5.length,hl]
      have hrn := run_append_grow (P := P) z.w t o.type e ti zz g1 g2 k3 ⟨bb,off,none⟩ n n vs hl0 (fun j q hq => by rw [addr_add];exact (a4 j q hq).2) ad m c us l1 l2 (by omega) (by omega) (growslice_fits (by omega) h1)
      have hge := grownCap_ge z.w (n + m) n e
      have hgr := drew_grown z.w (.cells (vs.toArray ++ us.toArray ++ Builtin.zeroCells zz.cells (grownCap z.w (n + m) n e - (n + m))) e)
      refine fin vs (grownCap z.w (n + m) n e) _ [] 0 a5 (.inr trivial) hrn hge (grownCap_le_maxLen z.w (n + m) n e h2) (Builtin.zeroCells zz.cells (grownCap z.w (n + m) n e - (n + m))).toList ?_
      have e3 : (vs ++ us ++ (Builtin.zeroCells zz.cells (grownCap z.w (n + m) n e - (n + m))).toList).toArray = vs.toArray ++ us.toArray ++ Builtin.zeroCells zz.cells (grownCap z.w (n + m) n e - (n + m)) := by simp
      rw [e3]
      exact hgr
end
def plainD : DV → Bool
  | .flat _ => true
  | .sl [] 0 => true
  | _ => false
theorem plain_rep {x y : Full} {d : DV} {v : Value} (h : plainD d = true) (hr : RepD x d v) : RepD y d v := by
  cases hr with
  | flat v hf => exact .flat v hf
  | nil => exact .nil
  | emp a cap hm => exact .emp a cap hm
  | sl b off n cap cs vs hc hm h1 hv hs =>
    cases cs with
    | cons c cs => simp [plainD] at h
    | nil =>
      cases n with
      | succ n => simp [plainD] at h
      | zero =>
        cases hs
        exact .sl b off 0 cap [] [] hc hm h1 (fun i u hu => by simp at hu) .nil
  | agg => simp [plainD] at h
  | iface => simp [plainD] at h
  | map => simp [plainD] at h
theorem plains_rep {x y : Full} : ∀ {ds : List DV} {vs : List Value},RepDs x ds vs → ds.all plainD = true → RepDs y ds vs
  | _,_,.nil,_ => .nil
  | _,_,.cons d v l vs h1 h2,h => by
    simp only [List.all_cons,Bool.and_eq_true] at h
    exact .cons _ _ _ _ (plain_rep h.1 h1) (plains_rep h2 h.2)
def thawed (x z : Full) (g : Nat) (cs : List BV) (e : Nat) : Full :=
  ⟨⟨x.st.S ++ [(cs,e)],x.st.T,x.st.M⟩,fun i => if i = x.st.S.length then g else x.pb i,x.pt,x.pm,fun b => if b < x.w.heap.size then x.F b else 0,z.w⟩
theorem thaw_step {x z : Full} {g e : Nat} {cs : List BV} (hg : Good x) (hs : Step [] [] x z) (hT : x.st.T <+: z.st.T) (hge : x.w.heap.size ≤ g) : Step [] [] x (thawed x z g cs e) where
  os := hs.os
  tape := hs.tape
  output := hs.output
  size := hs.size
  frame := hs.frame
  keep := fun b i u hi hc => by
    have hb := cell_lt hc
    exact ⟨by simp only [thawed,if_pos hb];exact hi,(hs.keep b i u hi hc).2⟩
  slen := by simp [thawed]
  ids := fun i hi => if_neg (Nat.ne_of_lt hi)
  fresh := fun i h1 h2 => by
    simp only [thawed,List.length_append,List.length_singleton] at h2 ⊢
    rw [if_pos (by omega)]
    exact hge
  mlen := Nat.le_refl _
  mids := fun _ _ => rfl
  mfresh := fun i h1 h2 => by simp only [thawed] at h2;omega
  tags := fun t k ht => by
    obtain ⟨k',h1,h2,h3,h4⟩ := hs.tags t k ht
    have hk : k' = k := by
      obtain ⟨X,hX⟩ := hT
      rw [← hX,List.getElem?_append_left (List.getElem?_eq_some_iff.1 ht).1] at h1
      exact Option.some.inj (h1.symm.trans ht)
    exact ⟨k,ht,Nat.le_refl _,fun _ => ⟨rfl,(h3 hk).2⟩,.inl rfl⟩
  tfresh := fun t b h1 h2 => by simp only [thawed] at h2;omega
  fro := fun b hb _ => if_pos hb
theorem thaw_good {x z : Full} {g e : Nat} {cs : List BV} {vs : List Value} (hg : Good x) (hs : Step [] [] x z) (hT : x.st.T <+: z.st.T) (hge : x.w.heap.size ≤ g) (hb : z.w.heap[g]? = some (.cells vs.toArray e (0,0))) (hr : ∀ y,RepBs y cs vs) : Good (thawed x z g cs e) := by
  have hst := thaw_step (cs := cs) (e := e) hg hs hT hge
  have hsame := hs.same hg
  constructor
  · intro id cs' t' hid
    simp only [thawed,List.getElem?_append] at hid
    split at hid
    · rename_i hlt
      obtain ⟨us,h1,h2,h3⟩ := hg.box id cs' t' hid
      have hbl := hg.box_lt hlt
      refine ⟨us,?_,h2.mono hst,?_⟩
      · simp only [thawed,if_neg (Nat.ne_of_lt hlt)]
        exact (hsame.box id hlt (by simp)).trans h1
      · simp only [thawed,if_neg (Nat.ne_of_lt hlt),if_pos hbl]
        exact h3
    · rename_i hlt
      have hid0 : id = x.st.S.length := by
        have := (List.getElem?_eq_some_iff.1 hid).1
        simp at this
        omega
      subst hid0
      simp only [Nat.sub_self,List.getElem?_cons_zero,Option.some.injEq,Prod.mk.injEq] at hid
      obtain ⟨rfl,rfl⟩ := hid
      refine ⟨vs,?_,hr _,?_⟩
      · simp only [thawed,if_pos]
        exact hb
      · simp only [thawed,if_pos]
        rw [if_neg (by omega)]
  · intro i j hi hj e
    simp only [thawed,List.length_append,List.length_singleton] at hi hj e
    split at e <;> split at e
    · omega
    · have := hg.box_lt (show j < x.st.S.length by omega)
      omega
    · have := hg.box_lt (show i < x.st.S.length by omega)
      omega
    · exact hg.inj i j (by omega) (by omega) e
  · intro u k b hu hb'
    obtain ⟨h1,h2,h3,h4⟩ := hg.tag u k b hu hb'
    refine ⟨Nat.lt_of_lt_of_le h1 hs.size,?_,fun i hi => ?_,h4⟩
    · simp only [thawed,if_pos h1]
      exact h2
    · simp only [thawed,List.length_append,List.length_singleton] at hi ⊢
      split
      · omega
      · exact h3 i (by omega)
  · intro id es hid
    obtain ⟨us,c,h1,h2,h3⟩ := hg.map id es hid
    have hil := (List.getElem?_eq_some_iff.1 hid).1
    refine ⟨us,c,?_,h2,fun i e k y he hk => ?_⟩
    · refine (hs.frame _ (hg.map_lt hil) (fun i hi => by cases hi) (fun i hi => by cases hi) (fun t ht he => ?_)).trans h1
      exact hg.tmap t _ id ht he hil rfl
    · obtain ⟨h4,h5⟩ := h3 i e k y he hk
      exact ⟨h4,h5.mono hst.le⟩
  · exact hg.mapinj
  · exact hg.tmap
theorem call_thaw {P : Program} {f : Nat} {ars : List BV} {S : List (List BV × Nat)} {T : List Nat} {M : List (List (Value × DV))} {e sz : Nat} {R : List DV → Nat → Prop}
    (h : CallT P [] [] f ars ⟨S,T,M⟩ (fun r s => ∃ tg cs n,T <+: s.T ∧ T.length ≤ tg ∧ r = .own e sz tg cs n ∧ s.T[tg]? = some cs.length ∧ 0 < n ∧ cs.all plainD = true ∧ R cs n)) :
    CallT P [] [] f ars ⟨S,T,M⟩ (fun r s => ∃ cs n N,R cs n ∧ r = .bsl S.length n ∧ s = ⟨S ++ [(cs.map .d ++ List.replicate N .any,e)],T,M⟩) := by
  intro x vs hx hg ha
  refine (h x vs hx hg ha).mono fun ex w' ⟨r,v,z,e1,⟨tg,cs,n,hT,htg,hr,hk,hn,hp,hR⟩,hrep,hgz,hs,hw⟩ => ?_
  subst hr
  have hxS : x.st.S = S := by rw [hx]
  have hxT : x.st.T = T := by rw [hx]
  have hxM : x.st.M = M := by rw [hx]
  cases hrep with
  | own _ _ _ _ _ k _ hd hk' hle ho =>
    have hkk : k = cs.length := Option.some.inj (hk'.symm.trans hk)
    rcases ho hkk with ⟨o1,us,o2,o3⟩ | ⟨_,_,o,_⟩
    case inr => omega
    obtain ⟨q1,q2⟩ := o2
    rcases q2 with ⟨_,q⟩ | ⟨g,cap,cur,rfl,_,hgg,hnc,hcm,hcs,htk⟩
    · omega
    have hptg : z.pt tg = some g := by rw [← o1];rfl
    have hfr := hs.tfresh tg g (by rw [hxT];exact htg) (List.getElem?_eq_some_iff.1 hk).1 hptg
    have hcur : cur = (us ++ cur.toList.drop (n * sz)).toArray := by
      rw [← htk,List.take_append_drop]
    have hrs : ∀ y,RepBs y (cs.map .d ++ List.replicate (cur.toList.drop (n * sz)).length .any) (us ++ cur.toList.drop (n * sz)) := fun y => (RepBs.ofD (plains_rep o3 hp)).append (anys_rep _)
    rw [hcur] at hgg
    have hT' : x.st.T <+: z.st.T := by rw [hxT];exact hT
    refine ⟨.bsl S.length n,_,thawed x z g (cs.map .d ++ List.replicate (cur.toList.drop (n * sz)).length .any) e,e1,⟨cs,n,(cur.toList.drop (n * sz)).length,hR,rfl,?_⟩,?_,thaw_good hg hs hT' hfr hgg hrs,thaw_step hg hs hT' hfr,hw⟩
    · simp only [thawed,hxS,hxT,hxM]
    · have := RepB.bsl (x := thawed x z g (cs.map .d ++ List.replicate (cur.toList.drop (n * sz)).length .any) e) S.length n cap (by simp [thawed,hxS]) hnc hcm
      simpa [thawed,hxS] using this
end Go.Proofs.YtokilnhpepbjlaaGreat.Calc
namespace Go.Proofs.YtokilnhpepbjlaaGreat.Calc
open Go Go.RowKit
set_option linter.unusedVariables false
-- What a value is,if the boxes behind nb are read as rows.
mutual
inductive Lent (nb : Nat) (L : List (List BV × Nat)) : BV → DV → Prop where
  | d (x : DV) : Lent nb L (.d x) x
  | own (e sz t : Nat) (cs : List DV) (n : Nat) : Lent nb L (.own e sz t cs n) (.sl cs n)
  | tight (cs : List DV) (n : Nat) : Lent nb L (.tight cs n) (.sl cs n)
  | bsl (k n ty : Nat) (cs rest : List BV) (ds : List DV) (hk : L[k]? = some (cs ++ rest,ty)) (h : Lents nb L cs ds) (h1 : ds.all oneD = true) : Lent nb L (.bsl (nb + k) n) (.sl ds n)
inductive Lents (nb : Nat) (L : List (List BV × Nat)) : List BV → List DV → Prop where
  | nil : Lents nb L [] []
  | cons (b : BV) (d : DV) (bs : List BV) (ds : List DV) (h : Lent nb L b d) (hs : Lents nb L bs ds) : Lents nb L (b :: bs) (d :: ds)
end
inductive LentA (nb : Nat) (L : List (List BV × Nat)) : BV → BV → Prop where
  | d (b : BV) (x : DV) (h : Lent nb L b x) : LentA nb L b (.d x)
  | agg (bs : List BV) (ds : List DV) (h : Lents nb L bs ds) : LentA nb L (.agg bs) (.agg (ds.map .d))
inductive LentAs (nb : Nat) (L : List (List BV × Nat)) : List BV → List BV → Prop where
  | nil : LentAs nb L [] []
  | cons (b c : BV) (bs cs : List BV) (h : LentA nb L b c) (hs : LentAs nb L bs cs) : LentAs nb L (b :: bs) (c :: cs)
-- Only boxes below nb.
mutual
def idB (nb : Nat) : BV → Bool
  | .ptr id _ => Nat.blt id nb
  | .bsl id _ => Nat.blt id nb
  | .agg l => idBs nb l
  | .fn _ l => idBs nb l
  | .tup l => idBs nb l
  | .d _ => true
  | .own _ _ _ _ _ => true
  | .tight _ _ => true
  | .eptr _ => true
  | .any => true
def idBs (nb : Nat) : List BV → Bool
  | [] => true
  | b :: l => idB nb b && idBs nb l
end
mutual
theorem idB_rep {z : Full} : ∀ {b : BV} {v : Value},RepB z b v → idB z.st.S.length b = true
  | _,_,.d y v hr => by rw [idB]
  | _,_,.agg l vs hr => by rw [idB];exact idBs_rep hr
  | _,_,.own e sz t cs n k v hr hk hle ho => by rw [idB]
  | _,_,.tight cs n base hr => by rw [idB]
  | _,_,.ptr id off hl => by rw [idB];exact Nat.ble_eq_true_of_le hl
  | _,_,.eptr b off cs vs hv hr => by rw [idB]
  | _,_,.fn f cap vs hr => by rw [idB];exact idBs_rep hr
  | _,_,.tup l vs hr => by rw [idB];exact idBs_rep hr
  | _,_,.bsl id n cap hl hc hm => by rw [idB];exact Nat.ble_eq_true_of_le hl
  | _,_,.any v => by rw [idB]
theorem idBs_rep {z : Full} : ∀ {l : List BV} {vs : List Value},RepBs z l vs → idBs z.st.S.length l = true
  | _,_,.nil => rfl
  | _,_,.cons y v l vs h1 h2 => by rw [idBs,idB_rep h1,idBs_rep h2];rfl
end
-- A value that does not lean on what stays.
mutual
def plainB : BV → Bool
  | .d x => plainD x
  | .agg l => plainBs l
  | .tup l => plainBs l
  | _ => false
def plainBs : List BV → Bool
  | [] => true
  | b :: l => plainB b && plainBs l
end
mutual
theorem plainB_rep {x y : Full} : ∀ {b : BV} {v : Value},plainB b = true → RepB x b v → RepB y b v
  | .d z,v,hp,hr => by
    rw [plainB] at hp
    cases hr with
    | d _ _ h => exact .d _ _ (plain_rep hp h)
  | .agg l,v,hp,hr => by
    rw [plainB] at hp
    cases hr with
    | agg _ vs h => exact .agg _ _ (plainBs_rep hp h)
  | .tup l,v,hp,hr => by
    rw [plainB] at hp
    cases hr with
    | tup _ vs h => exact .tup _ _ (plainBs_rep hp h)
  | .own ..,v,hp,hr => by simp [plainB] at hp
  | .tight ..,v,hp,hr => by simp [plainB] at hp
  | .ptr ..,v,hp,hr => by simp [plainB] at hp
  | .eptr ..,v,hp,hr => by simp [plainB] at hp
  | .fn ..,v,hp,hr => by simp [plainB] at hp
  | .bsl ..,v,hp,hr => by simp [plainB] at hp
  | .any,v,hp,hr => by simp [plainB] at hp
theorem plainBs_rep {x y : Full} : ∀ {l : List BV} {vs : List Value},plainBs l = true → RepBs x l vs → RepBs y l vs
  | [],vs,hp,hr => by
    cases hr
    exact .nil
  | b :: l,vs,hp,hr => by
    rw [plainBs,Bool.and_eq_true] at hp
    cases hr with
    | cons _ v _ vs h1 h2 => exact .cons _ _ _ _ (plainB_rep hp.1 h1) (plainBs_rep hp.2 h2)
end
def isLent (x : Full) (nb m b : Nat) : Bool := (List.range m).any fun k => x.pb (nb + k) == b
theorem isLent_iff {x : Full} {nb m b : Nat} : isLent x nb m b = true ↔ ∃ k,k < m ∧ x.pb (nb + k) = b := by
  simp [isLent]
def cellsN (w : World) (b : Nat) : Nat := match w.heap[b]? with
  | some (.cells c _ _) => c.size
  | _ => 0
def lent (x : Full) (S : List (List BV × Nat)) (m : Nat) : Full := ⟨⟨S,x.st.T,x.st.M⟩,x.pb,x.pt,x.pm,fun b => if isLent x S.length m b = true then cellsN x.w b else x.F b,x.w⟩
section
variable {x : Full} {S L : List (List BV × Nat)} {T : List Nat} {M : List (List (Value × DV))}
theorem lent_le (hg : Good x) (hx : x.st = ⟨S ++ L,T,M⟩) : Le x (lent x S L.length) := by
  refine ⟨fun b i u hi hc => ⟨?_,hc⟩,fun i hi => ⟨hi,rfl⟩⟩
  simp only [lent]
  split
  · rename_i h
    obtain ⟨k,hk,rfl⟩ := isLent_iff.1 h
    obtain ⟨_,_,_,h3⟩ := hg.box (S.length + k) _ _ (List.getElem?_eq_getElem (by rw [hx];simp;omega))
    omega
  · exact hi
mutual
theorem lent_rep (hg : Good x) (hx : x.st = ⟨S ++ L,T,M⟩) : ∀ {b : BV} {d : DV},Lent S.length L b d → ∀ {v : Value},RepB x b v → RepD (lent x S L.length) d v
  | _,_,.d y,v,hr => by
    cases hr with
    | d _ _ h => exact h.mono (lent_le hg hx)
  | _,_,.own e sz t cs n,v,hr => by
    cases hr with
    | own _ _ _ _ _ k _ h => exact h.mono (lent_le hg hx)
  | _,_,.tight cs n,v,hr => by
    cases hr with
    | tight _ _ base h => exact h.mono (lent_le hg hx)
  | _,_,.bsl k n ty cs rest ds hk h h1,v,hr => by
    cases hr with
    | bsl _ _ cap hid hc hm =>
      have hkl := (List.getElem?_eq_some_iff.1 hk).1
      have hS : x.st.S[S.length + k]? = some (cs ++ rest,ty) := by
        rw [hx]
        show (S ++ L)[S.length + k]? = _
        rw [List.getElem?_append_right (by omega),Nat.add_sub_cancel_left]
        exact hk
      obtain ⟨vs,q1,q2,q3⟩ := hg.box _ _ _ hS
      have q4 := RepBs.take q2 cs.length
      rw [List.take_left] at q4
      have q5 := lents_rep hg hx h q4
      refine .sl _ 0 n cap ds (vs.take cs.length) hc (Nat.le_trans hc hm) h1 (fun i u hu => ?_) q5
      have hu' : vs[i]? = some u := by
        rw [List.getElem?_take] at hu
        split at hu
        · exact hu
        · cases hu
      have hil := (List.getElem?_eq_some_iff.1 hu').1
      refine ⟨?_,?_⟩
      · simp only [lent]
        rw [if_pos (isLent_iff.2 ⟨k,hkl,rfl⟩)]
        simp only [cellsN,q1,List.size_toArray]
        omega
      · show x.w.cell? _ = _
        simp [World.cell?,q1,hu']
theorem lents_rep (hg : Good x) (hx : x.st = ⟨S ++ L,T,M⟩) : ∀ {bs : List BV} {ds : List DV},Lents S.length L bs ds → ∀ {vs : List Value},RepBs x bs vs → RepDs (lent x S L.length) ds vs
  | _,_,.nil,vs,hr => by
    cases hr
    exact .nil
  | _,_,.cons b d bs ds h hs,vs,hr => by
    cases hr with
    | cons _ v _ vs h1 h2 => exact .cons _ _ _ _ (lent_rep hg hx h h1) (lents_rep hg hx hs h2)
end
theorem lentA_rep (hg : Good x) (hx : x.st = ⟨S ++ L,T,M⟩) {b c : BV} (h : LentA S.length L b c) {v : Value} (hr : RepB x b v) : RepB (lent x S L.length) c v := by
  cases h with
  | d _ y h => exact .d _ _ (lent_rep hg hx h hr)
  | agg bs ds h =>
    cases hr with
    | agg _ vs hs => exact .agg _ _ (RepBs.ofD (lents_rep hg hx h hs))
theorem lentAs_rep (hg : Good x) (hx : x.st = ⟨S ++ L,T,M⟩) : ∀ {bs cs : List BV},LentAs S.length L bs cs → ∀ {vs : List Value},RepBs x bs vs → RepBs (lent x S L.length) cs vs
  | _,_,.nil,vs,hr => by
    cases hr
    exact .nil
  | _,_,.cons b c bs cs h hs,vs,hr => by
    cases hr with
    | cons _ v _ vs h1 h2 => exact .cons _ _ _ _ (lentA_rep hg hx h h1) (lentAs_rep hg hx hs h2)
mutual
theorem lentB_rep (hg : Good x) (hx : x.st = ⟨S ++ L,T,M⟩) : ∀ {b : BV} {v : Value},RepB x b v → idB S.length b = true → RepB (lent x S L.length) b v
  | _,_,.d y v h,_ => .d y v (h.mono (lent_le hg hx))
  | _,_,.agg l vs h,hi => by
    rw [idB] at hi
    exact .agg l vs (lentBs_rep hg hx h hi)
  | _,_,.own e sz t cs n k v h hk hle ho,_ => .own e sz t cs n k v (h.mono (lent_le hg hx)) hk hle (fun e1 => by
    rcases ho e1 with ⟨a1,vs,a2,a3⟩ | a
    · exact .inl ⟨a1,vs,a2,a3.mono (lent_le hg hx)⟩
    · exact .inr a)
  | _,_,.tight cs n base h,_ => .tight cs n base (h.mono (lent_le hg hx))
  | _,_,.ptr id off h,hi => by
    rw [idB] at hi
    exact .ptr id off (Nat.le_of_ble_eq_true hi)
  | _,_,.eptr b off cs vs hv h,_ => .eptr b off cs vs (fun i u hu => (lent_le hg hx).keep b (off + i) u (hv i u hu).1 (hv i u hu).2) (h.mono (lent_le hg hx))
  | _,_,.fn f cap vs h,hi => by
    rw [idB] at hi
    exact .fn f cap vs (lentBs_rep hg hx h hi)
  | _,_,.tup l vs h,hi => by
    rw [idB] at hi
    exact .tup l vs (lentBs_rep hg hx h hi)
  | _,_,.bsl id n cap h hc hm,hi => by
    rw [idB] at hi
    exact .bsl id n cap (Nat.le_of_ble_eq_true hi) hc hm
  | _,_,.any v,_ => .any v
theorem lentBs_rep (hg : Good x) (hx : x.st = ⟨S ++ L,T,M⟩) : ∀ {l : List BV} {vs : List Value},RepBs x l vs → idBs S.length l = true → RepBs (lent x S L.length) l vs
  | _,_,.nil,_ => .nil
  | _,_,.cons y v l vs h hs,hi => by
    rw [idBs,Bool.and_eq_true] at hi
    exact .cons y v l vs (lentB_rep hg hx h hi.1) (lentBs_rep hg hx hs hi.2)
end
theorem lent_good (hg : Good x) (hx : x.st = ⟨S ++ L,T,M⟩) (hS : ∀ c ∈ S,idBs S.length c.1 = true) : Good (lent x S L.length) := by
  have hSl : x.st.S.length = S.length + L.length := by rw [hx];exact List.length_append
  have hnl : ∀ i,i < S.length → isLent x S.length L.length (x.pb i) = false := fun i hi => by
    rw [Bool.eq_false_iff]
    intro h
    obtain ⟨k,hk,e⟩ := isLent_iff.1 h
    have := hg.inj (S.length + k) i (by omega) (by omega) e
    omega
  constructor
  · intro id cs t hid
    have hlt : id < S.length := (List.getElem?_eq_some_iff.1 hid).1
    have hid0 : S[id]? = some (cs,t) := hid
    have hid' : x.st.S[id]? = some (cs,t) := by
      rw [hx]
      show (S ++ L)[id]? = _
      rw [List.getElem?_append_left hlt]
      exact hid0
    obtain ⟨vs,q1,q2,q3⟩ := hg.box _ _ _ hid'
    refine ⟨vs,q1,lentBs_rep hg hx q2 (hS _ (List.mem_of_getElem? hid0)),?_⟩
    simp only [lent,hnl id hlt]
    exact q3
  · intro i j hi hj e
    exact hg.inj i j (by rw [hSl];exact Nat.lt_of_lt_of_le hi (Nat.le_add_right _ _)) (by rw [hSl];exact Nat.lt_of_lt_of_le hj (Nat.le_add_right _ _)) e
  · intro u k b hu hb
    obtain ⟨h1,h2,h3,h4⟩ := hg.tag u k b hu hb
    refine ⟨h1,?_,fun i hi => h3 i (by rw [hSl];exact Nat.lt_of_lt_of_le hi (Nat.le_add_right _ _)),h4⟩
    simp only [lent]
    rw [if_neg]
    · exact h2
    · intro h
      obtain ⟨k',hk',e⟩ := isLent_iff.1 h
      exact h3 (S.length + k') (by omega) e
  · intro id es hid
    obtain ⟨us,c,h1,h2,h3⟩ := hg.map id es hid
    exact ⟨us,c,h1,h2,fun i e k y he hk => ⟨(h3 i e k y he hk).1,(h3 i e k y he hk).2.mono (lent_le hg hx)⟩⟩
  · exact hg.mapinj
  · exact hg.tmap
def back (x z : Full) : Full := ⟨x.st,x.pb,x.pt,x.pm,x.F,z.w⟩
theorem back_step (hg : Good x) (hx : x.st = ⟨S ++ L,T,M⟩) {z : Full} (hs : Step [] [] (lent x S L.length) z) (hz : z.st.T = T) : Step [] [] x (back x z) where
  os := hs.os
  tape := hs.tape
  output := hs.output
  size := hs.size
  frame := fun b hb _ _ h3 => hs.frame b hb (fun i hi => by cases hi) (fun i hi => by cases hi) h3
  keep := fun b i u hi hc => ⟨hi,(hs.keep b i u ((lent_le hg hx).keep b i u hi hc).1 hc).2⟩
  slen := Nat.le_refl _
  ids := fun _ _ => rfl
  fresh := fun i h1 h2 => by simp only [back] at h2;omega
  mlen := Nat.le_refl _
  mids := fun _ _ => rfl
  mfresh := fun i h1 h2 => by simp only [back] at h2;omega
  tags := fun t k ht => by
    obtain ⟨k',h1,h2,h3,h4⟩ := hs.tags t k ht
    have hk : k' = k := by
      have e : x.st.T = T := by rw [hx]
      rw [hz,← e,ht] at h1
      exact (Option.some.inj h1).symm
    exact ⟨k,ht,Nat.le_refl _,fun _ => ⟨rfl,(h3 hk).2⟩,.inl rfl⟩
  tfresh := fun t b h1 h2 => by simp only [back] at h2;omega
  fro := fun _ _ _ => rfl
theorem back_good (hg : Good x) (hx : x.st = ⟨S ++ L,T,M⟩) {z : Full} (hs : Step [] [] (lent x S L.length) z) (hz : z.st.T = T) : Good (back x z) := by
  have hst := back_step hg hx hs hz
  have hsame := hst.same hg
  constructor
  · intro id cs t hid
    obtain ⟨vs,q1,q2,q3⟩ := hg.box id cs t hid
    exact ⟨vs,(hsame.box id (List.getElem?_eq_some_iff.1 hid).1 (by simp)).trans q1,q2.mono hst,q3⟩
  · exact hg.inj
  · intro u k b hu hb
    obtain ⟨h1,h2,h3,h4⟩ := hg.tag u k b hu hb
    exact ⟨Nat.lt_of_lt_of_le h1 hs.size,h2,h3,h4⟩
  · intro id es hid
    obtain ⟨us,c,h1,h2,h3⟩ := hg.map id es hid
    have hil := (List.getElem?_eq_some_iff.1 hid).1
    refine ⟨us,c,?_,h2,fun i e k y he hk => ⟨(h3 i e k y he hk).1,(h3 i e k y he hk).2.mono hst.le⟩⟩
    refine (hst.frame _ (hg.map_lt hil) (fun i hi => by cases hi) (fun i hi => by cases hi) (fun t ht he => ?_)).trans h1
    exact hg.tmap t _ id ht he hil rfl
  · exact hg.mapinj
  · exact hg.tmap
end
theorem call_lend {P : Program} {f : Nat} {ars ars' : List BV} {S L : List (List BV × Nat)} {T : List Nat} {M : List (List (Value × DV))} {R : BV → Prop} (hS : ∀ c ∈ S,idBs S.length c.1 = true) (ha : LentAs S.length L ars ars') (hR : ∀ r,R r → plainB r = true)
    (h : CallT P [] [] f ars' ⟨S,T,M⟩ (fun r s => s = ⟨S,T,M⟩ ∧ R r)) : CallT P [] [] f ars ⟨S ++ L,T,M⟩ (fun r s => s = ⟨S ++ L,T,M⟩ ∧ R r) := by
  intro x vs hx hg har
  have hxT : x.st.T = T := by rw [hx]
  have hxM : x.st.M = M := by rw [hx]
  refine (h (lent x S L.length) vs (by simp only [lent,hxT,hxM]) (lent_good hg hx hS) (lentAs_rep hg hx ha har)).mono fun ex w' ⟨r,v,z,e1,⟨hz,hr⟩,hrep,hgz,hs,hw⟩ => ?_
  have hzT : z.st.T = T := by rw [hz]
  exact ⟨r,v,back x z,e1,⟨hx,hr⟩,plainB_rep (hR r hr) hrep,back_good hg hx hs hzT,back_step hg hx hs hzT,hw⟩
theorem call_ids {P : Program} {Wr Wm : List Nat} {f : Nat} {ars : List BV} {S : List (List BV × Nat)} {T : List Nat} {M : List (List (Value × DV))} {Q : BV → St → Prop} (h : (∀ c ∈ S,idBs S.length c.1 = true) → CallT P Wr Wm f ars ⟨S,T,M⟩ Q) : CallT P Wr Wm f ars ⟨S,T,M⟩ Q :=
  call_fact (∀ c ∈ S,idBs S.length c.1 = true) (fun x vs hx hg _ c hc => by
    obtain ⟨i,hi⟩ := List.getElem?_of_mem hc
    have hxS : x.st.S = S := by rw [hx]
    obtain ⟨us,q1,q2,q3⟩ := hg.box i c.1 c.2 (by rw [hxS];exact hi)
    have := idBs_rep q2
    rw [hxS] at this
    exact this) h
end Go.Proofs.YtokilnhpepbjlaaGreat.Calc
namespace Go.Proofs.YtokilnhpepbjlaaGreat
open Go Go.RowKit Go.Proofs.YtokilnhpepbjlaaGreat.Calc
set_option linter.unusedVariables false
set_option linter.unusedSimpArgs false
set_option maxRecDepth 100000
set_option maxHeartbeats 8000000
abbrev vTg (o : ByteArray) (n : Int) : BV := .agg [.d (dS o),.d (dI n)]
abbrev vFe (f : Fi) : BV := .agg ((encFi f).map .d)
def seekL (p : List Cl) (n : ByteArray) : List ByteArray → ByteArray × Int × Bool
  | [] => (⟨#[]⟩,0,false)
  | c :: l => if 0 ≤ ownF p c n then (c,ownF p c n,true) else seekL p n l
def vSk (r : ByteArray × Int × Bool) : BV := .tup [vTg r.1 r.2.1,vB r.2.2]
def hidL (p : List Cl) (n : ByteArray) (l : List ByteArray) : Bool := l.any fun c => decide (0 ≤ ownF p c n)
theorem seek_drop {p : List Cl} {n : ByteArray} {l : List ByteArray} {k : Nat} {c : ByteArray} (h : l[k]? = some c) : seekL p n (l.drop k) = if 0 ≤ ownF p c n then (c,ownF p c n,true) else seekL p n (l.drop (k + 1)) := by
  obtain ⟨hk,e⟩ := List.getElem?_eq_some_iff.1 h
  rw [List.drop_eq_getElem_cons hk,seekL,e]
theorem vSk_of {r : ByteArray × Int × Bool} {o : ByteArray} {n : Int} {b : Bool} (h : r = (o,n,b)) : (.tup [vTg o n,vB b] : BV) = vSk r := by rw [h];rfl
theorem E_slc7 {P : Program} {st : St} {ρ : Rg} {x : Operand} {t e : Nat} {c : ByteArray} {l : List ByteArray} {lo : Operand} (he : elOf P t = some (e,1)) (hx : evB ρ x = some (.d (encL encStr (c :: l)))) (hl : bndB ρ (some lo) 0 = some 1) :
    stepV P st ρ (.slice t x (some lo) none none) = some (.d (encL encStr l)) := by
  rw [E_slr (l := 1) (h := l.length + 1) (cs := (c :: l).flatMap encStr) (n := l.length + 1) he hx rfl (by intro v h;cases h) hl rfl (by omega) (Nat.le_refl _)]
  have e1 : (l.flatMap encStr).length = l.length := by rw [flatMap_len (k := 1) (fun _ => rfl),Nat.mul_one]
  have e2 : ((c :: l).flatMap encStr).drop (1 * 1) = l.flatMap encStr := rfl
  rw [e2,Nat.add_sub_cancel,Nat.mul_one,List.take_of_length_le (Nat.le_of_eq e1)]
attribute [local irreducible] Tri TriL TriP CallT stepV stepW thenQ inQ endQ
theorem sp20 (p : List Cl) (a n : ByteArray) (hp : Small p) : PC 20 [vP p,vS a,vS n] (fun r => r = vSk (seekL p n (chC p a))) := by
  have h29 := sp29 p a hp.1
  have hcl := ch_len p a
  have hpl := hp.1
  generalize chC p a = l at *
  intro S T M
  refine callT_go [] [] Tryz.func20 rfl Tryz.ntmps20 Tryz.results20 ?_
  repeat' (first | apply triL_nil | (apply V;rfl;(first | (apply E_mv;rfl) | (apply E_as;rfl) | (apply E_lda;(apply tyT;rfl);rfl;(apply at_;rfl;rfl);rfl) | (apply E_len;(apply elT;rfl);rfl;rfl))) | (apply Vp;rfl;rfl;apply fnT;rfl;apply h29;rintro _ rfl) | (apply Vw;rfl;(first | (apply W_alL;rfl;(apply tyT;rfl)) | (apply W_bxL;rfl;rfl;rfl))) | (apply s_region;rfl) | apply tri_seq | apply tri_block)
  refine tri_fix (fun k : Nat => l.length - k) (fun k => [(2,vS n),(3,.ptr (S.length + 0) 0),(6,.ptr (S.length + 1) 0),(13,.d (encL encStr l)),(14,vI l.length),(15,vI k)]) (fun k => k ≤ l.length ∧ seekL p n (l.drop k) = seekL p n l) 0 ⟨Nat.zero_le _,by rw [List.drop_zero]⟩ ⟨rfl,rfl,rfl,rfl,rfl,rfl,trivial⟩ ?_
  rintro k ⟨hk,he⟩
  repeat' (first | apply triL_nil | (apply V;rfl;(first | (apply E_as;rfl) | (apply E_bd;(apply plT;rfl);rfl))) | (apply Vd;rfl;(apply E_lss;rfl;rfl);all_goals intro h_) | (apply Vs;rfl;(apply W_stL;rfl;(apply tyT;rfl);rfl;rfl;rfl;(first | apply okC_new | (apply okC_ge;omega));rfl;rfl;(first | decide | (apply Nat.le_of_ble_eq_true;rfl)))) | (apply s_region;rfl) | apply tri_seq | apply tri_block | apply tri_skip | apply tri_exit | apply tri_ret | (apply tri_condT;rfl) | (apply tri_condF;rfl) | (apply end_q _ (.inr rfl);(exact List.prefix_append _ _);(focus repeat (first | apply R_nil | (apply R_tmp;rfl) | (apply R_cell;rfl;rfl;apply tyT;rfl;rfl;rfl)));rfl) | apply p_then | apply p_in | apply p_thenE)
  · obtain ⟨c,hc⟩ : ∃ c,l[k]? = some c := ⟨_,List.getElem?_eq_getElem (by omega)⟩
    have h21 := sp21 p c n hp
    rw [seek_drop hc] at he
    repeat' (first | apply triL_nil | (apply V;rfl;(first | (apply E_mv;rfl) | (apply E_as;rfl) | (apply E_lda;(apply tyT;rfl);rfl;(apply at_;rfl;rfl);rfl) | (apply E_le;(apply tyT;rfl);rfl;rfl) | (apply E_bd;(apply plT;rfl);rfl) | (apply E_add64;rfl;rfl;rfl;omega) | (apply E_ial (c := c);apply elT;rfl;rfl;rfl;rfl;exact (fun _ => rfl);omega;simpa using hc))) | (apply Vp;rfl;rfl;apply fnT;rfl;apply h21;rintro _ rfl) | (apply Vd;rfl;(apply E_geq;rfl;rfl);all_goals intro h_) | (apply Vs;rfl;(apply W_stL;rfl;(apply tyT;rfl);rfl;rfl;rfl;(first | apply okC_new | (apply okC_ge;omega));rfl;rfl;(first | decide | (apply Nat.le_of_ble_eq_true;rfl)))) | (apply s_region;rfl) | (apply tri_region;rfl) | apply tri_skip | apply tri_ret | (apply tri_condT;rfl) | (apply tri_condF;rfl) | (apply end_q _ (.inr rfl);(exact List.prefix_append _ _);(focus repeat (first | apply R_nil | (apply R_tmp;rfl) | (apply R_cell;rfl;rfl;apply tyT;rfl;rfl;rfl)));rfl) | apply p_then | apply p_inN | apply p_inR | apply p_thenR)
    · rw [if_pos (by assumption)] at he
      exact vSk_of he.symm
    · rw [if_neg (by assumption)] at he
      exact ⟨k + 1,by omega,⟨by omega,he⟩,⟨rfl,rfl,rfl,rfl,rfl,vI_of (by omega),trivial⟩,rfl⟩
  · rw [List.drop_of_length_le (by omega)] at he
    exact vSk_of he.symm
theorem sp7 (p : List Cl) (a n : ByteArray) (hp : Small p) (hg : (checkC p).1 = 0) : PC 7 [vP p,vS a,vS n] (fun r => r = vSk (seekL p n (chC p a))) := by
  have h19 := sp19 p hp.1
  rw [hg] at h19
  have h20 := sp20 p a n hp
  unfold vSk at *
  generalize seekL p n (chC p a) = r at *
  intro S T M
  refine callT_go [] [] Tryz.func7 rfl Tryz.ntmps7 Tryz.results7 ?_
  repeat' (first | apply triL_nil | (apply V;rfl;(first | (apply E_mv;rfl) | (apply E_as;rfl) | (apply E_lda;(apply tyT;rfl);rfl;(apply at_;rfl;rfl);rfl) | (apply E_ex;rfl;rfl) | (apply E_not;rfl))) | (apply Vp;rfl;rfl;apply fnT;rfl;apply h19;rintro _ rfl) | (apply Vp;rfl;rfl;apply fnT;rfl;apply h20;rintro _ rfl) | (apply Vw;rfl;(first | (apply W_alL;rfl;(apply tyT;rfl)) | (apply W_bxL;rfl;rfl;rfl))) | (apply Vs;rfl;(apply W_stL;rfl;(apply tyT;rfl);rfl;rfl;rfl;(first | apply okC_new | (apply okC_ge;omega));rfl;rfl;(first | decide | (apply Nat.le_of_ble_eq_true;rfl)))) | (apply s_region;rfl) | apply tri_seq | apply tri_skip | apply tri_ret | (apply tri_condF;rfl) | (apply end_q _ (.inr rfl);(exact List.prefix_append _ _);(focus repeat (first | apply R_nil | (apply R_tmp;rfl) | (apply R_cell;rfl;rfl;apply tyT;rfl;rfl;rfl)));rfl) | apply p_then)
  rfl
theorem sp8 (p : List Cl) (a n : ByteArray) (hp : Small p) : PC 8 [vP p,vS a,vS n] (fun r => r = vI (if (checkC p).1 = 0 then ownF p a n else -1)) := by
  have h19 := sp19 p hp.1
  have h21 := sp21 p a n hp
  by_cases hg : (checkC p).1 = 0
  · rw [hg] at h19 ⊢
    rw [if_pos rfl]
    intro S T M
    refine callT_go [] [] Tryz.func8 rfl Tryz.ntmps8 Tryz.results8 ?_
    repeat' (first | apply triL_nil | (apply V;rfl;(first | (apply E_mv;rfl) | (apply E_as;rfl) | (apply E_lda;(apply tyT;rfl);rfl;(apply at_;rfl;rfl);rfl) | (apply E_not;rfl))) | (apply Vp;rfl;rfl;apply fnT;rfl;apply h19;rintro _ rfl) | (apply Vp;rfl;rfl;apply fnT;rfl;apply h21;rintro _ rfl) | (apply Vw;rfl;(apply W_bxL;rfl;rfl;rfl)) | (apply s_region;rfl) | apply tri_seq | apply tri_skip | apply tri_ret | (apply tri_condF;rfl) | (apply end_q _ (.inr rfl);(exact List.prefix_append _ _);(focus repeat (first | apply R_nil | (apply R_tmp;rfl)));rfl) | apply p_then)
    rfl
  · rw [decide_eq_false hg] at h19
    rw [if_neg hg]
    intro S T M
    refine callT_go [] [] Tryz.func8 rfl Tryz.ntmps8 Tryz.results8 ?_
    repeat' (first | apply triL_nil | (apply V;rfl;(first | (apply E_as;rfl) | (apply E_lda;(apply tyT;rfl);rfl;(apply at_;rfl;rfl);rfl) | (apply E_not;rfl))) | (apply Vp;rfl;rfl;apply fnT;rfl;apply h19;rintro _ rfl) | (apply Vw;rfl;(apply W_bxL;rfl;rfl;rfl)) | (apply s_region;rfl) | apply tri_seq | apply tri_ret | (apply tri_condT;rfl) | (apply end_q _ (.inr rfl);(exact List.prefix_append _ _);(focus repeat (first | apply R_nil | (apply R_tmp;rfl)));rfl) | apply p_thenR)
    rfl
theorem sp24 (p : List Cl) (o : ByteArray) (n : Int) (f : Fi) (hp : Small p) (h0 : 0 ≤ n) (hf : (classC p o).fields[n.toNat]? = some f) : PC 24 [vP p,vTg o n] (fun r => r = .tup [vFe f,vB true]) := by
  have h31 := sp31 p o hp.1
  have hlt := (List.getElem?_eq_some_iff.1 hf).1
  generalize (classC p o).fields = l at *
  intro S T M
  refine callT_go [] [] Tryz.func24 rfl Tryz.ntmps24 Tryz.results24 ?_
  repeat' (first | apply triL_nil | (apply V;rfl;(first | (apply E_mv;rfl) | (apply E_as;rfl) | (apply E_fa;(apply plT;rfl);rfl;rfl;decide) | (apply E_lda;(apply tyT;rfl);rfl;(apply at_;rfl;rfl);rfl) | (apply E_ld;(apply tyT;rfl);rfl;(apply at_;rfl;rfl);rfl) | (apply E_lea;(apply tyT;rfl);rfl;(first | rfl | apply encEx_len | apply encSm_len)) | (apply E_len;(apply elT;rfl);rfl;rfl) | (apply E_pkT;rfl;rfl) | (apply E_pkF;rfl;rfl) | (apply E_bd;(apply plT;rfl);rfl) | (apply E_ial (c := f);apply elT;rfl;rfl;rfl;rfl;exact encFi_len;omega;exact hf))) | (apply Vp;rfl;rfl;apply fnT;rfl;apply h31;rintro _ rfl) | (apply Vd;rfl;(first | (apply E_lss;rfl;rfl) | (apply E_geq;rfl;rfl));all_goals intro h_) | (apply Vo;rfl) | (apply Vw;rfl;(first | (apply W_alL;rfl;(apply tyT;rfl)) | (apply W_bxL;rfl;rfl;rfl))) | (apply Vs;rfl;(apply W_stL;rfl;(apply tyT;rfl);rfl;rfl;rfl;(first | apply okC_new | (apply okC_ge;omega));rfl;rfl;(first | decide | (apply Nat.le_of_ble_eq_true;rfl)))) | (apply s_region;rfl) | apply tri_seq | apply tri_skip | apply tri_ret | (apply tri_condT;rfl) | (apply tri_condF;rfl) | (apply end_q _ (.inr rfl);(exact List.prefix_append _ _);(focus repeat (first | apply R_nil | (apply R_tmp;rfl) | (apply R_cell;rfl;rfl;apply tyT;rfl;rfl;rfl)));rfl) | apply p_then | apply p_thenR)
  all_goals first | rfl | (exfalso;omega)
theorem sp10 (p : List Cl) (o : ByteArray) (n : Int) (f : Fi) (hp : Small p) (hg : (checkC p).1 = 0) (h0 : 0 ≤ n) (hf : (classC p o).fields[n.toNat]? = some f) : PC 10 [vP p,vTg o n] (fun r => r = .tup [vFe f,vB true]) := by
  have h19 := sp19 p hp.1
  rw [hg] at h19
  have h24 := sp24 p o n f hp h0 hf
  intro S T M
  refine callT_go [] [] Tryz.func10 rfl Tryz.ntmps10 Tryz.results10 ?_
  repeat' (first | apply triL_nil | (apply V;rfl;(first | (apply E_as;rfl) | (apply E_lda;(apply tyT;rfl);rfl;(apply at_;rfl;rfl);rfl) | (apply E_ex;rfl;rfl) | (apply E_not;rfl))) | (apply Vp;rfl;rfl;apply fnT;rfl;apply h19;rintro _ rfl) | (apply Vp;rfl;rfl;apply fnT;rfl;apply h24;rintro _ rfl) | (apply Vw;rfl;(first | (apply W_alL;rfl;(apply tyT;rfl)) | (apply W_bxL;rfl;rfl;rfl))) | (apply Vs;rfl;(apply W_stL;rfl;(apply tyT;rfl);rfl;rfl;rfl;(first | apply okC_new | (apply okC_ge;omega));rfl;rfl;(first | decide | (apply Nat.le_of_ble_eq_true;rfl)))) | (apply s_region;rfl) | apply tri_seq | apply tri_skip | apply tri_ret | (apply tri_condF;rfl) | (apply end_q _ (.inr rfl);(exact List.prefix_append _ _);(focus repeat (first | apply R_nil | (apply R_tmp;rfl) | (apply R_cell;rfl;rfl;apply tyT;rfl;rfl;rfl)));rfl) | apply p_then)
  rfl
abbrev HC (p : List Cl) (name : ByteArray) (f : Nat) (args : Nat → Nat → List BV) (R : BV → Prop) : Prop := ∀ S T M i j,S[i]? = some ([.d (encL encCl p)],25) → S[j]? = some ([vS name],9) → CallT Tryz.prog [] [] f (args i j) ⟨S,T,M⟩ (fun r s => s = ⟨S,T,M⟩ ∧ R r)
theorem sp35 (p : List Cl) (c name : ByteArray) (hp : Small p) : HC p name 35 (fun i j => [vS c,.ptr i 0,.ptr j 0]) (fun r => r = vB (decide (0 ≤ ownF p c name))) := by
  have h21 := sp21 p c name hp
  intro S T M i j hi hj
  refine callT_go [] [] Tryz.func35 rfl Tryz.ntmps35 Tryz.results35 ?_
  repeat' (first | apply triL_nil | (apply V;rfl;(first | (apply E_mv;rfl) | (apply E_as;rfl) | (apply E_lda;(apply tyT;rfl);rfl;(apply at_old;assumption);rfl) | (apply E_ld;(apply tyT;rfl);rfl;(apply at_old;assumption);rfl))) | (apply Vp;rfl;rfl;apply fnT;rfl;apply h21;rintro _ rfl) | (apply Vd;rfl;(apply E_geq;rfl;rfl);all_goals intro h_) | (apply s_region;rfl) | apply tri_ret | (apply end_q _ (.inr rfl);(exact List.prefix_append _ _);(focus repeat (first | apply R_nil | (apply R_tmp;rfl)));rfl))
  all_goals exact vB_of (by simp [h_])
theorem sp57 (p : List Cl) (l : List ByteArray) (name : ByteArray) (hp : Small p) (hl : l.length ≤ 1000000000) : HC p name 57 (fun i j => [.d (encL encStr l),.fn 35 [.ptr i 0,.ptr j 0]]) (fun r => ∃ n,r = vI n ∧ hidL p name l = decide (0 ≤ n)) := by
  intro S T M i j hi hj
  refine callT_go [] [] Tryz.func57 rfl Tryz.ntmps57 Tryz.results57 ?_
  repeat' (first | apply triL_nil | (apply V;rfl;(first | (apply E_mv;rfl) | (apply E_as;rfl) | (apply E_len;(apply elT;rfl);rfl;rfl))) | (apply s_region;rfl) | apply tri_seq | apply tri_block)
  refine tri_fix (fun k : Nat => l.length - k) (fun k => [(0,.d (encL encStr l)),(1,.fn 35 [.ptr i 0,.ptr j 0]),(7,vI l.length),(8,vI k)]) (fun k => k ≤ l.length ∧ hidL p name (l.drop k) = hidL p name l) 0 ⟨Nat.zero_le _,by rw [List.drop_zero]⟩ ⟨rfl,rfl,rfl,rfl,trivial⟩ ?_
  rintro k ⟨hk,he⟩
  repeat' (first | apply triL_nil | (apply V;rfl;(first | (apply E_mv;rfl) | (apply E_as;rfl))) | (apply Vd;rfl;(apply E_lss;rfl;rfl);all_goals intro h_) | (apply s_region;rfl) | apply tri_seq | apply tri_block | apply tri_skip | apply tri_exit | apply tri_ret | (apply tri_condT;rfl) | (apply tri_condF;rfl) | (apply end_q _ (.inr rfl);(exact List.prefix_append _ _);(focus repeat (first | apply R_nil | (apply R_tmp;rfl)));rfl) | apply p_then | apply p_in | apply p_thenE)
  · obtain ⟨c,hc⟩ : ∃ c,l[k]? = some c := ⟨_,List.getElem?_eq_getElem (by omega)⟩
    have h35 := sp35 p c name hp
    have hd : hidL p name (l.drop k) = (decide (0 ≤ ownF p c name) || hidL p name (l.drop (k + 1))) := by
      obtain ⟨hk',e⟩ := List.getElem?_eq_some_iff.1 hc
      unfold hidL
      rw [List.drop_eq_getElem_cons hk',List.any_cons,e]
    by_cases hcn : 0 ≤ ownF p c name
    · rw [decide_eq_true hcn] at h35 hd
      repeat' (first | apply triL_nil | (apply V;rfl;(first | (apply E_mv;rfl) | (apply E_as;rfl) | (apply E_le;(apply tyT;rfl);rfl;rfl) | (apply E_ial (c := c);apply elT;rfl;rfl;rfl;rfl;exact (fun _ => rfl);omega;simpa using hc))) | (apply Vp;rfl;rfl;apply fnT;rfl;apply h35;(first | (apply at_old;assumption) | assumption);(first | (apply at_old;assumption) | assumption);rintro _ rfl) | (apply s_region;rfl) | apply tri_ret | (apply tri_condT;rfl) | (apply end_q _ (.inr rfl);(exact List.prefix_append _ _);(focus repeat (first | apply R_nil | (apply R_tmp;rfl)));rfl) | apply p_inR | apply p_thenR)
      exact ⟨k,rfl,by rw [← he,hd];simp⟩
    · rw [decide_eq_false hcn] at h35 hd
      repeat' (first | apply triL_nil | (apply V;rfl;(first | (apply E_mv;rfl) | (apply E_le;(apply tyT;rfl);rfl;rfl) | (apply E_add64;rfl;rfl;rfl;omega) | (apply E_ial (c := c);apply elT;rfl;rfl;rfl;rfl;exact (fun _ => rfl);omega;simpa using hc))) | (apply Vp;rfl;rfl;apply fnT;rfl;apply h35;(first | (apply at_old;assumption) | assumption);(first | (apply at_old;assumption) | assumption);rintro _ rfl) | (apply tri_region;rfl) | apply tri_skip | (apply tri_condF;rfl) | apply p_then | apply p_inN)
      exact ⟨k + 1,by omega,⟨by omega,by rw [← he,hd];simp⟩,⟨rfl,rfl,rfl,vI_of (by omega),trivial⟩,rfl⟩
  · exact ⟨-1,rfl,by rw [← he,List.drop_of_length_le (by omega)];rfl⟩
theorem sp34 (p : List Cl) (l : List ByteArray) (name : ByteArray) (hp : Small p) (hl : l.length ≤ 1000000000) : HC p name 34 (fun i j => [.d (encL encStr l),.fn 35 [.ptr i 0,.ptr j 0]]) (fun r => r = vB (hidL p name l)) := by
  have h57 := sp57 p l name hp hl
  intro S T M i j hi hj
  refine callT_go [] [] Tryz.func34 rfl Tryz.ntmps34 Tryz.results34 ?_
  repeat' (first | apply triL_nil | (apply V;rfl;(first | (apply E_mv;rfl) | (apply E_as;rfl))) | (apply Vp;rfl;rfl;apply fnT;rfl;apply h57;(first | (apply at_old;assumption) | assumption);(first | (apply at_old;assumption) | assumption);rintro _ ⟨n_,rfl,hn_⟩) | (apply Vd;rfl;(apply E_geq;rfl;rfl);all_goals intro h_) | (apply s_region;rfl) | apply tri_ret | (apply end_q _ (.inr rfl);(exact List.prefix_append _ _);(focus repeat (first | apply R_nil | (apply R_tmp;rfl)));rfl))
  all_goals exact vB_of (by rw [hn_];simp [h_])
theorem own_is {p : List Cl} {a n : ByteArray} (h : 0 ≤ ownF p a n) : isC p a = true := by
  unfold ownF classC at h
  by_cases h0 : 0 ≤ findI p a
  · unfold isC
    rw [decide_eq_true h0,Bool.or_true]
  · rw [if_neg h0] at h
    exact absurd h (show ¬ (0 : Int) ≤ -1 by decide)
theorem sp15 (p : List Cl) (a n : ByteArray) (hp : Small p) (hg : (checkC p).1 = 0) : PC 15 [vP p,vS a,vS n] (fun r => r = vB (decide (0 ≤ ownF p a n) && hidL p n ((chC p a).drop 1))) := by
  have h8 := sp8 p a n hp
  rw [if_pos hg] at h8
  have h29 := sp29 p a hp.1
  have hcl := ch_len p a
  have hpl := hp.1
  by_cases h0 : 0 ≤ ownF p a n
  · obtain ⟨l,hl⟩ := ch_self (own_is h0)
    rw [hl] at h29 hcl
    rw [hl,decide_eq_true h0]
    have h34 := sp34 p l n hp (by simp only [List.length_cons] at hcl;omega)
    generalize ownF p a n = k at *
    intro S T M
    refine callT_go [] [] Tryz.func15 rfl Tryz.ntmps15 Tryz.results15 ?_
    repeat' (first | apply triL_nil | (apply V;rfl;(first | (apply E_mv;rfl) | (apply E_as;rfl) | (apply E_lda;(apply tyT;rfl);rfl;(apply at_;rfl;rfl);rfl) | (apply E_ld;(apply tyT;rfl);rfl;(apply at_;rfl;rfl);rfl) | (apply E_mf;rfl) | (apply E_slc7;apply elT;rfl;rfl;rfl))) | (apply Vp;rfl;rfl;apply fnT;rfl;apply h8;rintro _ rfl) | (apply Vp;rfl;rfl;apply fnT;rfl;apply h29;rintro _ rfl) | (apply Vp;rfl;rfl;apply fnT;rfl;apply h34;(apply at_;rfl;rfl);(apply at_;rfl;rfl);rintro _ rfl) | (apply Vd;rfl;(apply E_lss;rfl;rfl);all_goals intro h_) | (apply Vw;rfl;(apply W_bxL;rfl;rfl;rfl)) | (apply s_region;rfl) | apply tri_seq | apply tri_skip | apply tri_ret | (apply tri_condT;rfl) | (apply tri_condF;rfl) | (apply end_q _ (.inr rfl);(exact List.prefix_append _ _);(focus repeat (first | apply R_nil | (apply R_tmp;rfl)));rfl) | apply p_then | apply p_thenR)
    all_goals first | rfl | (exfalso;omega)
  · rw [decide_eq_false h0]
    generalize ownF p a n = k at *
    intro S T M
    refine callT_go [] [] Tryz.func15 rfl Tryz.ntmps15 Tryz.results15 ?_
    repeat' (first | apply triL_nil | (apply V;rfl;(first | (apply E_mv;rfl) | (apply E_as;rfl) | (apply E_lda;(apply tyT;rfl);rfl;(apply at_;rfl;rfl);rfl) | (apply E_ld;(apply tyT;rfl);rfl;(apply at_;rfl;rfl);rfl))) | (apply Vp;rfl;rfl;apply fnT;rfl;apply h8;rintro _ rfl) | (apply Vd;rfl;(apply E_lss;rfl;rfl);all_goals intro h_) | (apply Vw;rfl;(apply W_bxL;rfl;rfl;rfl)) | (apply s_region;rfl) | apply tri_seq | apply tri_skip | apply tri_ret | (apply tri_condT;rfl) | (apply tri_condF;rfl) | (apply end_q _ (.inr rfl);(exact List.prefix_append _ _);(focus repeat (first | apply R_nil | (apply R_tmp;rfl)));rfl) | apply p_then | apply p_thenR | (show TriL _ _ _ _ _ _;exfalso;omega))
    all_goals first | rfl | (exfalso;omega)
end Go.Proofs.YtokilnhpepbjlaaGreat
namespace Go.Proofs.YtokilnhpepbjlaaGreat
open Go Go.RowKit Go.Proofs.YtokilnhpepbjlaaGreat.Calc
set_option linter.unusedVariables false
set_option linter.unusedSimpArgs false
set_option maxRecDepth 100000
set_option maxHeartbeats 8000000
section
variable {C : Cx} {ops : Array Oper} {l : List Oper} {ρ : Rg} {st : St} {Q : Rg → St → Prop} {dst : Option Nat} {op : Op} {ty : Nat} {pos : String} {aft : Array Edge} {g : Option (Nat × Bool)} {Wr ds : List Nat} {p : Plan} {i : Nat}
theorem VR (hg : gB ops ρ g = some true) (h : OpR C.P (okC C) (okM C) ⟨dst,op,ty,pos,aft,g⟩ ρ st (fun ρ st => TriL C ops l ρ st Q)) : TriL C ops (⟨dst,op,ty,pos,aft,g⟩ :: l) ρ st Q := triL_op (.inl ⟨hg,h⟩)
theorem oR (ho : ops[i]? = some ⟨dst,op,ty,pos,aft,g⟩) (hg : gB ops ρ g = some true) (h : OpR C.P (okD C Wr ds i) (okM C) ⟨dst,op,ty,pos,aft,g⟩ ρ st (fun ρ st => TriP C ops Wr ds p ρ st Q)) : TriP C ops Wr ds (.one i p) ρ st Q := ⟨_,ho,.inl ⟨hg,h⟩⟩
end
def rowS (l : List ByteArray) (N : Nat) : List BV := l.map (fun s => vS s) ++ List.replicate N .any
theorem rowS_eq (l : List ByteArray) (N : Nat) : (l.flatMap encStr).map .d ++ List.replicate N .any = rowS l N := by
  unfold rowS
  congr 1
  induction l with
  | nil => rfl
  | cons c l ih => rw [List.flatMap_cons,List.map_append,ih];rfl
theorem rowS_get {l : List ByteArray} {N k : Nat} {c : ByteArray} (h : l[k]? = some c) : (rowS l N)[k]? = some (vS c) := by
  unfold rowS
  have hk := (List.getElem?_eq_some_iff.1 h).1
  rw [List.getElem?_append_left (by simpa using hk),List.getElem?_map,h]
  rfl
theorem rowS_set {l : List ByteArray} {N k : Nat} {c : ByteArray} (h : k < l.length) : (rowS l N).set k (vS c) = rowS (l.set k c) N := by
  unfold rowS
  rw [List.set_append_left _ _ (by simpa using h),List.map_set]
theorem part_get {off sz : Nat} {cs : List BV} {b : BV} (hs : sz = 1) (h : cs[off]? = some b) : Calc.part false sz off cs = some b := by
  subst hs
  obtain ⟨hk,e⟩ := List.getElem?_eq_some_iff.1 h
  unfold Calc.part
  rw [if_pos (by omega),if_neg (by decide),List.drop_eq_getElem_cons hk,e]
  rfl
theorem put_row {l : List ByteArray} {N k : Nat} {c : ByteArray} (h : k < l.length) : putL k (cellsOfB (vS c)) (rowS l N) = rowS (l.set k c) N := by
  rw [← rowS_set h]
  rfl
theorem wks_app : ∀ (a b : List BV),wks (a ++ b) = wks a ++ wks b
  | [],b => by rw [wks];rfl
  | x :: a,b => by rw [List.cons_append,wks,wks_app a b,wks];rfl
theorem lows_app {nb k : Nat} : ∀ {a b a' b' : List BV},lows nb k a = some a' → lows nb k b = some b' → lows nb k (a ++ b) = some (a' ++ b')
  | [],b,a',b',h1,h2 => by
    rw [lows] at h1
    obtain rfl := Option.some.inj h1
    exact h2
  | x :: a,b,a',b',h1,h2 => by
    rw [lows] at h1
    split at h1
    · rename_i y ys hy hys
      obtain rfl := Option.some.inj h1
      rw [List.cons_append,lows,hy,lows_app hys h2]
      rfl
    · cases h1
theorem rowS_wks (l : List ByteArray) (N : Nat) : wks (rowS l N) = rowS l N := by
  unfold rowS
  rw [wks_app]
  congr 1
  · induction l with
    | nil => rw [List.map_nil,wks]
    | cons c l ih => rw [List.map_cons,wks,ih];rfl
  · induction N with
    | zero => rw [List.replicate_zero,wks]
    | succ N ih => rw [List.replicate_succ,wks,ih];rfl
theorem rowS_lows {nb k : Nat} (l : List ByteArray) (N : Nat) : lows nb k (rowS l N) = some (rowS l N) := by
  unfold rowS
  refine lows_app ?_ ?_
  · induction l with
    | nil => rw [List.map_nil,lows]
    | cons c l ih => rw [List.map_cons,lows,ih];rfl
  · induction N with
    | zero => rw [List.replicate_zero,lows]
    | succ N ih => rw [List.replicate_succ,lows,ih];rfl
theorem rowS_len (l : List ByteArray) (N : Nat) : (rowS l N).length = l.length + N := by simp [rowS]
def Rv (l m : List ByteArray) (k : Nat) : Prop := m.length = l.length ∧ ∀ q,q < l.length → m[q]? = if q < k ∨ l.length - k ≤ q then l[l.length - 1 - q]? else l[q]?
theorem rv_zero (l : List ByteArray) : Rv l l 0 := ⟨rfl,fun q hq => by rw [if_neg (by omega)]⟩
theorem rv_end {l m : List ByteArray} {k : Nat} (h : Rv l m k) (hk : l.length ≤ 2 * k + 1) : m = l.reverse := by
  apply List.ext_getElem?
  intro q
  by_cases hq : q < l.length
  · rw [List.getElem?_reverse hq,h.2 q hq]
    split
    · rfl
    · congr 1;omega
  · rw [List.getElem?_eq_none (by rw [h.1];omega),List.getElem?_eq_none (by rw [List.length_reverse];omega)]
theorem rv_step {l m : List ByteArray} {k : Nat} {a b : ByteArray} (h : Rv l m k) (hk : 2 * k + 1 < l.length) (ha : m[l.length - 1 - k]? = some a) (hb : m[k]? = some b) : Rv l ((m.set k a).set (l.length - 1 - k) b) (k + 1) := by
  refine ⟨by simp only [List.length_set];exact h.1,fun q hq => ?_⟩
  have h1 := h.2 (l.length - 1 - k) (by omega)
  have h2 := h.2 k (by omega)
  rw [if_neg (by omega)] at h1 h2
  by_cases e1 : q = l.length - 1 - k
  · subst e1
    rw [List.getElem?_set_self (by rw [List.length_set,h.1];omega),if_pos (by omega),show l.length - 1 - (l.length - 1 - k) = k by omega,← h2,hb]
  · rw [List.getElem?_set_ne (by omega)]
    by_cases e2 : q = k
    · subst e2
      rw [List.getElem?_set_self (by rw [h.1];omega),if_pos (by omega),← h1,ha]
    · rw [List.getElem?_set_ne (by omega),h.2 q hq]
      by_cases e3 : q < k ∨ l.length - k ≤ q
      · rw [if_pos e3,if_pos (by omega)]
      · rw [if_neg e3,if_neg (by omega)]
attribute [local irreducible] Tri TriL TriP CallT stepV stepW thenQ inQ endQ
theorem sp30 (l : List ByteArray) (N : Nat) (hl : l.length ≤ 1000000000) (S : List (List BV × Nat)) (T : List Nat) (M : List (List (Value × DV))) (id : Nat) (hid : S[id]? = some (rowS l N,9)) : CallT Tryz.prog [id] [] 30 [.bsl id l.length] ⟨S,T,M⟩ (fun r s => r = .tup [] ∧ s = ⟨S.set id (rowS l.reverse N,9),T,M⟩) := by
  have hlt := (List.getElem?_eq_some_iff.1 hid).1
  refine callT_go [id] [] Tryz.func30 rfl Tryz.ntmps30 Tryz.results30 ?_
  repeat' (first | apply triL_nil | (apply V;rfl;(first | (apply E_mv;rfl) | (apply E_as;rfl) | (apply E_sub64;rfl;rfl;rfl;omega))) | (apply VR;rfl;apply opR_lenB;rfl;apply elT;rfl;rfl) | (apply s_region;rfl) | apply tri_block)
  refine tri_grow (fun k : Nat × List ByteArray => l.length - k.1) (fun k => [(0,.bsl id l.length),(2,vI k.1),(3,vI ((l.length : Int) - 1 - k.1))]) (fun k S1 T1 => k.1 ≤ l.length ∧ Rv l k.2 k.1 ∧ S1[id]? = some (rowS k.2 N,9) ∧ S.length ≤ S1.length ∧ T <+: T1) (0,l) ⟨Nat.zero_le _,rv_zero l,at_old hid,by simp,by simp⟩ ⟨rfl,rfl,vI_of (by dsimp only;omega),trivial⟩ ?_
  rintro ⟨k,m⟩ S1 T1 ⟨hk,hR,hid1,hS,hT⟩
  dsimp only at hk hR hid1 ⊢
  have hlt1 : id < S1.length := by omega
  repeat' (first | apply triL_nil | (apply V;rfl;(apply E_mv;rfl)) | (apply Vd;rfl;(apply E_lss;rfl;rfl);all_goals intro h_) | (apply s_region;rfl) | apply tri_seq | apply tri_block | apply tri_skip | apply tri_exit | (apply tri_condT;rfl) | (apply tri_condF;rfl) | apply p_then | apply p_in | apply p_thenE)
  · have hk2 : 2 * k + 1 < l.length := by omega
    obtain ⟨a,ha⟩ : ∃ a,m[l.length - 1 - k]? = some a := ⟨_,List.getElem?_eq_getElem (by rw [hR.1];omega)⟩
    obtain ⟨b,hb⟩ : ∃ b,m[k]? = some b := ⟨_,List.getElem?_eq_getElem (by rw [hR.1];omega)⟩
    have e1 : (((l.length : Int) - 1 - (k : Int)).toNat * 1 : Nat) = l.length - 1 - k := by omega
    have e2 : (((k : Int)).toNat * 1 : Nat) = k := by omega
    have ha' : m[((l.length : Int) - 1 - (k : Int)).toNat * 1]? = some a := by rw [e1];exact ha
    have hb' : m[((k : Int)).toNat * 1]? = some b := by rw [e2];exact hb
    have hput : putL (((l.length : Int) - 1 - (k : Int)).toNat * 1) (cellsOfB (vS b)) (putL (((k : Int)).toNat * 1) (cellsOfB (vS a)) (rowS m N)) = rowS ((m.set k a).set (l.length - 1 - k) b) N := by
      rw [e1,e2,put_row (by rw [hR.1];omega),put_row (by rw [List.length_set,hR.1];omega)]
    repeat' (first | apply triL_nil | (apply V;rfl;(first | (apply E_mv;rfl) | (apply E_as;rfl) | (apply E_add64;rfl;rfl;rfl;omega) | (apply E_sub64;rfl;rfl;rfl;omega))) | apply d_fork | (apply t_drawn (nt := 28) (.take 0 (.take 1 (.take 2 (.take 3 (.take 4 (.take 5 (.take 8 (.take 9 (.fork 6 (.fork 7 (.one 10 (.one 11 (.one 12 (.one 13 (.one 14 (.one 15 .nil)))))) 10 (.fork 7 (.one 11 (.one 12 (.one 13 (.one 14 (.one 15 .nil))))) 11 (.one 7 (.one 12 (.one 13 (.one 14 (.one 15 .nil))))))) 10 (.fork 6 (.fork 7 (.one 11 (.one 12 (.one 13 (.one 14 (.one 15 .nil))))) 11 (.one 7 (.one 12 (.one 13 (.one 14 (.one 15 .nil)))))) 11 (.one 6 (.one 7 (.one 12 (.one 13 (.one 14 (.one 15 .nil)))))))))))))))) [id] [];exact mixed;rfl;decide +kernel) | (apply oR;rfl;rfl;apply opR_iaB;rfl;apply elT;rfl;rfl;rfl;omega) | (apply oV;rfl;rfl;(apply E_ld;(apply tyT;rfl);rfl;(apply at_old;assumption);apply part_get;rfl;first | (exact rowS_get ha') | (exact rowS_get hb'))) | (apply oS;rfl;rfl;(apply W_stO;(apply tyT;rfl);rfl;rfl;assumption;(apply okD_in <;> simp);rfl;rfl;(rw [rowS_len,hR.1];omega))) | (apply oS;rfl;rfl;(apply W_stO2;(apply tyT;rfl);rfl;rfl;assumption;(apply okD_in <;> simp);rfl;rfl;(rw [put_row (by rw [hR.1];omega),rowS_len,List.length_set,hR.1];omega))) | (apply tri_region;rfl) | apply p_then | apply p_inN | apply d_nil | (apply tV;rfl;rfl;(first | (apply E_mv;rfl) | (apply E_as;rfl) | (apply E_add64;rfl;rfl;rfl;omega) | (apply E_sub64;rfl;rfl;rfl;omega));rfl))
    all_goals
      refine ⟨(k + 1,(m.set k a).set (l.length - 1 - k) b),S1.set id (rowS ((m.set k a).set (l.length - 1 - k) b) N,9) ++ [],T1 ++ [],by dsimp only;omega,⟨by dsimp only;omega,rv_step hR hk2 ha hb,at_old (List.getElem?_set_self hlt1),by simpa using hS,pre_app hT⟩,⟨rfl,vI_of (by dsimp only;omega),vI_of (by dsimp only;omega),trivial⟩,by rw [← hput]⟩
  · rw [rv_end hR (by omega)] at hid1
    exact end_w _ (.inl rfl) (pre_app hT) R_nil rfl (at_old hid1) (by rw [rowS_wks];exact rowS_lows _ _) (by rw [rowS_wks]) ⟨rfl,rfl⟩
end Go.Proofs.YtokilnhpepbjlaaGreat
namespace Go.Proofs.YtokilnhpepbjlaaGreat
open Go Go.RowKit Go.Proofs.YtokilnhpepbjlaaGreat.Calc
set_option linter.unusedVariables false
set_option linter.unusedSimpArgs false
set_option maxRecDepth 100000
set_option maxHeartbeats 8000000
theorem end_own {P : Program} {rs : List ResultVar} {S S1 : List (List BV × Nat)} {T T1 : List Nat} {M : List (List (Value × DV))} {Q : BV → St → Prop} {ρ : Rg} {e sz tg n : Nat} {cs : List DV} (ex : AX) (hex : ex = .normal ∨ ex = .ret) (hT : T <+: T1) (h1 : resB P ρ ⟨S1,T1,M⟩ rs = some [.own e sz tg cs n]) (htg : tg < T1.length) (hS : S.length ≤ S1.length) (h : Q (.own e sz tg cs n) ⟨S,T1,M⟩) : endN P rs [] ⟨S,T,M⟩ Q ex ρ ⟨S1,T1,M⟩ :=
  ⟨hex,[.own e sz tg cs n],[.own e sz tg cs n],S,T1,.inl h1,by simp [lows,low,htg],fun id cs ty hid => .inl ⟨(List.getElem?_eq_some_iff.1 hid).1,by simp,hid⟩,hS,Nat.le_refl _,List.prefix_refl _,hT.length_le,h⟩
theorem plain_strs (l : List ByteArray) : (l.flatMap encStr).all plainD = true := by
  induction l with
  | nil => rfl
  | cons c l ih => rw [List.flatMap_cons,List.all_append,ih];rfl
structure Tq where
  own : ByteArray
  nth : Int
def encTq (t : Tq) : List DV := [dS t.own,dI t.nth]
theorem encTq_len (t : Tq) : (encTq t).length = 2 := rfl
def alF (c : ByteArray) : List Fi → Nat → List Tq
  | [],_ => []
  | f :: l,j => if f.static = true then alF c l (j + 1) else ⟨c,j⟩ :: alF c l (j + 1)
def allL (p : List Cl) : List ByteArray → List Tq
  | [] => []
  | c :: l => alF c (classC p c).fields 0 ++ allL p l
theorem alF_drop {c : ByteArray} {l : List Fi} {j : Nat} {f : Fi} (h : l[j]? = some f) : alF c (l.drop j) j = if f.static = true then alF c (l.drop (j + 1)) (j + 1) else ⟨c,j⟩ :: alF c (l.drop (j + 1)) (j + 1) := by
  obtain ⟨hj,e⟩ := List.getElem?_eq_some_iff.1 h
  rw [List.drop_eq_getElem_cons hj,alF,e]
theorem allL_drop {p : List Cl} {l : List ByteArray} {k : Nat} {c : ByteArray} (h : l[k]? = some c) : allL p (l.drop k) = alF c (classC p c).fields 0 ++ allL p (l.drop (k + 1)) := by
  obtain ⟨hk,e⟩ := List.getElem?_eq_some_iff.1 h
  rw [List.drop_eq_getElem_cons hk,allL,e]
attribute [local irreducible] Tri TriL TriP CallT stepV stepW thenQ inQ endQ endN
theorem chain_own (p : List Cl) (a0 : ByteArray) (hp : p.length ≤ 1000000) (hne : chC p a0 ≠ []) (S : List (List BV × Nat)) (T : List Nat) (M : List (List (Value × DV))) : CallT Tryz.prog [] [] 29 [vP p,vS a0] ⟨S,T,M⟩ (fun r s => ∃ tg cs n,T <+: s.T ∧ T.length ≤ tg ∧ r = .own 9 1 tg cs n ∧ s.T[tg]? = some cs.length ∧ 0 < n ∧ cs.all plainD = true ∧ (cs = (chC p a0).flatMap encStr ∧ n = (chC p a0).length)) := by
  refine callT_goN [] [] Tryz.func29 rfl Tryz.ntmps29 Tryz.results29 ?_
  repeat' (first | apply triL_nil | (apply V;rfl;(apply E_as;rfl)) | (apply Vw;rfl;(apply W_bxL;rfl;rfl;rfl)) | (apply s_region;rfl) | apply tri_seq | apply tri_block)
  refine tri_ownX 5 9 1 rfl rfl ?_
  refine tri_grow (fun k : Nat × ByteArray × List ByteArray => k.1) (fun k => [(1,vS k.2.1),(2,.ptr (S.length + 0) 0),(5,.own 9 1 (T.length + 0) (k.2.2.flatMap encStr) k.2.2.length)]) (fun k S1 T1 => k.2.2.Nodup ∧ (∀ x ∈ k.2.2,isC p x = true) ∧ k.2.2.length + k.1 = p.length + 6 ∧ chG p k.1 k.2.1 k.2.2 = chC p a0 ∧ S.length ≤ S1.length ∧ T <+: T1 ∧ S1[S.length + 0]? = some ([.d (encL encCl p)],25) ∧ T1[T.length + 0]? = some (k.2.2.flatMap encStr).length) (p.length + 6,a0,[]) ⟨by simp,by simp,by simp,rfl,by simp,by simp,at_ rfl rfl,by simp⟩ ⟨rfl,rfl,rfl,trivial⟩ ?_
  rintro ⟨n,a,acc⟩ S1 T1 ⟨hn,hs,he,hch,hS,hT,hb,hTg⟩
  dsimp only at hn hs he hch hTg ⊢
  have hlen := room hn hs
  obtain ⟨m,rfl⟩ : ∃ m,n = m + 1 := ⟨n - 1,by omega⟩
  rw [chG] at hch
  have h25 := sp53 p a hp
  have h14 := sp55 p a hp
  have h54 := sp54 acc a (by omega)
  have fin : acc = chC p a0 → ∀ (X : List Nat),∃ tg cs n,T <+: (⟨S,T1 ++ X,M⟩ : St).T ∧ T.length ≤ tg ∧ (.own 9 1 (T.length + 0) (acc.flatMap encStr) acc.length : BV) = .own 9 1 tg cs n ∧ (⟨S,T1 ++ X,M⟩ : St).T[tg]? = some cs.length ∧ 0 < n ∧ cs.all plainD = true ∧ (cs = (chC p a0).flatMap encStr ∧ n = (chC p a0).length) := fun e X => ⟨_,_,_,pre_app hT,Nat.le_refl _,rfl,at_old hTg,by
    rw [e]
    exact List.length_pos_iff.2 hne,plain_strs _,by rw [e],by rw [e]⟩
  have hTl : T.length + 0 < T1.length := (List.getElem?_eq_some_iff.1 hTg).1
  cases hi : isC p a
  · rw [hi] at h25 hch
    rw [if_neg (by decide)] at hch
    repeat' (first | apply triL_nil | (apply V;rfl;(first | (apply E_mv;rfl) | (apply E_as;rfl) | (apply E_lda;(apply tyT;rfl);rfl;(apply at_old;assumption);rfl) | (apply E_pkF;rfl;rfl))) | (apply Vp;rfl;rfl;apply fnT;rfl;apply h25;rintro _ rfl) | (apply Vo;rfl) | (apply s_region;rfl) | apply tri_seq | apply tri_exit | apply tri_ret | (apply tri_condF;rfl) | apply p_then | apply p_in | apply p_thenE)
    exact end_own _ (.inr rfl) (pre_app hT) (R_tmp rfl R_nil) (by simp only [List.length_append];omega) (by simp only [List.length_append];omega) (fin hch _)
  · rw [hi] at h25 hch
    rw [if_pos rfl] at hch
    cases hin : inS acc a
    · rw [hin] at h54 hch
      rw [if_neg (by decide)] at hch
      repeat' (first | apply triL_nil | (apply V;rfl;(first | (apply E_mv;rfl) | (apply E_as;rfl) | (apply E_lda;(apply tyT;rfl);rfl;(apply at_old;assumption);rfl) | (apply E_pkT;rfl;rfl) | (apply E_not;rfl))) | (apply Vp;rfl;rfl;apply fnT;rfl;apply h25;rintro _ rfl) | (apply Vp;rfl;rfl;apply fnT;rfl;apply call_wk;rfl;apply h54;rintro _ rfl) | (apply Vp;rfl;rfl;apply fnT;rfl;apply h14;rintro _ rfl) | (apply Vw;rfl;(first | (apply W_bsL;rfl;(apply elT;rfl);(apply tyT;rfl);rfl;decide;rfl;rfl) | (apply W_ap;(apply elT;rfl);(apply tyT;rfl);(apply byT;rfl);rfl;rfl;rfl;decide;rfl;(apply A_ownLO (c := a);omega;omega;assumption)))) | (apply s_region;rfl) | apply tri_seq | (apply tri_region;rfl) | apply tri_block | apply tri_skip | (apply tri_condT;rfl) | apply p_then | apply p_inN)
      have hna : a ∉ acc := inS_false.1 hin
      refine ⟨(m,supC p a,acc ++ [a]),_,_,by dsimp only;omega,⟨nodup_snoc hn hna,fun x hx => ?_,by simp only [List.length_append,List.length_singleton];omega,hch,by simp only [List.length_append];omega,pre_app (pre_set hT (by omega)),at_old hb,at_set (List.getElem?_eq_some_iff.1 hTg).1⟩,⟨rfl,rfl,rfl,trivial⟩,rfl⟩
      rcases List.mem_append.1 hx with h | h
      · exact hs x h
      · rw [List.mem_singleton.1 h]
        exact hi
    · rw [hin] at h54 hch
      rw [if_pos rfl] at hch
      repeat' (first | apply triL_nil | (apply V;rfl;(first | (apply E_mv;rfl) | (apply E_as;rfl) | (apply E_lda;(apply tyT;rfl);rfl;(apply at_old;assumption);rfl) | (apply E_pkT;rfl;rfl) | (apply E_not;rfl))) | (apply Vp;rfl;rfl;apply fnT;rfl;apply h25;rintro _ rfl) | (apply Vp;rfl;rfl;apply fnT;rfl;apply call_wk;rfl;apply h54;rintro _ rfl) | (apply s_region;rfl) | apply tri_seq | apply tri_exit | apply tri_ret | (apply tri_condF;rfl) | apply p_then | apply p_in | apply p_thenE)
      exact end_own _ (.inr rfl) (pre_app hT) (R_tmp rfl R_nil) (by simp only [List.length_append];omega) (by simp only [List.length_append];omega) (fin hch _)
theorem chain_box {nb : Nat} (p : List Cl) (a : ByteArray) (hp : p.length ≤ 1000000) (hne : chC p a ≠ []) (S L : List (List BV × Nat)) (T : List Nat) (M : List (List (Value × DV))) (hS : S.length = nb) : CallT Tryz.prog [] [] 29 [vP p,vS a] ⟨S ++ L,T,M⟩ (fun r s => ∃ N,r = .bsl (nb + L.length) (chC p a).length ∧ s = ⟨S ++ (L ++ [(rowS (chC p a) N,9)]),T,M⟩) := by
  refine call_mono (call_thaw (chain_own p a hp hne (S ++ L) T M)) fun r s ⟨cs,n,N,⟨h1,h2⟩,h3,h4⟩ => ?_
  subst h1 h2 h3 h4
  exact ⟨N,by rw [List.length_append,hS],by rw [rowS_eq,List.append_assoc]⟩
theorem sp12 (p : List Cl) (a : ByteArray) (hp : Small p) (hg : (checkC p).1 = 0) (hi : isC p a = true) : PC 12 [vP p,vS a] (fun r => r = .d (encL encTq (allL p (chC p a).reverse))) := by
  have h19 := sp19 p hp.1
  rw [hg] at h19
  have hcl := ch_len p a
  have hpl := hp.1
  have hne : chC p a ≠ [] := by
    obtain ⟨T,hT⟩ := ch_self hi
    rw [hT]
    exact List.cons_ne_nil _ _
  have hch : ∀ (nb : Nat) (S L : List (List BV × Nat)) (T : List Nat) (M : List (List (Value × DV))),S.length = nb → CallT Tryz.prog [] [] 29 [vP p,vS a] ⟨S ++ L,T,M⟩ (fun r s => ∃ N,r = .bsl (nb + L.length) (chC p a).length ∧ s = ⟨S ++ (L ++ [(rowS (chC p a) N,9)]),T,M⟩) := fun nb S L T M hS => chain_box (nb := nb) p a hp.1 hne S L T M hS
  generalize chC p a = l at *
  have hrl : l.reverse.length = l.length := List.length_reverse
  intro S T M
  refine callT_go [] [] Tryz.func12 rfl Tryz.ntmps12 Tryz.results12 ?_
  repeat' (first | apply triL_nil | (apply V;rfl;(first | (apply E_mv;rfl) | (apply E_as;rfl) | (apply E_lda;(apply tyT;rfl);rfl;(apply at_;rfl;rfl);rfl) | (apply E_not;rfl))) | (apply Vp;rfl;rfl;apply fnT;rfl;apply h19;rintro _ rfl) | (apply Vc;rfl;rfl;apply fnT;rfl;apply hch;rfl;(intro i_ hi_;cases hi_);(intro i_ hi_;cases hi_);rintro _ _ ⟨N,rfl,rfl⟩) | (apply Vc;rfl;rfl;apply fnT;rfl;apply (sp30 l N (by omega));(apply at_;rfl;rfl);(intro i_ hi_ _;obtain rfl := List.mem_singleton.1 hi_;(apply okC_ge;omega));(intro i_ hi_;cases hi_);rintro _ _ ⟨rfl,rfl⟩;rw [set_at rfl]) | (apply VR;rfl;apply opR_lenB;rfl;apply elT;rfl;rfl) | (apply Vw;rfl;(apply W_bxL;rfl;rfl;rfl)) | (apply s_region;rfl) | apply tri_seq | apply tri_block | apply tri_skip | (apply tri_condF;rfl) | apply p_then)
  refine tri_ownX 5 34 2 rfl rfl ?_
  generalize hr : l.reverse = r at *
  refine tri_grow (fun k : Nat × List Tq => r.length - k.1) (fun k => [(2,.ptr (S.length + 0) 0),(5,.own 34 2 (T.length + 0) (k.2.flatMap encTq) k.2.length),(19,.bsl (S.length + 1) l.length),(20,vI l.length),(21,vI k.1)]) (fun k S1 T1 => k.1 ≤ r.length ∧ k.2.length ≤ 1000000 * k.1 ∧ k.2 ++ allL p (r.drop k.1) = allL p r ∧ S.length + 2 ≤ S1.length ∧ T <+: T1 ∧ S1[S.length + 0]? = some ([.d (encL encCl p)],25) ∧ S1[S.length + 1]? = some (rowS r N,9) ∧ T1[T.length + 0]? = some (k.2.flatMap encTq).length) (0,[]) ⟨Nat.zero_le _,by simp,by simp,by simp,by simp,at_ rfl rfl,at_ rfl rfl,by simp⟩ ⟨rfl,rfl,rfl,rfl,rfl,trivial⟩ ?_
  rintro ⟨k,acc⟩ S1 T1 ⟨hk,hak,he,hS,hT,g0,g1,hTg⟩
  dsimp only at hk hak he hTg ⊢
  have h00 : T.length ≤ T.length + 0 := Nat.le_refl _
  repeat' (first | apply triL_nil | (apply V;rfl;(first | (apply E_mv;rfl) | (apply E_as;rfl))) | (apply Vd;rfl;(apply E_lss;rfl;rfl);all_goals intro h_) | (apply s_region;rfl) | apply tri_seq | apply tri_block | apply tri_skip | apply tri_exit | apply tri_ret | (apply tri_condT;rfl) | (apply tri_condF;rfl) | (apply end_q _ (.inr rfl);(apply pre_app;assumption);(focus repeat (first | apply R_nil | (apply R_tmp;rfl)));rfl) | apply p_then | apply p_in | apply p_thenE)
  · obtain ⟨c,hc⟩ : ∃ c,r[k]? = some c := ⟨_,List.getElem?_eq_getElem (by omega)⟩
    have e1 : ((k : Int).toNat * 1 : Nat) = k := by omega
    have hc' : r[((k : Int)).toNat * 1]? = some c := by rw [e1];exact hc
    rw [allL_drop hc] at he
    have h31 := sp31 p c hp.1
    have hfl := class_fields hp c
    generalize (classC p c).fields = fl at *
    repeat' (first | apply triL_nil | (apply V;rfl;(first | (apply E_ld;(apply tyT;rfl);rfl;(apply at_old;assumption);apply part_get;rfl;exact rowS_get hc') | (apply E_mv;rfl) | (apply E_as;rfl) | (apply E_lda;(apply tyT;rfl);rfl;(apply at_old;assumption);rfl) | (apply E_len;(apply elT;rfl);rfl;rfl))) | (apply Vp;rfl;rfl;apply fnT;rfl;apply h31;rintro _ rfl) | (apply VR;rfl;apply opR_iaB;rfl;apply elT;rfl;rfl;rfl;omega) | (apply s_region;rfl) | apply tri_block)
    refine tri_grow (fun j : Nat × List Tq => fl.length - j.1) (fun j => [(2,.ptr (S.length + 0) 0),(5,.own 34 2 (T.length + 0) (j.2.flatMap encTq) j.2.length),(8,vS c),(19,.bsl (S.length + 1) l.length),(20,vI l.length),(21,vI k),(27,.d (encL encFi fl)),(28,vI fl.length),(29,vI j.1)]) (fun j S2 T2 => j.1 ≤ fl.length ∧ j.2.length ≤ 1000000 * k + j.1 ∧ j.2 ++ (alF c (fl.drop j.1) j.1 ++ allL p (r.drop (k + 1))) = allL p r ∧ S.length + 2 ≤ S2.length ∧ T <+: T2 ∧ S2[S.length + 0]? = some ([.d (encL encCl p)],25) ∧ S2[S.length + 1]? = some (rowS r N,9) ∧ T2[T.length + 0]? = some (j.2.flatMap encTq).length) (0,acc) ⟨Nat.zero_le _,by dsimp only;omega,he,by simpa using hS,pre_app hT,at_old g0,at_old g1,at_old hTg⟩ ⟨rfl,rfl,rfl,rfl,rfl,rfl,rfl,rfl,rfl,trivial⟩ ?_
    rintro ⟨j,acc2⟩ S2 T2 ⟨hj,hak2,he2,hS2,hT2,c0,c1,hTg2⟩
    dsimp only at hj hak2 he2 hTg2 ⊢
    repeat' (first | apply triL_nil | (apply V;rfl;(first | (apply E_mv;rfl) | (apply E_add64;rfl;rfl;rfl;omega))) | (apply Vd;rfl;(apply E_lss;rfl;rfl);all_goals intro h_) | (apply s_region;rfl) | apply tri_seq | (apply tri_region;rfl) | apply tri_block | apply tri_skip | apply tri_exit | (apply tri_condT;rfl) | (apply tri_condF;rfl) | apply p_then | apply p_in | apply p_inN | apply p_thenE)
    · obtain ⟨f,hf⟩ : ∃ f,fl[j]? = some f := ⟨_,List.getElem?_eq_getElem (by omega)⟩
      rw [alF_drop hf] at he2
      obtain ⟨fs,ft,fn,fi⟩ := f
      cases fs
      all_goals
        repeat' (first | apply triL_nil | (apply V;rfl;(first | (apply E_mv;rfl) | (apply E_as;rfl) | (apply E_fa;(apply plT;rfl);rfl;rfl;decide) | (apply E_ld;(apply tyT;rfl);rfl;(apply at_;rfl;rfl);rfl) | (apply E_lea;(apply tyT;rfl);rfl;(first | rfl | apply encEx_len | apply encSm_len)) | (apply E_not;rfl) | (apply E_bd;(apply plT;rfl);rfl) | (apply E_add64;rfl;rfl;rfl;omega) | (apply E_ial (c := (⟨_,ft,fn,fi⟩ : Fi));apply elT;rfl;rfl;rfl;rfl;exact encFi_len;omega;simpa using hf))) | (apply Vw;rfl;(first | (apply W_alL;rfl;(apply tyT;rfl)) | (apply W_bsL;rfl;(apply elT;rfl);(apply tyT;rfl);rfl;decide;rfl;rfl) | (apply W_ap;(apply elT;rfl);(apply tyT;rfl);(apply byT;rfl);rfl;rfl;rfl;decide;rfl;(apply A_ownLO (f := encTq) (c := (⟨c,j⟩ : Tq));omega;omega;assumption)))) | (apply Vs;rfl;(apply W_stL;rfl;(apply tyT;rfl);rfl;rfl;rfl;(first | apply okC_new | (apply okC_ge;omega));rfl;rfl;(first | decide | (apply Nat.le_of_ble_eq_true;rfl)))) | (apply s_region;rfl) | (apply tri_region;rfl) | apply tri_skip | (apply tri_condT;rfl) | (apply tri_condF;rfl) | apply p_then | apply p_inN)
        all_goals first
          | exact ⟨(j + 1,acc2 ++ [⟨c,j⟩]),_,_,by dsimp only;omega,⟨by dsimp only;omega,by simp only [List.length_append,List.length_singleton];omega,by dsimp only at he2 ⊢;rw [if_neg (by decide)] at he2;rw [← he2];simp,by simp only [List.length_append];omega,pre_app (pre_set hT2 h00),at_old c0,at_old c1,at_set (List.getElem?_eq_some_iff.1 hTg2).1⟩,⟨rfl,rfl,rfl,rfl,rfl,rfl,rfl,rfl,vI_of (by omega),trivial⟩,rfl⟩
          | exact ⟨(j + 1,acc2),_,_,by dsimp only;omega,⟨by dsimp only;omega,by dsimp only;omega,by dsimp only at he2 ⊢;rw [if_pos rfl] at he2;exact he2,by simp only [List.length_append];omega,pre_app hT2,at_old c0,at_old c1,at_old hTg2⟩,⟨rfl,rfl,rfl,rfl,rfl,rfl,rfl,rfl,vI_of (by omega),trivial⟩,rfl⟩
    · rw [List.drop_of_length_le (by omega)] at he2
      exact ⟨(k + 1,acc2),_,_,by dsimp only;omega,⟨by dsimp only;omega,by dsimp only;omega,he2,by simp only [List.length_append];omega,pre_app hT2,at_old c0,at_old c1,at_old hTg2⟩,⟨rfl,rfl,rfl,rfl,vI_of (by omega),trivial⟩,rfl⟩
  · rw [List.drop_of_length_le (by omega),allL,List.append_nil] at he
    rw [← he]
    rfl
end Go.Proofs.YtokilnhpepbjlaaGreat
namespace Go.Proofs.YtokilnhpepbjlaaGreat
open Go Go.RowKit Go.Proofs.YtokilnhpepbjlaaGreat.Calc
set_option linter.unusedVariables false
theorem seek_spec {p : List Cl} {n : ByteArray} : ∀ l : List ByteArray,(∃ c,c ∈ l ∧ 0 ≤ ownF p c n ∧ seekL p n l = (c,ownF p c n,true)) ∨ ((∀ c ∈ l,¬ 0 ≤ ownF p c n) ∧ seekL p n l = (⟨#[]⟩,0,false))
  | [] => .inr ⟨by simp,rfl⟩
  | c :: l => by
    rw [seekL]
    by_cases h : 0 ≤ ownF p c n
    · rw [if_pos h]
      exact .inl ⟨c,by simp,h,rfl⟩
    · rw [if_neg h]
      rcases seek_spec l with ⟨d,h1,h2,h3⟩ | ⟨h1,h2⟩
      · exact .inl ⟨d,List.mem_cons_of_mem _ h1,h2,h3⟩
      · refine .inr ⟨fun d hd => ?_,h2⟩
        rcases List.mem_cons.1 hd with rfl | hd
        · exact h
        · exact h1 d hd
theorem own_field {p : List Cl} {o n : ByteArray} (h : 0 ≤ ownF p o n) : ∃ f,(classC p o).fields[(ownF p o n).toNat]? = some f ∧ f.name = n := by
  unfold ownF at *
  rcases findF_spec (classC p o).fields n with ⟨h1,_⟩ | ⟨j,hj,h1,h2,_⟩
  · omega
  · rw [h1]
    exact ⟨_,List.getElem?_eq_getElem hj,h2⟩
theorem own_neg {p : List Cl} {o n : ByteArray} (h : ¬ 0 ≤ ownF p o n) : ownF p o n = -1 := by
  unfold ownF at *
  rcases findF_spec (classC p o).fields n with ⟨h1,_⟩ | ⟨j,hj,h1,h2,_⟩
  · exact h1
  · omega
theorem cls_is {p : List Cl} {k : Nat} {c : Cl} (h : p[k]? = some c) : isC p c.name = true := by
  unfold isC
  rcases findI_spec p c.name with ⟨_,h1⟩ | ⟨j,hj,hf,_,_⟩
  · exact absurd rfl (h1 c (List.mem_of_getElem? h))
  · rw [hf,decide_eq_true (by omega),Bool.or_true]
theorem ch_is {p : List Cl} {a o : ByteArray} (h : o ∈ chC p a) : isC p o = true := by
  obtain ⟨z,hw,_,_⟩ := ch_walk p a
  exact hw.all o h
theorem type_is {p : List Cl} {a : ByteArray} (h : isC p a = true) : typeC p a = true := by
  unfold typeC
  simp [h]
theorem sub_chain {p : List Cl} {c o : ByteArray} (hc : isC p c = true) (ho : o ∈ chC p c) : subC p c o = true := by
  unfold subC
  have hio := ch_is ho
  split
  · rw [hio,Bool.or_true]
  · rw [if_pos ⟨type_is hc,type_is hio⟩,inS_iff.2 ho,Bool.or_true]
end Go.Proofs.YtokilnhpepbjlaaGreat
namespace Go.Proofs.YtokilnhpepbjlaaGreat
open Go Go.RowKit Go.Proofs.YtokilnhpepbjlaaGreat.Calc
set_option linter.unusedVariables false
set_option linter.unusedSimpArgs false
set_option maxRecDepth 100000
set_option maxHeartbeats 8000000
theorem E_eqT7 {P : Program} {st : St} {ρ : Rg} {x y : Operand} {t ty : Nat} {k : IntKind} {a : Int} (hx : fl ρ x = some (.int k a)) (hy : fl ρ y = some (.int k a)) : stepV P st ρ (.binOp .eql t x y ty) = some (vB true) := by
  rw [E_eql hx hy,decide_eq_true rfl]
theorem end_all {P : Program} {rs : List ResultVar} {S L : List (List BV × Nat)} {T T1 : List Nat} {M M1 : List (List (Value × DV))} {Q : BV → St → Prop} {ρ : Rg} {l : List BV} (ex : AX) (hex : ex = .normal ∨ ex = .ret) (h1 : resB P ρ ⟨S ++ L,T1,M1⟩ rs = some l) (hl : lows (S ++ L).length T1.length l = some l) (hL : ∀ c ∈ L,lows (S ++ L).length T1.length c.1 = some c.1) (hT : T <+: T1) (h : Q (retB l) ⟨S ++ L,T1,M1⟩) : endN P rs [] ⟨S,T,M⟩ Q ex ρ ⟨S ++ L,T1,M1⟩ :=
  ⟨hex,l,l,S ++ L,T1,.inl h1,hl,fun id cs ty hid => by
    by_cases hlt : id < S.length
    · rw [List.getElem?_append_left hlt] at hid
      exact .inl ⟨hlt,by simp,hid⟩
    · have hid' := hid
      rw [List.getElem?_append_right (by omega)] at hid'
      exact .inr ⟨cs,hid,hL _ (List.mem_of_getElem? hid')⟩,Nat.le_refl _,by simp,List.prefix_refl _,hT.length_le,h⟩
theorem q34 (x y : Operand) (v : Value) (h : v = .agg #[.string ⟨#[65]⟩,.int .i64 1] ∨ v = .agg #[.string ⟨#[65]⟩,.int .i64 0] ∨ v = .agg #[.string ⟨#[66]⟩,.int .i64 0]) : (quiet Tryz.prog (do eqGuard .eql 34 x y v v;binOp .eql 34 v v)).bind constB = some (vB true) := by
  rcases h with rfl | rfl | rfl <;> kernel_rfl
def TW : List Cl := [⟨⟨#[65]⟩,⟨#[]⟩,[⟨false,⟨#[105,110,116]⟩,⟨#[120]⟩,[]⟩,⟨true,⟨#[65]⟩,⟨#[121]⟩,[]⟩],[]⟩,⟨⟨#[66]⟩,⟨#[65]⟩,[⟨false,⟨#[83,116,114,105,110,103]⟩,⟨#[120]⟩,[]⟩],[]⟩]
def Q1 : List Cl := [⟨⟨#[65]⟩,⟨#[]⟩,[⟨false,⟨#[105,110,116]⟩,⟨#[120]⟩,[]⟩,⟨true,⟨#[65]⟩,⟨#[121]⟩,[]⟩],[]⟩,⟨⟨#[66]⟩,⟨#[65]⟩,[⟨false,⟨#[83,116,114,105,110,103]⟩,⟨#[120]⟩,[]⟩,⟨false,⟨#[105,110,116]⟩,⟨#[120]⟩,[]⟩],[]⟩]
def Q2 : List Cl := [⟨⟨#[65]⟩,⟨#[]⟩,[⟨false,⟨#[105,110,116]⟩,⟨#[120]⟩,[]⟩,⟨true,⟨#[65]⟩,⟨#[121]⟩,[]⟩],[]⟩,⟨⟨#[66]⟩,⟨#[65]⟩,[⟨false,⟨#[83,116,114,105,110,103]⟩,⟨#[120]⟩,[]⟩,⟨false,⟨#[81]⟩,⟨#[122]⟩,[]⟩],[]⟩]
def Q3 : List Cl := [⟨⟨#[65]⟩,⟨#[66]⟩,[⟨false,⟨#[105,110,116]⟩,⟨#[120]⟩,[]⟩,⟨true,⟨#[65]⟩,⟨#[121]⟩,[]⟩],[]⟩,⟨⟨#[66]⟩,⟨#[65]⟩,[⟨false,⟨#[83,116,114,105,110,103]⟩,⟨#[120]⟩,[]⟩,⟨false,⟨#[81]⟩,⟨#[122]⟩,[]⟩],[]⟩]
theorem small4 : Small TW ∧ Small Q1 ∧ Small Q2 ∧ Small Q3 := by unfold Small;decide +kernel
theorem TW_c : (checkC TW).1 = 0 := by decide +kernel
attribute [local irreducible] Tri TriL TriP CallT stepV stepW thenQ inQ endQ endN
theorem t7y : PC 7 [vP TW,vS ⟨#[66]⟩,vS ⟨#[121]⟩] (fun r => r = .tup [vTg ⟨#[65]⟩ 1,vB true]) := by
  have h := sp7 TW ⟨#[66]⟩ ⟨#[121]⟩ small4.1 TW_c
  rw [show seekL TW ⟨#[121]⟩ (chC TW ⟨#[66]⟩) = (⟨#[65]⟩,1,true) by decide +kernel] at h
  exact h
theorem t7z : PC 7 [vP TW,vS ⟨#[66]⟩,vS ⟨#[122]⟩] (fun r => r = .tup [vTg ⟨#[]⟩ 0,vB false]) := by
  have h := sp7 TW ⟨#[66]⟩ ⟨#[122]⟩ small4.1 TW_c
  rw [show seekL TW ⟨#[122]⟩ (chC TW ⟨#[66]⟩) = (⟨#[]⟩,0,false) by decide +kernel] at h
  exact h
theorem t10 : PC 10 [vP TW,vTg ⟨#[65]⟩ 1] (fun r => r = .tup [vFe ⟨true,⟨#[65]⟩,⟨#[121]⟩,[]⟩,vB true]) := sp10 TW ⟨#[65]⟩ 1 _ small4.1 TW_c (by decide) rfl
theorem t12 : PC 12 [vP TW,vS ⟨#[66]⟩] (fun r => r = .d (.sl [dS ⟨#[65]⟩,dI 0,dS ⟨#[66]⟩,dI 0] 2)) := by
  have h := sp12 TW ⟨#[66]⟩ small4.1 TW_c (by decide +kernel)
  have e : (chC TW ⟨#[66]⟩).reverse = [⟨#[65]⟩,⟨#[66]⟩] := by decide +kernel
  rw [e] at h
  exact h
theorem t8 : PC 8 [vP TW,vS ⟨#[66]⟩,vS ⟨#[121]⟩] (fun r => r = vI (-1)) := by
  have h := sp8 TW ⟨#[66]⟩ ⟨#[121]⟩ small4.1
  rw [show (if (checkC TW).1 = 0 then ownF TW ⟨#[66]⟩ ⟨#[121]⟩ else -1) = -1 by decide +kernel] at h
  exact h
theorem t8q : PC 8 [vP Q3,vS ⟨#[65]⟩,vS ⟨#[120]⟩] (fun r => r = vI (-1)) := by
  have h := sp8 Q3 ⟨#[65]⟩ ⟨#[120]⟩ small4.2.2.2
  rw [show (if (checkC Q3).1 = 0 then ownF Q3 ⟨#[65]⟩ ⟨#[120]⟩ else -1) = -1 by decide +kernel] at h
  exact h
theorem t15b : PC 15 [vP TW,vS ⟨#[66]⟩,vS ⟨#[120]⟩] (fun r => r = vB true) := by
  have h := sp15 TW ⟨#[66]⟩ ⟨#[120]⟩ small4.1 TW_c
  rw [show (decide (0 ≤ ownF TW ⟨#[66]⟩ ⟨#[120]⟩) && hidL TW ⟨#[120]⟩ ((chC TW ⟨#[66]⟩).drop 1)) = true by decide +kernel] at h
  exact h
theorem t15a : PC 15 [vP TW,vS ⟨#[65]⟩,vS ⟨#[120]⟩] (fun r => r = vB false) := by
  have h := sp15 TW ⟨#[65]⟩ ⟨#[120]⟩ small4.1 TW_c
  rw [show (decide (0 ≤ ownF TW ⟨#[65]⟩ ⟨#[120]⟩) && hidL TW ⟨#[120]⟩ ((chC TW ⟨#[65]⟩).drop 1)) = false by decide +kernel] at h
  exact h
theorem t23a : PC 23 [vP Q1] (fun r => r = .tup [vI 6,vI 1]) := by
  have h := sp23 Q1 small4.2.1
  rw [show checkF Q1 = (6,1) by decide +kernel] at h
  exact h
theorem t23b : PC 23 [vP Q2] (fun r => r = .tup [vI 7,vI 1]) := by
  have h := sp23 Q2 small4.2.2.1
  rw [show checkF Q2 = (7,1) by decide +kernel] at h
  exact h
theorem t23c : PC 23 [vP Q3] (fun r => r = .tup [vI 1,vI 0]) := by
  have h := sp23 Q3 small4.2.2.2
  rw [show checkF Q3 = (1,0) by decide +kernel] at h
  exact h
theorem sp22 : PC 22 [] (fun r => r = vP TW) := by
  intro S T M
  refine callT_go [] [] Tryz.func22 rfl Tryz.ntmps22 Tryz.results22 ?_
  repeat' (first | apply triL_nil | (apply V;rfl;(apply E_bd;(apply plT;rfl);rfl)) | (apply Vw;rfl;(first | (apply W_alL;rfl;(apply tyT;rfl)) | (apply W_bsL;rfl;(apply elT;rfl);(apply tyT;rfl);rfl;decide;rfl;rfl))) | (apply Vs;rfl;(apply W_stL;rfl;(apply tyT;rfl);rfl;rfl;rfl;(first | apply okC_new | (apply okC_ge;omega));rfl;rfl;(first | decide | (apply Nat.le_of_ble_eq_true;rfl)))) | (apply s_region;rfl) | apply tri_ret | (apply end_q _ (.inr rfl);(exact List.prefix_append _ _);(focus repeat (first | apply R_nil | (apply R_cell;rfl;rfl;apply tyT;rfl;rfl;rfl)));rfl))
  rfl
theorem two_b (S : List (List BV × Nat)) (T : List Nat) (M : List (List (Value × DV))) : CallT Tryz.prog [] [] 22 [] ⟨S,T,M⟩ (fun r s => ∃ X,r = .agg [.bsl (S.length + 1) 2] ∧ s = ⟨S ++ [([.bsl (S.length + 1) 2],25),([.d (dS ⟨#[65]⟩),.d (dS ⟨#[]⟩),.tight [dB false,dS ⟨#[105,110,116]⟩,dS ⟨#[120]⟩,.sl [] 0,dB true,dS ⟨#[65]⟩,dS ⟨#[121]⟩,.sl [] 0] 2,.tight [] 0,.d (dS ⟨#[66]⟩),.d (dS ⟨#[65]⟩),.tight [dB false,dS ⟨#[83,116,114,105,110,103]⟩,dS ⟨#[120]⟩,.sl [] 0] 1,.tight [] 0],30)],T ++ X,M⟩) := by
  refine callT_goN [] [] Tryz.func22 rfl Tryz.ntmps22 Tryz.results22 ?_
  repeat' (first | apply triL_nil | (apply V;rfl;(apply E_bd;(apply plT;rfl);rfl)) | (show TriL _ _ (⟨some 8,_,_,_,_,_⟩ :: _) _ _ _;apply VR;rfl;apply opR_bsB;rfl;rfl;apply elT;rfl;apply tyT;rfl;rfl;decide;rfl) | (apply VR;rfl;apply opR_bsT;rfl;apply elT;rfl;apply tyT;rfl;rfl;decide;rfl;rfl) | (apply Vw;rfl;(apply W_alL;rfl;(apply tyT;rfl))) | (apply Vs;rfl;(apply W_stL;rfl;(apply tyT;rfl);rfl;rfl;rfl;(first | apply okC_new | (apply okC_ge;omega));rfl;rfl;(first | decide | (apply Nat.le_of_ble_eq_true;rfl)))) | (apply s_region;rfl) | apply tri_ret)
  show endN Tryz.prog [.cell 0 25] [] ⟨S,T,M⟩ _ _ _ ⟨S ++ [([.bsl (S.length + 1) 2],25),([.d (dS ⟨#[65]⟩),.d (dS ⟨#[]⟩),.tight [dB false,dS ⟨#[105,110,116]⟩,dS ⟨#[120]⟩,.sl [] 0,dB true,dS ⟨#[65]⟩,dS ⟨#[121]⟩,.sl [] 0] 2,.tight [] 0,.d (dS ⟨#[66]⟩),.d (dS ⟨#[65]⟩),.tight [dB false,dS ⟨#[83,116,114,105,110,103]⟩,dS ⟨#[120]⟩,.sl [] 0] 1,.tight [] 0],30)],T ++ [8,4],M⟩
  refine end_all _ (.inr rfl) (R_cell rfl rfl (tyT rfl) rfl rfl R_nil) (by simp [lows,low]) ?_ (List.prefix_append _ _) ⟨_,rfl,rfl⟩
  intro c hc
  simp only [List.mem_cons,List.not_mem_nil,or_false] at hc
  rcases hc with rfl | rfl <;> simp [lows,low]
end Go.Proofs.YtokilnhpepbjlaaGreat
namespace Go.Proofs.YtokilnhpepbjlaaGreat.Calc
open Go Go.RowKit
set_option linter.unusedVariables false
section
variable {P : Program} {ok okm : Nat → Bool} {o : Oper} {ρ : Rg} {st : St} {Q : Rg → St → Prop} {x y : Operand}
theorem opR_bin {f : BinOp} {t ty : Nat} {a b : Value} {br : BV} (ho : o.op = .binOp f t x y ty) (hx : (evB ρ x).bind keyB = some a) (hy : (evB ρ y).bind keyB = some b) (hv : (quiet P (do eqGuard f t x y a b;binOp f t a b)).bind constB = some br) (hq : Q (updO ρ o.dst br) st) : OpR P ok okm o ρ st Q := by
  intro nt z c Kx h1 h2 h3 h4
  subst h1
  obtain ⟨bx,hx1,hx2⟩ := Option.bind_eq_some_iff.1 hx
  have hax := keyB_rep (h3.ev hx1) hx2
  obtain ⟨by',hy1,hy2⟩ := Option.bind_eq_some_iff.1 hy
  have hay := keyB_rep (h3.ev hy1) hy2
  obtain ⟨v,hv,hb⟩ := quietB (x := z) hv
  have hrun : (execOp c.eval o).run P z.w = .ok (.value v) z.w := by
    obtain ⟨dst,op,type,pos,after,guard⟩ := o
    subst ho
    rw [show (execOp c.eval { dst := dst,op := .binOp f t x y ty,type := type,pos := pos,after := after,guard := guard }) = (do let z ← (do eqGuard f t x y (c.eval x) (c.eval y);binOp f t (c.eval x) (c.eval y));pure (.value z)) from rfl,hax,hay,Sem.run_bind,hv]
    simp
  unfold Oper.wp
  rw [hrun]
  exact ⟨_,z,[],[],rfl,hq,h2,Step.refl _ _ _,by simp,by simp,h3.put h4 hb⟩
end
section
variable {C : Cx} {ops : Array Oper} {l : List Oper} {ρ : Rg} {st : St} {Q : Rg → St → Prop} {dst : Option Nat} {op : Op} {ty : Nat} {pos : String} {aft : Array Edge} {g : Option (Nat × Bool)} {Wr ds : List Nat} {p : Plan} {i : Nat}
end
end Go.Proofs.YtokilnhpepbjlaaGreat.Calc
namespace Go.Proofs.YtokilnhpepbjlaaGreat
open Go Go.RowKit Go.Proofs.YtokilnhpepbjlaaGreat.Calc
set_option linter.unusedVariables false
set_option linter.unusedSimpArgs false
set_option maxRecDepth 100000
set_option maxHeartbeats 8000000
attribute [local irreducible] Tri TriL TriP CallT stepV stepW thenQ inQ endQ endN
theorem two_bL {nb : Nat} (S L : List (List BV × Nat)) (T X : List Nat) (M : List (List (Value × DV))) (hS : S.length = nb) : CallT Tryz.prog [] [] 22 [] ⟨S ++ L,T ++ X,M⟩ (fun r s => ∃ Y,r = .agg [.bsl (nb + (L.length + 1)) 2] ∧ s = ⟨S ++ (L ++ [([.bsl (nb + (L.length + 1)) 2],25),([.d (dS ⟨#[65]⟩),.d (dS ⟨#[]⟩),.tight [dB false,dS ⟨#[105,110,116]⟩,dS ⟨#[120]⟩,.sl [] 0,dB true,dS ⟨#[65]⟩,dS ⟨#[121]⟩,.sl [] 0] 2,.tight [] 0,.d (dS ⟨#[66]⟩),.d (dS ⟨#[65]⟩),.tight [dB false,dS ⟨#[83,116,114,105,110,103]⟩,dS ⟨#[120]⟩,.sl [] 0] 1,.tight [] 0],30)]),T ++ (X ++ Y),M⟩) := by
  refine call_mono (two_b (S ++ L) (T ++ X) M) fun r s ⟨Y,h1,h2⟩ => ?_
  subst h1 h2
  have e : (S ++ L).length + 1 = nb + (L.length + 1) := by rw [List.length_append,hS,Nat.add_assoc]
  rw [e]
  exact ⟨Y,rfl,by rw [List.append_assoc,List.append_assoc]⟩
theorem sp9 : PC 9 [] (fun r => r = vB true) := by
  intro S T M
  refine call_ids fun hS => ?_
  refine callT_go [] [] Tryz.func9 rfl Tryz.ntmps9 Tryz.results9 ?_
  repeat' (first | apply triL_nil | (apply V;rfl;(first | (apply E_eqT7;rfl;rfl) | (apply E_mv;rfl) | (apply E_as;rfl) | (apply E_fa;(apply plT;rfl);rfl;rfl;decide) | (apply E_lda;(apply tyT;rfl);rfl;(apply at_;rfl;rfl);rfl) | (apply E_ld;(apply tyT;rfl);rfl;(apply at_;rfl;rfl);rfl) | (apply E_lea;(apply tyT;rfl);rfl;(first | rfl | apply encEx_len | apply encSm_len)) | (apply E_len;(apply elT;rfl);rfl;rfl) | (apply E_pkT;rfl;rfl) | (apply E_ex;rfl;rfl) | (apply E_not;rfl) | (apply E_bd;(apply plT;rfl);rfl) | (apply E_ia;apply elT;rfl;rfl;rfl;rfl;decide))) | (show TriL _ _ (⟨some 35,_,_,_,_,_⟩ :: _) _ _ _;apply Vc;rfl;rfl;apply fnT;rfl;apply two_bL;rfl;(intro i_ hi_;cases hi_);(intro i_ hi_;cases hi_);rintro _ _ ⟨X,rfl,rfl⟩) | (apply Vp;rfl;rfl;apply fnT;rfl;apply sp22;rintro _ rfl) | (apply Vp;rfl;rfl;apply fnT;rfl;apply t7y;rintro _ rfl) | (apply Vp;rfl;rfl;apply fnT;rfl;apply t7z;rintro _ rfl) | (apply Vp;rfl;rfl;apply fnT;rfl;apply t10;rintro _ rfl) | (apply Vp;rfl;rfl;apply fnT;rfl;apply t12;rintro _ rfl) | (apply Vp;rfl;rfl;apply fnT;rfl;apply t8;rintro _ rfl) | (apply Vp;rfl;rfl;apply fnT;rfl;apply t15b;rintro _ rfl) | (apply Vp;rfl;rfl;apply fnT;rfl;apply t15a;rintro _ rfl) | (apply VR;rfl;apply opR_bin;rfl;rfl;rfl;(first | exact q34 _ _ _ (.inl rfl) | exact q34 _ _ _ (.inr (.inl rfl)) | exact q34 _ _ _ (.inr (.inr rfl)))) | (apply VR;rfl;apply opR_iaB;rfl;apply elT;rfl;rfl;rfl;decide) | (apply s_drawn (nt := 145) (.take 0 (.take 1 (.take 2 (.take 3 (.take 7 (.fork 4 (.take 5 (.take 6 (.one 8 (.one 9 (.one 10 (.take 11 (.one 12 .nil))))))) 8 (.one 4 (.take 5 (.take 6 (.one 9 (.one 10 (.take 11 (.one 12 .nil))))))))))))) [] [12];exact mixed;rfl;decide +kernel) | apply d_fork | (apply oR;rfl;rfl;apply opR_iaB;rfl;apply elT;rfl;rfl;rfl;decide) | (apply oR;rfl;rfl;apply opR_apB;rfl;rfl;apply elT;rfl;apply tyT;rfl;apply byT;rfl;rfl;rfl;rfl;rfl;decide;decide;decide;rfl;intro N) | (show TriL _ _ (⟨some 50,_,_,_,_,_⟩ :: _) _ _ _;apply Vc;rfl;rfl;apply fnT;rfl;apply (call_lend (L := _) hS (.cons _ _ _ _ (.agg _ [encL encCl Q1] (.cons _ _ _ _ (.bsl 5 2 30 [.d (dS ⟨#[65]⟩),.d (dS ⟨#[]⟩),.tight [dB false,dS ⟨#[105,110,116]⟩,dS ⟨#[120]⟩,.sl [] 0,dB true,dS ⟨#[65]⟩,dS ⟨#[121]⟩,.sl [] 0] 2,.tight [] 0,.d (dS ⟨#[66]⟩),.d (dS ⟨#[65]⟩),.bsl (S.length + 7) 2,.tight [] 0] [] _ rfl (.cons _ _ _ _ (.d _) (.cons _ _ _ _ (.d _) (.cons _ _ _ _ (.tight _ _) (.cons _ _ _ _ (.tight _ _) (.cons _ _ _ _ (.d _) (.cons _ _ _ _ (.d _) (.cons _ _ _ _ (.bsl 7 2 41 [.d (dB false),.d (dS ⟨#[83,116,114,105,110,103]⟩),.d (dS ⟨#[120]⟩),.d (.sl [] 0),.d (dB false),.d (dS ⟨#[105,110,116]⟩),.d (dS ⟨#[120]⟩),.d (.sl [] 0)] (List.replicate N .any) _ rfl (.cons _ _ _ _ (.d _) (.cons _ _ _ _ (.d _) (.cons _ _ _ _ (.d _) (.cons _ _ _ _ (.d _) (.cons _ _ _ _ (.d _) (.cons _ _ _ _ (.d _) (.cons _ _ _ _ (.d _) (.cons _ _ _ _ (.d _) .nil)))))))) rfl) (.cons _ _ _ _ (.tight _ _) .nil)))))))) rfl) .nil)) .nil) (fun r hr => by rw [hr];rfl) (t23a S _ M));(intro i_ hi_;cases hi_);(intro i_ hi_;cases hi_);rintro _ _ ⟨rfl,rfl⟩) | (show TriL _ _ (⟨some 62,_,_,_,_,_⟩ :: _) _ _ _;apply Vc;rfl;rfl;apply fnT;rfl;apply (call_lend (L := _) hS (.cons _ _ _ _ (.agg _ [encL encCl Q2] (.cons _ _ _ _ (.bsl 5 2 30 [.d (dS ⟨#[65]⟩),.d (dS ⟨#[]⟩),.tight [dB false,dS ⟨#[105,110,116]⟩,dS ⟨#[120]⟩,.sl [] 0,dB true,dS ⟨#[65]⟩,dS ⟨#[121]⟩,.sl [] 0] 2,.tight [] 0,.d (dS ⟨#[66]⟩),.d (dS ⟨#[65]⟩),.bsl (S.length + 7) 2,.tight [] 0] [] _ rfl (.cons _ _ _ _ (.d _) (.cons _ _ _ _ (.d _) (.cons _ _ _ _ (.tight _ _) (.cons _ _ _ _ (.tight _ _) (.cons _ _ _ _ (.d _) (.cons _ _ _ _ (.d _) (.cons _ _ _ _ (.bsl 7 2 41 [.d (dB false),.d (dS ⟨#[83,116,114,105,110,103]⟩),.d (dS ⟨#[120]⟩),.d (.sl [] 0),.d (dB false),.d (dS ⟨#[81]⟩),.d (dS ⟨#[122]⟩),.tight [] 0] (List.replicate N .any) _ rfl (.cons _ _ _ _ (.d _) (.cons _ _ _ _ (.d _) (.cons _ _ _ _ (.d _) (.cons _ _ _ _ (.d _) (.cons _ _ _ _ (.d _) (.cons _ _ _ _ (.d _) (.cons _ _ _ _ (.d _) (.cons _ _ _ _ (.tight _ _) .nil)))))))) rfl) (.cons _ _ _ _ (.tight _ _) .nil)))))))) rfl) .nil)) .nil) (fun r hr => by rw [hr];rfl) (t23b S _ M));(intro i_ hi_;cases hi_);(intro i_ hi_;cases hi_);rintro _ _ ⟨rfl,rfl⟩) | (show TriL _ _ (⟨some 71,_,_,_,_,_⟩ :: _) _ _ _;apply Vc;rfl;rfl;apply fnT;rfl;apply (call_lend (L := _) hS (.cons _ _ _ _ (.agg _ [encL encCl Q3] (.cons _ _ _ _ (.bsl 5 2 30 [.d (dS ⟨#[65]⟩),.d (dS ⟨#[66]⟩),.tight [dB false,dS ⟨#[105,110,116]⟩,dS ⟨#[120]⟩,.sl [] 0,dB true,dS ⟨#[65]⟩,dS ⟨#[121]⟩,.sl [] 0] 2,.tight [] 0,.d (dS ⟨#[66]⟩),.d (dS ⟨#[65]⟩),.bsl (S.length + 7) 2,.tight [] 0] [] _ rfl (.cons _ _ _ _ (.d _) (.cons _ _ _ _ (.d _) (.cons _ _ _ _ (.tight _ _) (.cons _ _ _ _ (.tight _ _) (.cons _ _ _ _ (.d _) (.cons _ _ _ _ (.d _) (.cons _ _ _ _ (.bsl 7 2 41 [.d (dB false),.d (dS ⟨#[83,116,114,105,110,103]⟩),.d (dS ⟨#[120]⟩),.d (.sl [] 0),.d (dB false),.d (dS ⟨#[81]⟩),.d (dS ⟨#[122]⟩),.tight [] 0] (List.replicate N .any) _ rfl (.cons _ _ _ _ (.d _) (.cons _ _ _ _ (.d _) (.cons _ _ _ _ (.d _) (.cons _ _ _ _ (.d _) (.cons _ _ _ _ (.d _) (.cons _ _ _ _ (.d _) (.cons _ _ _ _ (.d _) (.cons _ _ _ _ (.tight _ _) .nil)))))))) rfl) (.cons _ _ _ _ (.tight _ _) .nil)))))))) rfl) .nil)) .nil) (fun r hr => by rw [hr];rfl) (t23c S _ M));(intro i_ hi_;cases hi_);(intro i_ hi_;cases hi_);rintro _ _ ⟨rfl,rfl⟩) | (show TriL _ _ (⟨some 142,_,_,_,_,_⟩ :: _) _ _ _;apply Vc;rfl;rfl;apply fnT;rfl;apply (call_lend (L := _) hS (.cons _ _ _ _ (.agg _ [encL encCl Q3] (.cons _ _ _ _ (.bsl 5 2 30 [.d (dS ⟨#[65]⟩),.d (dS ⟨#[66]⟩),.tight [dB false,dS ⟨#[105,110,116]⟩,dS ⟨#[120]⟩,.sl [] 0,dB true,dS ⟨#[65]⟩,dS ⟨#[121]⟩,.sl [] 0] 2,.tight [] 0,.d (dS ⟨#[66]⟩),.d (dS ⟨#[65]⟩),.bsl (S.length + 7) 2,.tight [] 0] [] _ rfl (.cons _ _ _ _ (.d _) (.cons _ _ _ _ (.d _) (.cons _ _ _ _ (.tight _ _) (.cons _ _ _ _ (.tight _ _) (.cons _ _ _ _ (.d _) (.cons _ _ _ _ (.d _) (.cons _ _ _ _ (.bsl 7 2 41 [.d (dB false),.d (dS ⟨#[83,116,114,105,110,103]⟩),.d (dS ⟨#[120]⟩),.d (.sl [] 0),.d (dB false),.d (dS ⟨#[81]⟩),.d (dS ⟨#[122]⟩),.tight [] 0] (List.replicate N .any) _ rfl (.cons _ _ _ _ (.d _) (.cons _ _ _ _ (.d _) (.cons _ _ _ _ (.d _) (.cons _ _ _ _ (.d _) (.cons _ _ _ _ (.d _) (.cons _ _ _ _ (.d _) (.cons _ _ _ _ (.d _) (.cons _ _ _ _ (.tight _ _) .nil)))))))) rfl) (.cons _ _ _ _ (.tight _ _) .nil)))))))) rfl) .nil)) (.cons _ _ _ _ (.d _ _ (.d _)) (.cons _ _ _ _ (.d _ _ (.d _)) .nil))) (fun r hr => by rw [hr];rfl) (t8q S _ M));(intro i_ hi_;cases hi_);(intro i_ hi_;cases hi_);rintro _ _ ⟨rfl,rfl⟩) | (apply Vw;rfl;(first | (apply W_alL;rfl;(apply tyT;rfl)) | (apply W_bsL;rfl;(apply elT;rfl);(apply tyT;rfl);rfl;decide;rfl;rfl))) | (apply Vs;rfl;(apply W_stL;rfl;(apply tyT;rfl);rfl;rfl;rfl;(first | apply okC_new | (apply okC_ge;omega));rfl;rfl;(first | decide | (apply Nat.le_of_ble_eq_true;rfl)))) | (apply s_region;rfl) | apply tri_ret | (apply end_q _ (.inr rfl);(exact List.prefix_append _ _);(focus repeat (first | apply R_nil | (apply R_tmp;rfl)));rfl) | apply d_nil | (apply tV;rfl;rfl;(first | (apply E_eqT7;rfl;rfl) | (apply E_mv;rfl) | (apply E_as;rfl) | (apply E_fa;(apply plT;rfl);rfl;rfl;decide) | (apply E_lda;(apply tyT;rfl);rfl;(apply at_;rfl;rfl);rfl) | (apply E_ld;(apply tyT;rfl);rfl;(apply at_;rfl;rfl);rfl) | (apply E_lea;(apply tyT;rfl);rfl;(first | rfl | apply encEx_len | apply encSm_len)) | (apply E_len;(apply elT;rfl);rfl;rfl) | (apply E_pkT;rfl;rfl) | (apply E_ex;rfl;rfl) | (apply E_not;rfl) | (apply E_bd;(apply plT;rfl);rfl) | (apply E_ia;apply elT;rfl;rfl;rfl;rfl;decide));rfl) | (apply oW;rfl;rfl;(first | (apply W_alL;rfl;(apply tyT;rfl)) | (apply W_bsL;rfl;(apply elT;rfl);(apply tyT;rfl);rfl;decide;rfl;rfl))) | (apply oS;rfl;rfl;(apply W_stL;rfl;(apply tyT;rfl);rfl;rfl;rfl;(first | (apply okD_new;rfl) | (apply okD_ge;omega;rfl));rfl;rfl;(first | decide | (apply Nat.le_of_ble_eq_true;rfl)))))
  all_goals rfl
end Go.Proofs.YtokilnhpepbjlaaGreat
namespace Go.Proofs.YtokilnhpepbjlaaGreat
open Go Go.RowKit Go.Proofs.YtokilnhpepbjlaaGreat.Calc
set_option linter.unusedVariables false
set_option linter.unusedSimpArgs false
set_option maxRecDepth 100000
set_option maxHeartbeats 8000000
def me0 : Me := ⟨false,false,⟨#[]⟩,⟨#[]⟩,[],[]⟩
def fi0 : Fi := ⟨false,⟨#[]⟩,⟨#[]⟩,[]⟩
def cl0 : Cl := ⟨⟨#[]⟩,⟨#[]⟩,[],[]⟩
def vFi (f : Fi) : BV := .agg ((encFi f).map .d)
def vTw (o : ByteArray) (n : Int) : BV := .agg [.d (dS o),.d (dI n)]
theorem vMe0 : vMe me0 = .agg [.d (dB false),.d (dB false),.d (dS ⟨#[]⟩),.d (dS ⟨#[]⟩),.d (.sl [] 0),.d (.sl [] 0)] := by
  simp only [vMe,encMe,me0,encL,rowSm,encSms_eq,List.map_cons,List.map_nil,List.flatMap_nil,List.length_nil]
theorem vFi0 : vFi fi0 = .agg [.d (dB false),.d (dS ⟨#[]⟩),.d (dS ⟨#[]⟩),.d (.sl [] 0)] := by
  simp only [vFi,encFi,fi0,rowEx,encExs_eq,List.map_cons,List.map_nil,List.flatMap_nil,List.length_nil]
abbrev Sz (p : List Cl) : Prop := szP p ≤ 1000000
theorem class_sz (p : List Cl) (a : ByteArray) (h : Sz p) : szCl (classC p a) ≤ 1000000 := by
  rcases classC_eq p a with ⟨j,c,hc,_,e⟩ | ⟨_,e⟩
  · rw [e]
    exact Nat.le_trans (sum_at (f := szCl) hc) h
  · rw [e]
    simp [szCl]
theorem small_of {p : List Cl} (h : Sz p) : p.length ≤ 1000000 := Nat.le_trans (classes_len p) h
theorem Small_of {p : List Cl} (h : Sz p) : Small p := ⟨small_of h,fun c hc => by
  obtain ⟨k,hk⟩ := List.getElem?_of_mem hc
  exact Nat.le_trans (fields_len c) (Nat.le_trans (sum_at (f := szCl) hk) h)⟩
theorem me_at {c : Cl} {k : Nat} {m : Me} (h : c.methods[k]? = some m) : szMe m ≤ szCl c := by
  have := sum_at (f := szMe) h
  simp only [szCl]
  omega
theorem par_le (m : Me) : m.params.length ≤ szMe m := by simp only [szMe];omega
theorem ex_at {α : Type} [Inhabited α] (l : List α) (n : Int) : ∃ m,0 ≤ n → n < l.length → l[n.toNat]? = some m := by
  by_cases h : 0 ≤ n ∧ n < l.length
  · exact ⟨l[n.toNat]'(by omega),fun _ _ => List.getElem?_eq_getElem (by omega)⟩
  · exact ⟨default,fun h1 h2 => absurd ⟨h1,h2⟩ h⟩
instance : Inhabited Me := ⟨me0⟩
instance : Inhabited Fi := ⟨fi0⟩
instance : Inhabited Cl := ⟨cl0⟩
attribute [local irreducible] Tri TriL TriP CallT stepV stepW thenQ inQ endQ
theorem sp147 (p : List Cl) (a : ByteArray) (n : Int) (hp : Sz p) : PC 147 [vP p,vTw a n] (fun r => ∃ (m : Fi) (b : Bool),r = .tup [vFi m,vB b] ∧ (b = true → 0 ≤ n ∧ (classC p a).fields[n.toNat]? = some m)) := by
  have h68 := sp128 p a (small_of hp)
  have hcs := class_sz p a hp
  have hfl := fields_len (classC p a)
  unfold vClA at h68
  generalize classC p a = c at *
  obtain ⟨cn,csup,cf,cm⟩ := c
  dsimp only at *
  obtain ⟨m,hm⟩ := ex_at cf n
  intro S T M
  refine callT_go [] [] Tryz.func147 rfl Tryz.ntmps147 Tryz.results147 ?_
  repeat' (first | apply triL_nil | (apply V;rfl;(first | (apply E_mv;rfl) | (apply E_as;rfl) | (apply E_fa;(apply plT;rfl);rfl;rfl;decide) | (apply E_lda;(apply tyT;rfl);rfl;(apply at_;rfl;rfl);rfl) | (apply E_ld;(apply tyT;rfl);rfl;(apply at_;rfl;rfl);rfl) | (apply E_lea;(apply tyT;rfl);rfl;(first | rfl | apply encEx_len | apply encSm_len)) | (apply E_len;(apply elT;rfl);rfl;rfl) | (apply E_pkT;rfl;rfl) | (apply E_pkF;rfl;rfl) | (apply E_bd;(apply plT;rfl);rfl) | (apply E_ial (c := m);apply elT;rfl;rfl;rfl;rfl;exact encFi_len;omega;(first | exact hm (by omega) (by omega) | simpa using hm (by omega) (by omega))))) | (apply Vp;rfl;rfl;apply fnT;rfl;apply h68;rintro _ rfl) | (apply Vd;rfl;(first | (apply E_lss;rfl;rfl) | (apply E_geq;rfl;rfl));all_goals intro h_) | (apply Vo;rfl) | (apply Vw;rfl;(first | (apply W_alL;rfl;(apply tyT;rfl)) | (apply W_bxL;rfl;rfl;rfl))) | (apply Vs;rfl;(apply W_stL;rfl;(apply tyT;rfl);rfl;rfl;rfl;(first | apply okC_new | (apply okC_ge;omega));rfl;rfl;(first | decide | (apply Nat.le_of_ble_eq_true;rfl)))) | (apply s_region;rfl) | apply tri_seq | apply tri_skip | apply tri_ret | (apply tri_condT;rfl) | (apply tri_condF;rfl) | (apply end_q _ (.inr rfl);(exact List.prefix_append _ _);(focus repeat (first | apply R_nil | (apply R_tmp;rfl) | (apply R_cell;rfl;rfl;apply tyT;rfl;rfl;rfl)));rfl) | apply p_then | apply p_thenR)
  · exact ⟨fi0,false,by rw [vFi0];rfl,(fun h => nomatch h)⟩
  · exact ⟨fi0,false,by rw [vFi0];rfl,(fun h => nomatch h)⟩
  · exact ⟨m,true,rfl,fun _ => ⟨by omega,hm (by omega) (by omega)⟩⟩
theorem sp131 (p : List Cl) (a : ByteArray) (n : Int) (hp : Sz p) : PC 131 [vP p,vTw a n] (fun r => ∃ (m : Me) (b : Bool),r = .tup [vMe m,vB b] ∧ (b = true → 0 ≤ n ∧ (classC p a).methods[n.toNat]? = some m) ∧ m.params.length ≤ 1000000) := by
  have h68 := sp128 p a (small_of hp)
  have hcs := class_sz p a hp
  have hfl := methods_len (classC p a)
  have hpar : ∀ (k : Nat) (m : Me),(classC p a).methods[k]? = some m → m.params.length ≤ 1000000 := fun k m h => Nat.le_trans (par_le m) (Nat.le_trans (me_at h) hcs)
  unfold vClA at h68
  generalize classC p a = c at *
  obtain ⟨cn,csup,cf,cm⟩ := c
  dsimp only at *
  obtain ⟨m,hm⟩ := ex_at cm n
  intro S T M
  refine callT_go [] [] Tryz.func131 rfl Tryz.ntmps131 Tryz.results131 ?_
  repeat' (first | apply triL_nil | (apply V;rfl;(first | (apply E_mv;rfl) | (apply E_as;rfl) | (apply E_fa;(apply plT;rfl);rfl;rfl;decide) | (apply E_lda;(apply tyT;rfl);rfl;(apply at_;rfl;rfl);rfl) | (apply E_ld;(apply tyT;rfl);rfl;(apply at_;rfl;rfl);rfl) | (apply E_lea;(apply tyT;rfl);rfl;(first | rfl | apply encEx_len | apply encSm_len)) | (apply E_len;(apply elT;rfl);rfl;rfl) | (apply E_pkT;rfl;rfl) | (apply E_pkF;rfl;rfl) | (apply E_bd;(apply plT;rfl);rfl) | (apply E_ial (c := m);apply elT;rfl;rfl;rfl;rfl;exact encMe_len;omega;(first | exact hm (by omega) (by omega) | simpa using hm (by omega) (by omega))))) | (apply Vp;rfl;rfl;apply fnT;rfl;apply h68;rintro _ rfl) | (apply Vd;rfl;(first | (apply E_lss;rfl;rfl) | (apply E_geq;rfl;rfl));all_goals intro h_) | (apply Vo;rfl) | (apply Vw;rfl;(first | (apply W_alL;rfl;(apply tyT;rfl)) | (apply W_bxL;rfl;rfl;rfl))) | (apply Vs;rfl;(apply W_stL;rfl;(apply tyT;rfl);rfl;rfl;rfl;(first | apply okC_new | (apply okC_ge;omega));rfl;rfl;(first | decide | (apply Nat.le_of_ble_eq_true;rfl)))) | (apply s_region;rfl) | apply tri_seq | apply tri_skip | apply tri_ret | (apply tri_condT;rfl) | (apply tri_condF;rfl) | (apply end_q _ (.inr rfl);(exact List.prefix_append _ _);(focus repeat (first | apply R_nil | (apply R_tmp;rfl) | (apply R_cell;rfl;rfl;apply tyT;rfl;rfl;rfl)));rfl) | apply p_then | apply p_thenR)
  · exact ⟨me0,false,by rw [vMe0];rfl,(fun h => nomatch h),by decide⟩
  · exact ⟨me0,false,by rw [vMe0];rfl,(fun h => nomatch h),by decide⟩
  · exact ⟨m,true,rfl,fun _ => ⟨by omega,hm (by omega) (by omega)⟩,hpar _ _ (hm (by omega) (by omega))⟩
theorem sp146 (p : List Cl) (a name : ByteArray) (hp : Sz p) : PC 146 [vP p,vS a,vS name] (fun r => ∃ (o : ByteArray) (n : Int) (b : Bool),r = .tup [vTw o n,vB b]) := by
  have h67 := sp28 p a (small_of hp)
  have hcl := ch_len p a
  have hpl := small_of hp
  generalize chC p a = l at *
  intro S T M
  refine callT_go [] [] Tryz.func146 rfl Tryz.ntmps146 Tryz.results146 ?_
  repeat' (first | apply triL_nil | (apply V;rfl;(first | (apply E_mv;rfl) | (apply E_as;rfl) | (apply E_lda;(apply tyT;rfl);rfl;(apply at_;rfl;rfl);rfl))) | (apply Vp;rfl;rfl;apply fnT;rfl;apply h67;rintro _ rfl) | (apply Vw;rfl;(first | (apply W_alL;rfl;(apply tyT;rfl)) | (apply W_bxL;rfl;rfl;rfl))) | (apply s_region;rfl) | apply tri_seq | apply tri_block)
  refine tri_fix (fun k : Nat => l.length - k) (fun k => [(2,vS name),(3,.ptr (S.length + 0) 0),(6,.ptr (S.length + 1) 0),(8,.d (encL encStr l)),(9,vI k)]) (fun k => k ≤ l.length) 0 (Nat.zero_le _) ⟨rfl,rfl,rfl,rfl,rfl,trivial⟩ ?_
  rintro k hk
  repeat' (first | apply triL_nil | (apply V;rfl;(first | (apply E_mv;rfl) | (apply E_as;rfl) | (apply E_len;(apply elT;rfl);rfl;rfl) | (apply E_bd;(apply plT;rfl);rfl))) | (apply Vd;rfl;(apply E_lss;rfl;rfl);all_goals intro h_) | (apply Vs;rfl;(apply W_stL;rfl;(apply tyT;rfl);rfl;rfl;rfl;(first | apply okC_new | (apply okC_ge;omega));rfl;rfl;(first | decide | (apply Nat.le_of_ble_eq_true;rfl)))) | (apply s_region;rfl) | apply tri_seq | apply tri_block | apply tri_skip | apply tri_exit | apply tri_ret | (apply tri_condT;rfl) | (apply tri_condF;rfl) | (apply end_q _ (.inr rfl);(exact List.prefix_append _ _);(focus repeat (first | apply R_nil | (apply R_tmp;rfl) | (apply R_cell;rfl;rfl;apply tyT;rfl;rfl;rfl)));rfl) | apply p_then | apply p_in | apply p_thenE)
  · obtain ⟨c,hc⟩ : ∃ c,l[k]? = some c := ⟨_,List.getElem?_eq_getElem (by omega)⟩
    repeat' (first | apply triL_nil | (apply V;rfl;(first | (apply E_mv;rfl) | (apply E_as;rfl) | (apply E_lda;(apply tyT;rfl);rfl;(apply at_;rfl;rfl);rfl) | (apply E_le;(apply tyT;rfl);rfl;rfl) | (apply E_bd;(apply plT;rfl);rfl) | (apply E_add64;rfl;rfl;rfl;omega) | (apply E_ial (c := c);apply elT;rfl;rfl;rfl;rfl;exact encStr_len;omega;(first | exact hc | simpa using hc)))) | (apply t_drawn (nt := 36) (.take 0 (.take 1 (.take 2 (.take 3 (.take 4 (.take 5 (.one 6 (.take 7 .nil)))))))) [] [];exact mixed;rfl;decide +kernel) | (apply oP;rfl;rfl;rfl;apply fnT;rfl;apply (sp110 p c name (Small_of hp));rintro _ rfl) | (apply Vd;rfl;(apply E_geq;rfl;rfl);all_goals intro h_) | (apply Vs;rfl;(apply W_stL;rfl;(apply tyT;rfl);rfl;rfl;rfl;(first | apply okC_new | (apply okC_ge;omega));rfl;rfl;(first | decide | (apply Nat.le_of_ble_eq_true;rfl)))) | (apply s_region;rfl) | (apply tri_region;rfl) | apply tri_skip | apply tri_ret | (apply tri_condT;rfl) | (apply tri_condF;rfl) | (apply end_q _ (.inr rfl);(exact List.prefix_append _ _);(focus repeat (first | apply R_nil | (apply R_tmp;rfl) | (apply R_cell;rfl;rfl;apply tyT;rfl;rfl;rfl)));rfl) | apply p_then | apply p_inN | apply p_inR | apply p_thenR | apply d_nil | (apply tV;rfl;rfl;(first | (apply E_mv;rfl) | (apply E_as;rfl) | (apply E_lda;(apply tyT;rfl);rfl;(apply at_;rfl;rfl);rfl) | (apply E_le;(apply tyT;rfl);rfl;rfl) | (apply E_bd;(apply plT;rfl);rfl) | (apply E_add64;rfl;rfl;rfl;omega) | (apply E_ial (c := c);apply elT;rfl;rfl;rfl;rfl;exact encStr_len;omega;(first | exact hc | simpa using hc)));rfl))
    · exact ⟨c,_,true,rfl⟩
    · exact ⟨k + 1,by omega,by omega,⟨rfl,rfl,rfl,rfl,vI_of (by omega),trivial⟩,rfl⟩
  · exact ⟨⟨#[]⟩,0,false,rfl⟩
theorem sp143 (a b : List Pa) (ha : a.length ≤ 1000000) : PC 143 [.d (encL encPa a),.d (encL encPa b)] isB := by
  intro S T M
  refine callT_go [] [] Tryz.func143 rfl Tryz.ntmps143 Tryz.results143 ?_
  repeat' (first | apply triL_nil | (apply V;rfl;(first | (apply E_mv;rfl) | (apply E_as;rfl) | (apply E_len;(apply elT;rfl);rfl;rfl))) | (apply Vd;rfl;(apply E_neq;rfl;rfl);all_goals intro h_) | (apply s_region;rfl) | apply tri_seq | apply tri_block | apply tri_skip | apply tri_ret | (apply tri_condT;rfl) | (apply tri_condF;rfl) | (apply end_q _ (.inr rfl);(exact List.prefix_append _ _);(focus repeat (first | apply R_nil | (apply R_tmp;rfl)));rfl) | apply p_then | apply p_thenR)
  · exact ⟨false,rfl⟩
  refine tri_fix (fun k : Nat => a.length - k) (fun k => [(0,.d (encL encPa a)),(1,.d (encL encPa b)),(5,vI k)]) (fun k => k ≤ a.length) 0 (Nat.zero_le _) ⟨rfl,rfl,rfl,trivial⟩ ?_
  rintro k hk
  repeat' (first | apply triL_nil | (apply V;rfl;(first | (apply E_mv;rfl) | (apply E_as;rfl) | (apply E_len;(apply elT;rfl);rfl;rfl))) | (apply Vd;rfl;(apply E_lss;rfl;rfl);all_goals intro h_) | (apply s_region;rfl) | apply tri_seq | apply tri_block | apply tri_skip | apply tri_exit | apply tri_ret | (apply tri_condT;rfl) | (apply tri_condF;rfl) | (apply end_q _ (.inr rfl);(exact List.prefix_append _ _);(focus repeat (first | apply R_nil | (apply R_tmp;rfl)));rfl) | apply p_then | apply p_in | apply p_thenE)
  · obtain ⟨c,hc⟩ : ∃ c,a[k]? = some c := ⟨_,List.getElem?_eq_getElem (by omega)⟩
    obtain ⟨d,hd⟩ : ∃ c,b[k]? = some c := ⟨_,List.getElem?_eq_getElem (by omega)⟩
    repeat' (first | apply triL_nil | (apply V;rfl;(first | (apply E_mv;rfl) | (apply E_as;rfl) | (apply E_fe;(apply plT;rfl);rfl;rfl;decide) | (apply E_le;(apply tyT;rfl);rfl;rfl) | (apply E_add64;rfl;rfl;rfl;omega) | (apply E_ial (c := c);apply elT;rfl;rfl;rfl;rfl;exact encPa_len;omega;(first | exact hc | simpa using hc)) | (apply E_ial (c := d);apply elT;rfl;rfl;rfl;rfl;exact encPa_len;omega;(first | exact hd | simpa using hd)))) | (apply t_drawn (nt := 28) (.take 0 (.take 1 (.take 2 (.take 3 (.take 4 (.take 5 (.take 6 (.take 7 (.take 8 (.take 9 (.take 10 .nil))))))))))) [] [];exact mixed;rfl;decide +kernel) | (apply s_region;rfl) | (apply tri_region;rfl) | apply tri_skip | apply tri_ret | (apply tri_condT;rfl) | (apply tri_condF;rfl) | (apply end_q _ (.inr rfl);(exact List.prefix_append _ _);(focus repeat (first | apply R_nil | (apply R_tmp;rfl)));rfl) | apply p_then | apply p_inN | apply p_inR | apply p_thenR | apply d_nil | (apply tV;rfl;rfl;(first | (apply E_mv;rfl) | (apply E_as;rfl) | (apply E_fe;(apply plT;rfl);rfl;rfl;decide) | (apply E_le;(apply tyT;rfl);rfl;rfl) | (apply E_add64;rfl;rfl;rfl;omega) | (apply E_ial (c := c);apply elT;rfl;rfl;rfl;rfl;exact encPa_len;omega;(first | exact hc | simpa using hc)) | (apply E_ial (c := d);apply elT;rfl;rfl;rfl;rfl;exact encPa_len;omega;(first | exact hd | simpa using hd)));rfl) | (apply tVd;rfl;rfl;(apply E_sneq;rfl;rfl);rfl;all_goals intro h_))
    · exact ⟨false,rfl⟩
    · exact ⟨k + 1,by omega,by omega,⟨rfl,rfl,vI_of (by omega),trivial⟩,rfl⟩
  · exact ⟨true,rfl⟩
theorem sp129 (m n : Me) (hm : m.params.length ≤ 1000000) : PC 129 [vMe m,vMe n] isB := by
  have h154 := sp143 m.params n.params hm
  obtain ⟨q1,q2,q3,q4,q5,q6⟩ := m
  obtain ⟨u1,u2,u3,u4,u5,u6⟩ := n
  dsimp only at *
  intro S T M
  refine callT_go [] [] Tryz.func129 rfl Tryz.ntmps129 Tryz.results129 ?_
  repeat' (first | apply triL_nil | (apply V;rfl;(first | (apply E_mv;rfl) | (apply E_as;rfl) | (apply E_fa;(apply plT;rfl);rfl;rfl;decide) | (apply E_ld;(apply tyT;rfl);rfl;(apply at_;rfl;rfl);rfl) | (apply E_pkT;rfl;rfl) | (apply E_pkF;rfl;rfl))) | (apply Vp;rfl;rfl;apply fnT;rfl;apply h154;rintro _ ⟨b_,rfl⟩) | (apply Vd;rfl;(apply E_seql;rfl;rfl);all_goals intro h_) | (apply Vo;rfl) | (apply Vw;rfl;(apply W_bxL;rfl;rfl;rfl)) | (apply s_region;rfl) | apply tri_ret | (apply end_q _ (.inr rfl);(exact List.prefix_append _ _);(focus repeat (first | apply R_nil | (apply R_tmp;rfl)));rfl))
  all_goals exact ⟨_,rfl⟩
theorem sp144 (p : List Cl) (a : ByteArray) (x : Me) (hp : Sz p) : PC 144 [vP p,vS a,vMe x] (fun r => ∃ n,r = vI n) := by
  have h68 := sp128 p a (small_of hp)
  have hcs := class_sz p a hp
  have hfl := methods_len (classC p a)
  have hpar : ∀ (k : Nat) (m : Me),(classC p a).methods[k]? = some m → m.params.length ≤ 1000000 := fun k m h => Nat.le_trans (par_le m) (Nat.le_trans (me_at h) hcs)
  unfold vClA at h68
  generalize classC p a = c at *
  obtain ⟨cn,csup,cf,cm⟩ := c
  dsimp only at *
  intro S T M
  refine callT_go [] [] Tryz.func144 rfl Tryz.ntmps144 Tryz.results144 ?_
  repeat' (first | apply triL_nil | (apply V;rfl;(first | (apply E_mv;rfl) | (apply E_as;rfl) | (apply E_lda;(apply tyT;rfl);rfl;(apply at_;rfl;rfl);rfl))) | (apply Vp;rfl;rfl;apply fnT;rfl;apply h68;rintro _ rfl) | (apply Vw;rfl;(first | (apply W_alL;rfl;(apply tyT;rfl)) | (apply W_bxL;rfl;rfl;rfl))) | (apply Vs;rfl;(apply W_stL;rfl;(apply tyT;rfl);rfl;rfl;rfl;(first | apply okC_new | (apply okC_ge;omega));rfl;rfl;(first | decide | (apply Nat.le_of_ble_eq_true;rfl)))) | (apply s_region;rfl) | apply tri_seq | apply tri_block)
  refine tri_fix (fun k : Nat => cm.length - k) (fun k => [(3,.ptr (S.length + 0) 0),(5,.ptr (S.length + 1) 0),(7,.ptr (S.length + 2) 0),(8,vI k)]) (fun k => k ≤ cm.length) 0 (Nat.zero_le _) ⟨rfl,rfl,rfl,rfl,trivial⟩ ?_
  rintro k hk
  repeat' (first | apply triL_nil | (apply V;rfl;(first | (apply E_mv;rfl) | (apply E_as;rfl) | (apply E_fa;(apply plT;rfl);rfl;rfl;decide) | (apply E_ld;(apply tyT;rfl);rfl;(apply at_;rfl;rfl);rfl) | (apply E_len;(apply elT;rfl);rfl;rfl))) | (apply Vd;rfl;(apply E_lss;rfl;rfl);all_goals intro h_) | (apply s_region;rfl) | apply tri_seq | apply tri_block | apply tri_skip | apply tri_exit | apply tri_ret | (apply tri_condT;rfl) | (apply tri_condF;rfl) | (apply end_q _ (.inr rfl);(exact List.prefix_append _ _);(focus repeat (first | apply R_nil | (apply R_tmp;rfl)));rfl) | apply p_then | apply p_in | apply p_thenE)
  · obtain ⟨m,hm⟩ : ∃ c,cm[k]? = some c := ⟨_,List.getElem?_eq_getElem (by omega)⟩
    have h140 := sp129 m x (hpar k m hm)
    have hme : ∀ b,m.ctor = b → True := fun _ _ => trivial
    obtain ⟨q1,q2,q3,q4,q5,q6⟩ := m
    cases q2
    all_goals
      repeat' (first | apply triL_nil | (apply V;rfl;(first | (apply E_mv;rfl) | (apply E_as;rfl) | (apply E_fa;(apply plT;rfl);rfl;rfl;decide) | (apply E_fe;(apply plT;rfl);rfl;rfl;decide) | (apply E_lda;(apply tyT;rfl);rfl;(apply at_;rfl;rfl);rfl) | (apply E_ld;(apply tyT;rfl);rfl;(apply at_;rfl;rfl);rfl) | (apply E_lea;(apply tyT;rfl);rfl;(first | rfl | apply encEx_len | apply encSm_len)) | (apply E_le;(apply tyT;rfl);rfl;rfl) | (apply E_pkT;rfl;rfl) | (apply E_pkF;rfl;rfl) | (apply E_not;rfl) | (apply E_add64;rfl;rfl;rfl;omega) | (apply E_ial (c := (⟨q1,_,q3,q4,q5,q6⟩ : Me));apply elT;rfl;rfl;rfl;rfl;exact encMe_len;omega;(first | exact hm | simpa using hm)))) | (apply t_drawn (nt := 36) (.take 0 (.take 1 (.take 2 (.take 3 (.take 4 (.take 5 (.take 6 (.take 7 (.take 8 (.take 9 (.take 10 (.take 11 (.take 12 (.take 13 (.one 14 (.take 15 .nil)))))))))))))))) [] [];exact mixed;rfl;decide +kernel) | (apply oP;rfl;rfl;rfl;apply fnT;rfl;apply h140;rintro _ ⟨(_ | _),rfl⟩) | (apply s_region;rfl) | (apply tri_region;rfl) | apply tri_skip | apply tri_ret | (apply tri_condT;rfl) | (apply tri_condF;rfl) | (apply end_q _ (.inr rfl);(exact List.prefix_append _ _);(focus repeat (first | apply R_nil | (apply R_tmp;rfl)));rfl) | apply p_then | apply p_inN | apply p_inR | apply p_thenR | apply d_nil | (apply tV;rfl;rfl;(first | (apply E_mv;rfl) | (apply E_as;rfl) | (apply E_fa;(apply plT;rfl);rfl;rfl;decide) | (apply E_fe;(apply plT;rfl);rfl;rfl;decide) | (apply E_lda;(apply tyT;rfl);rfl;(apply at_;rfl;rfl);rfl) | (apply E_ld;(apply tyT;rfl);rfl;(apply at_;rfl;rfl);rfl) | (apply E_lea;(apply tyT;rfl);rfl;(first | rfl | apply encEx_len | apply encSm_len)) | (apply E_le;(apply tyT;rfl);rfl;rfl) | (apply E_pkT;rfl;rfl) | (apply E_pkF;rfl;rfl) | (apply E_not;rfl) | (apply E_add64;rfl;rfl;rfl;omega) | (apply E_ial (c := (⟨q1,_,q3,q4,q5,q6⟩ : Me));apply elT;rfl;rfl;rfl;rfl;exact encMe_len;omega;(first | exact hm | simpa using hm)));rfl) | (apply tVo;rfl;rfl) | (apply oVo;rfl;rfl))
      all_goals first | exact ⟨_,rfl⟩ | exact ⟨k + 1,by omega,by omega,⟨rfl,rfl,rfl,vI_of (by omega),trivial⟩,rfl⟩
  · exact ⟨-1,rfl⟩
theorem sp130 (p : List Cl) (a : ByteArray) (n : Int) (hp : Sz p) : PC 130 [vP p,vTw a n] (fun r => ∃ (o : ByteArray) (i : Int) (b : Bool),r = .tup [vTw o i,vB b]) := by
  have h142 := sp131 p a n hp
  have h67 := sp28 p a (small_of hp)
  have hcl := ch_len p a
  have hpl := small_of hp
  generalize chC p a = l at *
  intro S T M
  refine callT_go [] [] Tryz.func130 rfl Tryz.ntmps130 Tryz.results130 ?_
  repeat' (first | apply triL_nil | (apply V;rfl;(first | (apply E_mv;rfl) | (apply E_as;rfl) | (apply E_fa;(apply plT;rfl);rfl;rfl;decide) | (apply E_lda;(apply tyT;rfl);rfl;(apply at_;rfl;rfl);rfl) | (apply E_ld;(apply tyT;rfl);rfl;(apply at_;rfl;rfl);rfl) | (apply E_pkT;rfl;rfl) | (apply E_pkF;rfl;rfl) | (apply E_ex;rfl;rfl) | (apply E_not;rfl) | (apply E_bd;(apply plT;rfl);rfl))) | (apply Vp;rfl;rfl;apply fnT;rfl;apply h142;rintro _ ⟨⟨q1,(_ | _),q3,q4,q5,q6⟩,(_ | _),rfl,hq1_,hq2_⟩) | (apply Vp;rfl;rfl;apply fnT;rfl;apply h67;rintro _ rfl) | (apply Vo;rfl) | (apply Vw;rfl;(first | (apply W_alL;rfl;(apply tyT;rfl)) | (apply W_bxL;rfl;rfl;rfl))) | (apply Vs;rfl;(apply W_stL;rfl;(apply tyT;rfl);rfl;rfl;rfl;(first | apply okC_new | (apply okC_ge;omega));rfl;rfl;(first | decide | (apply Nat.le_of_ble_eq_true;rfl)))) | (apply s_region;rfl) | apply tri_seq | apply tri_block | apply tri_skip | apply tri_ret | (apply tri_condT;rfl) | (apply tri_condF;rfl) | (apply end_q _ (.inr rfl);(exact List.prefix_append _ _);(focus repeat (first | apply R_nil | (apply R_tmp;rfl) | (apply R_cell;rfl;rfl;apply tyT;rfl;rfl;rfl)));rfl) | apply p_then | apply p_thenR)
  all_goals first | exact ⟨⟨#[]⟩,0,false,rfl⟩ | skip
  refine tri_fix (fun k : Nat => l.length + 1 - k) (fun k => [(2,.ptr (S.length + 0) 0),(4,.ptr (S.length + 2) 0),(6,.ptr (S.length + 3) 0),(8,.d (encL encStr l)),(9,vI k)]) (fun k => k ≤ l.length + 1) 1 (by omega) ⟨rfl,rfl,rfl,rfl,rfl,trivial⟩ ?_
  rintro k hk
  repeat' (first | apply triL_nil | (apply V;rfl;(first | (apply E_mv;rfl) | (apply E_as;rfl) | (apply E_len;(apply elT;rfl);rfl;rfl) | (apply E_bd;(apply plT;rfl);rfl))) | (apply Vd;rfl;(apply E_lss;rfl;rfl);all_goals intro h_) | (apply Vs;rfl;(apply W_stL;rfl;(apply tyT;rfl);rfl;rfl;rfl;(first | apply okC_new | (apply okC_ge;omega));rfl;rfl;(first | decide | (apply Nat.le_of_ble_eq_true;rfl)))) | (apply s_region;rfl) | apply tri_seq | apply tri_block | apply tri_skip | apply tri_exit | apply tri_ret | (apply tri_condT;rfl) | (apply tri_condF;rfl) | (apply end_q _ (.inr rfl);(exact List.prefix_append _ _);(focus repeat (first | apply R_nil | (apply R_tmp;rfl) | (apply R_cell;rfl;rfl;apply tyT;rfl;rfl;rfl)));rfl) | apply p_then | apply p_in | apply p_thenE)
  · obtain ⟨c,hc⟩ : ∃ c,l[k]? = some c := ⟨_,List.getElem?_eq_getElem (by omega)⟩
    repeat' (first | apply triL_nil | (apply V;rfl;(first | (apply E_mv;rfl) | (apply E_as;rfl) | (apply E_lda;(apply tyT;rfl);rfl;(apply at_;rfl;rfl);rfl) | (apply E_le;(apply tyT;rfl);rfl;rfl) | (apply E_bd;(apply plT;rfl);rfl) | (apply E_add64;rfl;rfl;rfl;omega) | (apply E_ial (c := c);apply elT;rfl;rfl;rfl;rfl;exact encStr_len;omega;(first | exact hc | simpa using hc)))) | (apply t_drawn (nt := 50) (.take 0 (.take 1 (.take 2 (.take 3 (.take 4 (.take 5 (.one 6 (.take 7 .nil)))))))) [] [];exact mixed;rfl;decide +kernel) | (apply oP;rfl;rfl;rfl;apply fnT;rfl;apply (sp144 p c (⟨q1,false,q3,q4,q5,q6⟩ : Me) hp);rintro _ ⟨j_,rfl⟩) | (apply Vd;rfl;(apply E_geq;rfl;rfl);all_goals intro h_) | (apply Vs;rfl;(apply W_stL;rfl;(apply tyT;rfl);rfl;rfl;rfl;(first | apply okC_new | (apply okC_ge;omega));rfl;rfl;(first | decide | (apply Nat.le_of_ble_eq_true;rfl)))) | (apply s_region;rfl) | (apply tri_region;rfl) | apply tri_skip | apply tri_ret | (apply tri_condT;rfl) | (apply tri_condF;rfl) | (apply end_q _ (.inr rfl);(exact List.prefix_append _ _);(focus repeat (first | apply R_nil | (apply R_tmp;rfl) | (apply R_cell;rfl;rfl;apply tyT;rfl;rfl;rfl)));rfl) | apply p_then | apply p_inN | apply p_inR | apply p_thenR | apply d_nil | (apply tV;rfl;rfl;(first | (apply E_mv;rfl) | (apply E_as;rfl) | (apply E_lda;(apply tyT;rfl);rfl;(apply at_;rfl;rfl);rfl) | (apply E_le;(apply tyT;rfl);rfl;rfl) | (apply E_bd;(apply plT;rfl);rfl) | (apply E_add64;rfl;rfl;rfl;omega) | (apply E_ial (c := c);apply elT;rfl;rfl;rfl;rfl;exact encStr_len;omega;(first | exact hc | simpa using hc)));rfl))
    · exact ⟨c,_,true,rfl⟩
    · exact ⟨k + 1,by omega,by omega,⟨rfl,rfl,rfl,rfl,vI_of (by omega),trivial⟩,rfl⟩
  · exact ⟨⟨#[]⟩,0,false,rfl⟩
theorem sp11b (p : List Cl) (a b : ByteArray) (hp : Sz p) : PC 11 [vP p,vS a,vS b] isB := fun S T M => call_mono (sp11 p a b (small_of hp) S T M) fun r st ⟨h1,h2⟩ => ⟨h1,_,h2⟩
theorem sp152 (p : List Cl) (m : Me) (args : List ByteArray) (hp : Sz p) (hm : m.params.length ≤ 1000000) : PC 152 [vP p,vMe m,.d (encL encStr args)] isB := by
  obtain ⟨q1,q2,q3,q4,ps,q6⟩ := m
  dsimp only at hm
  intro S T M
  refine callT_go [] [] Tryz.func152 rfl Tryz.ntmps152 Tryz.results152 ?_
  repeat' (first | apply triL_nil | (apply V;rfl;(first | (apply E_mv;rfl) | (apply E_as;rfl) | (apply E_fa;(apply plT;rfl);rfl;rfl;decide) | (apply E_ld;(apply tyT;rfl);rfl;(apply at_;rfl;rfl);rfl) | (apply E_len;(apply elT;rfl);rfl;rfl))) | (apply Vd;rfl;(apply E_neq;rfl;rfl);all_goals intro h_) | (apply Vw;rfl;(apply W_bxL;rfl;rfl;rfl)) | (apply s_region;rfl) | apply tri_seq | apply tri_block | apply tri_skip | apply tri_ret | (apply tri_condT;rfl) | (apply tri_condF;rfl) | (apply end_q _ (.inr rfl);(exact List.prefix_append _ _);(focus repeat (first | apply R_nil | (apply R_tmp;rfl)));rfl) | apply p_then | apply p_thenR)
  · exact ⟨false,rfl⟩
  have hle : ps.length = args.length := by dsimp only at h_;omega
  refine tri_fix (fun k : Nat => args.length - k) (fun k => [(2,.d (encL encStr args)),(3,.ptr (S.length + 0) 0),(4,.ptr (S.length + 1) 0),(7,vI k)]) (fun k => k ≤ args.length) 0 (Nat.zero_le _) ⟨rfl,rfl,rfl,rfl,trivial⟩ ?_
  rintro k hk
  repeat' (first | apply triL_nil | (apply V;rfl;(first | (apply E_mv;rfl) | (apply E_as;rfl) | (apply E_len;(apply elT;rfl);rfl;rfl))) | (apply Vd;rfl;(apply E_lss;rfl;rfl);all_goals intro h_) | (apply s_region;rfl) | apply tri_seq | apply tri_block | apply tri_skip | apply tri_exit | apply tri_ret | (apply tri_condT;rfl) | (apply tri_condF;rfl) | (apply end_q _ (.inr rfl);(exact List.prefix_append _ _);(focus repeat (first | apply R_nil | (apply R_tmp;rfl)));rfl) | apply p_then | apply p_in | apply p_thenE)
  · obtain ⟨c,hc⟩ : ∃ c,args[k]? = some c := ⟨_,List.getElem?_eq_getElem (by omega)⟩
    obtain ⟨d,hd⟩ : ∃ c,ps[k]? = some c := ⟨_,List.getElem?_eq_getElem (by omega)⟩
    repeat' (first | apply triL_nil | (apply V;rfl;(first | (apply E_mv;rfl) | (apply E_as;rfl) | (apply E_fa;(apply plT;rfl);rfl;rfl;decide) | (apply E_fe;(apply plT;rfl);rfl;rfl;decide) | (apply E_lda;(apply tyT;rfl);rfl;(apply at_;rfl;rfl);rfl) | (apply E_ld;(apply tyT;rfl);rfl;(apply at_;rfl;rfl);rfl) | (apply E_le;(apply tyT;rfl);rfl;rfl) | (apply E_not;rfl) | (apply E_add64;rfl;rfl;rfl;omega) | (apply E_ial (c := c);apply elT;rfl;rfl;rfl;rfl;exact encStr_len;omega;(first | exact hc | simpa using hc)) | (apply E_ial (c := d);apply elT;rfl;rfl;rfl;rfl;exact encPa_len;omega;(first | exact hd | simpa using hd)))) | (apply t_drawn (nt := 33) (.take 0 (.take 1 (.take 2 (.take 3 (.take 4 (.take 5 (.take 6 (.take 7 (.take 8 (.take 9 (.take 10 (.one 11 (.take 12 .nil))))))))))))) [] [];exact mixed;rfl;decide +kernel) | (apply oP;rfl;rfl;rfl;apply fnT;rfl;apply (sp11b p c d.typ hp);rintro _ ⟨(_ | _),rfl⟩) | (apply s_region;rfl) | (apply tri_region;rfl) | apply tri_skip | apply tri_ret | (apply tri_condT;rfl) | (apply tri_condF;rfl) | (apply end_q _ (.inr rfl);(exact List.prefix_append _ _);(focus repeat (first | apply R_nil | (apply R_tmp;rfl)));rfl) | apply p_then | apply p_inN | apply p_inR | apply p_thenR | apply d_nil | (apply tV;rfl;rfl;(first | (apply E_mv;rfl) | (apply E_as;rfl) | (apply E_fa;(apply plT;rfl);rfl;rfl;decide) | (apply E_fe;(apply plT;rfl);rfl;rfl;decide) | (apply E_lda;(apply tyT;rfl);rfl;(apply at_;rfl;rfl);rfl) | (apply E_ld;(apply tyT;rfl);rfl;(apply at_;rfl;rfl);rfl) | (apply E_le;(apply tyT;rfl);rfl;rfl) | (apply E_not;rfl) | (apply E_add64;rfl;rfl;rfl;omega) | (apply E_ial (c := c);apply elT;rfl;rfl;rfl;rfl;exact encStr_len;omega;(first | exact hc | simpa using hc)) | (apply E_ial (c := d);apply elT;rfl;rfl;rfl;rfl;exact encPa_len;omega;(first | exact hd | simpa using hd)));rfl))
    · exact ⟨false,rfl⟩
    · exact ⟨k + 1,by omega,by omega,⟨rfl,rfl,rfl,vI_of (by omega),trivial⟩,rfl⟩
  · exact ⟨true,rfl⟩
theorem sp153 (p : List Cl) (m n : Me) (hp : Sz p) (hm : m.params.length ≤ 1000000) : PC 153 [vP p,vMe m,vMe n] isB := by
  obtain ⟨q1,q2,q3,q4,ps,q6⟩ := m
  obtain ⟨u1,u2,u3,u4,us,u6⟩ := n
  dsimp only at hm
  intro S T M
  refine callT_go [] [] Tryz.func153 rfl Tryz.ntmps153 Tryz.results153 ?_
  repeat' (first | apply triL_nil | (apply V;rfl;(first | (apply E_as;rfl) | (apply E_fa;(apply plT;rfl);rfl;rfl;decide) | (apply E_ld;(apply tyT;rfl);rfl;(apply at_;rfl;rfl);rfl) | (apply E_len;(apply elT;rfl);rfl;rfl))) | (apply Vd;rfl;(apply E_neq;rfl;rfl);all_goals intro h_) | (apply Vw;rfl;(apply W_bxL;rfl;rfl;rfl)) | (apply s_region;rfl) | apply tri_seq | apply tri_block | apply tri_skip | apply tri_ret | (apply tri_condT;rfl) | (apply tri_condF;rfl) | (apply end_q _ (.inr rfl);(exact List.prefix_append _ _);(focus repeat (first | apply R_nil | (apply R_tmp;rfl)));rfl) | apply p_then | apply p_thenR)
  · exact ⟨false,rfl⟩
  have hle : ps.length = us.length := by dsimp only at h_;omega
  refine tri_fix (fun k : Nat => ps.length - k) (fun k => [(3,.ptr (S.length + 0) 0),(4,.ptr (S.length + 1) 0),(5,.ptr (S.length + 2) 0),(7,vI k)]) (fun k => k ≤ ps.length) 0 (Nat.zero_le _) ⟨rfl,rfl,rfl,rfl,trivial⟩ ?_
  rintro k hk
  repeat' (first | apply triL_nil | (apply V;rfl;(first | (apply E_mv;rfl) | (apply E_as;rfl) | (apply E_fa;(apply plT;rfl);rfl;rfl;decide) | (apply E_ld;(apply tyT;rfl);rfl;(apply at_;rfl;rfl);rfl) | (apply E_len;(apply elT;rfl);rfl;rfl))) | (apply Vd;rfl;(apply E_lss;rfl;rfl);all_goals intro h_) | (apply s_region;rfl) | apply tri_seq | apply tri_block | apply tri_skip | apply tri_exit | apply tri_ret | (apply tri_condT;rfl) | (apply tri_condF;rfl) | (apply end_q _ (.inr rfl);(exact List.prefix_append _ _);(focus repeat (first | apply R_nil | (apply R_tmp;rfl)));rfl) | apply p_then | apply p_in | apply p_thenE)
  · dsimp only at h_
    obtain ⟨c,hc⟩ : ∃ c,ps[k]? = some c := ⟨_,List.getElem?_eq_getElem (by omega)⟩
    obtain ⟨d,hd⟩ : ∃ c,us[k]? = some c := ⟨_,List.getElem?_eq_getElem (by omega)⟩
    repeat' (first | apply triL_nil | (apply V;rfl;(first | (apply E_mv;rfl) | (apply E_as;rfl) | (apply E_fa;(apply plT;rfl);rfl;rfl;decide) | (apply E_fe;(apply plT;rfl);rfl;rfl;decide) | (apply E_lda;(apply tyT;rfl);rfl;(apply at_;rfl;rfl);rfl) | (apply E_ld;(apply tyT;rfl);rfl;(apply at_;rfl;rfl);rfl) | (apply E_le;(apply tyT;rfl);rfl;rfl) | (apply E_not;rfl) | (apply E_add64;rfl;rfl;rfl;omega) | (apply E_ial (c := c);apply elT;rfl;rfl;rfl;rfl;exact encPa_len;omega;(first | exact hc | simpa using hc)) | (apply E_ial (c := d);apply elT;rfl;rfl;rfl;rfl;exact encPa_len;omega;(first | exact hd | simpa using hd)))) | (apply t_drawn (nt := 37) (.take 0 (.take 1 (.take 2 (.take 3 (.take 4 (.take 5 (.take 6 (.take 7 (.take 8 (.take 9 (.take 10 (.take 11 (.take 12 (.one 13 (.take 14 .nil))))))))))))))) [] [];exact mixed;rfl;decide +kernel) | (apply oP;rfl;rfl;rfl;apply fnT;rfl;apply (sp11b p c.typ d.typ hp);rintro _ ⟨(_ | _),rfl⟩) | (apply s_region;rfl) | (apply tri_region;rfl) | apply tri_skip | apply tri_ret | (apply tri_condT;rfl) | (apply tri_condF;rfl) | (apply end_q _ (.inr rfl);(exact List.prefix_append _ _);(focus repeat (first | apply R_nil | (apply R_tmp;rfl)));rfl) | apply p_then | apply p_inN | apply p_inR | apply p_thenR | apply d_nil | (apply tV;rfl;rfl;(first | (apply E_mv;rfl) | (apply E_as;rfl) | (apply E_fa;(apply plT;rfl);rfl;rfl;decide) | (apply E_fe;(apply plT;rfl);rfl;rfl;decide) | (apply E_lda;(apply tyT;rfl);rfl;(apply at_;rfl;rfl);rfl) | (apply E_ld;(apply tyT;rfl);rfl;(apply at_;rfl;rfl);rfl) | (apply E_le;(apply tyT;rfl);rfl;rfl) | (apply E_not;rfl) | (apply E_add64;rfl;rfl;rfl;omega) | (apply E_ial (c := c);apply elT;rfl;rfl;rfl;rfl;exact encPa_len;omega;(first | exact hc | simpa using hc)) | (apply E_ial (c := d);apply elT;rfl;rfl;rfl;rfl;exact encPa_len;omega;(first | exact hd | simpa using hd)));rfl))
    · exact ⟨false,rfl⟩
    · exact ⟨k + 1,by omega,by omega,⟨rfl,rfl,rfl,vI_of (by omega),trivial⟩,rfl⟩
  · exact ⟨true,rfl⟩
end Go.Proofs.YtokilnhpepbjlaaGreat
