/- Texts of the claim, merged: OI. No conditions. -/
import Derived.Test.YtinffhimfoicdaaGreatRows
import Derived.Test.YtinffhimfoicdaaGreatPq12
import Derived.Test.YtinffhimfoicdaaGreatPq13
import Derived.ProofKit
import Derived.ChangeOld
import Derived.DataElems
namespace Go.Proofs.YtinffhimfoicdaaGreat
open Go Go.RowKit Go.Proofs.YtinffhimfoicdaaGreat.Calc
set_option linter.unusedVariables false
set_option linter.unusedSimpArgs false
set_option maxRecDepth 100000
def jb1 (W:World) (b:Nat):Nat:=match W.heap[b]? with
  | some (.cells c _ _)=>c.size
  | _=>0
theorem jkl {W:World} {a:Addr} {u:Value} (h:W.cell? a = some u):a.spot = none ∧ a.off < jb1 W a.block:=by
  unfold World.cell? at h
  unfold jb1
  split at h
  · rename_i c _ _ hc
    rw [hc]
    split at h
    · cases h
    · rename_i hs
      refine ⟨by simpa using hs,(Array.getElem?_eq_some_iff.1 h).1⟩
  · cases h
abbrev st0 (W:World):Full:=Calc.start W (jb1 W)
theorem jkm {x:Full} {d:DV} {v:Value} (h:RepDs x [d] [v]):RepD x d v:=by
  cases h with
  | cons _ _ _ _ h _=>exact h
section
variable {H:Type} {enc:TypeId × Value → H} {W:World} {spare:Nat → Bool} {held:Bool}
theorem jkn {α:Type} {f:α → List DV} {k t e n:Nat} {cs:List Value} {x:DataW H × List MemPlace} (ht:Tryz.prog.underlying t = some (.slice e)) (hk:Tryz.prog.cellsOf e = k) (h0:0 < k) (hf:∀ a,(f a).length = k) (h1:∀ a,(f a).all jb3 = true)
    (ih:∀ m,m < n → ∀ cs x,DataW.trod enc Tryz.prog W 0 spare held m e cs = some x → ∃ a:α,RepDs (st0 W) (f a) cs) (h:DataW.trod enc Tryz.prog W 0 spare held n t cs = some x):∃ l:List α,RepDs (st0 W) [cy f l] cs:=by
  rcases DataW.trod_slice ht h with ⟨rfl,_⟩|⟨a,len,cap,elems,rest,m,rfl,rfl,_,_,hl,hm,hlen,hel,_,_⟩
  · exact ⟨[],.cons _ _ _ _ .nil .nil⟩
  have key:∀ q,q ≤ len → ∃(l:List α) (vs:List Value),l.length = q ∧ vs.length = q * k ∧ RepDs (st0 W) (l.flatMap f) vs ∧ ∀ p u,vs[p]? = some u → W.cell? (a.add p) = some u:=by
    intro q
    induction q with
    | zero=>exact fun _=>⟨[],[],rfl,by simp,.nil,fun p u hu=>by simp at hu⟩
    | succ q ihq =>
      intro hq
      obtain ⟨l,vs,g1,g2,g3,g4⟩:=ihq (by omega)
      have h2:=hel q (by omega)
      rw [List.getElem?_eq_getElem (by omega),hk] at h2
      obtain ⟨cs',h3,h4⟩:=Option.bind_eq_some_iff.1 h2
      obtain ⟨b,hb⟩:=ih m (by omega) cs' _ h4
      obtain ⟨_,h5,h6⟩:=World.cells?_some h3
      refine ⟨l ++ [b],vs ++ cs',by simp [g1],by rw [List.length_append,g2,h5,Nat.add_mul,Nat.one_mul],by simpa using g3.append hb,fun p u hu=>?_⟩
      rw [List.getElem?_append] at hu
      split at hu
      · exact g4 p u hu
      · rename_i hp
        have hj:p - vs.length < k:=by rw [← h5];exact (List.getElem?_eq_some_iff.1 hu).1
        have:=h6 (p - vs.length) hj
        rw [hu,Addr.add_add,g2,show q * k +(p - q * k) = p by omega] at this
        exact this
  obtain ⟨l,vs,g1,g2,g3,g4⟩:=key len (Nat.le_refl _)
  refine ⟨l,.cons _ _ _ _ ?_ .nil⟩
  show RepD _ (.sl (l.flatMap f) l.length) _
  by_cases hz:len = 0
  · subst hz
    obtain rfl:=List.eq_nil_of_length_eq_zero g1
    exact .emp a cap hm
  have h00:0 < len * k:=Nat.mul_pos (by omega) h0
  obtain ⟨u0,hu0⟩:∃ u,vs[0]? = some u:=⟨_,List.getElem?_eq_getElem (by omega)⟩
  have hs:=(jkl (g4 0 u0 hu0)).1
  have hs0:a.spot = none:=by
    unfold Addr.add at hs
    rw [if_pos rfl] at hs
    exact hs
  obtain ⟨b,off,spot⟩:=a
  dsimp only at hs0
  subst hs0
  rw [g1]
  refine .sl b off len cap _ vs hl (Nat.le_trans hl hm) ?_ (fun p u hu=>?_) g3
  · rw [List.all_eq_true]
    intro d hd
    obtain ⟨c,_,hc⟩:=List.mem_flatMap.1 hd
    exact List.all_eq_true.1 (h1 c) d hc
  · have:=g4 p u hu
    rw [u7] at this
    exact ⟨(jkl this).2,this⟩
theorem jzk:∀ n cs x,DataW.trod enc Tryz.prog W 0 spare held n 3 cs = some x → ∃ a:Int,RepDs (st0 W) (jjb a) cs:=by
  intro n cs x h
  obtain ⟨n0,e0,_⟩:=DataW.trod_int Tryz.underlying3 h
  subst e0
  exact ⟨n0,.cons _ _ _ _ (.flat _ rfl) .nil⟩
theorem jwi:∀ n cs x,DataW.trod enc Tryz.prog W 0 spare held n 60 cs = some x → ∃ a:List Int,RepDs (st0 W) (yl a) cs:=by
  intro n cs x h
  exact jkn (f:=jjb) Tryz.underlying60 (k:=1) (by kernel_rfl) (by decide) ja7 (fun a=>rfl) (fun q _=>jzk q) h
theorem jwj {v:Value} {d:DataW H} {p:List MemPlace} (h:DataW.Trod enc Tryz.prog W 0 spare held 22 v d p) (hv:∃ a l c,v = .slice a l c):∃ l:List (List Int),RepD (st0 W) (cy yl l) v:=by
  obtain ⟨fuel,hf⟩:=h
  obtain ⟨a,l,c,rfl⟩:=hv
  have hf:DataW.trod enc Tryz.prog W 0 spare held fuel 22 [.slice a l c] = some (d,p):=hf
  obtain ⟨l,g⟩:=jkn (f:=yl) Tryz.underlying22 (k:=1) (by kernel_rfl) (by decide) tr (fun a=>rfl) (fun q _=>jwi q) hf
  exact ⟨l,jkm g⟩
theorem jzl:∀ n cs x,DataW.trod enc Tryz.prog W 0 spare held n 41 cs = some x → ∃ a:{ o:Stp // OkS o },RepDs (st0 W) (nd a.1) cs:=by
  intro n cs x h
  obtain ⟨xs,m,rfl,_,hl,hlen,hf⟩:=DataW.trod_struct Tryz.underlying41 h
  have hlk:cs.length = 8:=hl.trans (by kernel_rfl)
  obtain ⟨c0,c1,c2,c3,c4,c5,c6,c7,rfl⟩:∃ c0 c1 c2 c3 c4 c5 c6 c7,cs = [c0,c1,c2,c3,c4,c5,c6,c7]:=by
    match cs,hlk with
    | [c0,c1,c2,c3,c4,c5,c6,c7],_=>exact ⟨_,_,_,_,_,_,_,_,rfl⟩
  have h0:=hf 0 _ rfl
  rw [List.getElem?_eq_getElem (by rw [hlen];decide)] at h0
  replace h0:DataW.trod enc Tryz.prog W 0 spare held m 3 [c0] = some _:=h0
  obtain ⟨n0,e0,w0⟩:=DataW.trod_int Tryz.underlying3 h0
  simp only [List.cons.injEq,and_true] at e0
  subst e0
  have h1:=hf 1 _ rfl
  rw [List.getElem?_eq_getElem (by rw [hlen];decide)] at h1
  replace h1:DataW.trod enc Tryz.prog W 0 spare held m 3 [c1] = some _:=h1
  obtain ⟨n1,e1,w1⟩:=DataW.trod_int Tryz.underlying3 h1
  simp only [List.cons.injEq,and_true] at e1
  subst e1
  have h2:=hf 2 _ rfl
  rw [List.getElem?_eq_getElem (by rw [hlen];decide)] at h2
  replace h2:DataW.trod enc Tryz.prog W 0 spare held m 3 [c2] = some _:=h2
  obtain ⟨n2,e2,w2⟩:=DataW.trod_int Tryz.underlying3 h2
  simp only [List.cons.injEq,and_true] at e2
  subst e2
  have h3:=hf 3 _ rfl
  rw [List.getElem?_eq_getElem (by rw [hlen];decide)] at h3
  replace h3:DataW.trod enc Tryz.prog W 0 spare held m 3 [c3] = some _:=h3
  obtain ⟨n3,e3,w3⟩:=DataW.trod_int Tryz.underlying3 h3
  simp only [List.cons.injEq,and_true] at e3
  subst e3
  have h4:=hf 4 _ rfl
  rw [List.getElem?_eq_getElem (by rw [hlen];decide)] at h4
  replace h4:DataW.trod enc Tryz.prog W 0 spare held m 3 [c4] = some _:=h4
  obtain ⟨n4,e4,w4⟩:=DataW.trod_int Tryz.underlying3 h4
  simp only [List.cons.injEq,and_true] at e4
  subst e4
  have h5:=hf 5 _ rfl
  rw [List.getElem?_eq_getElem (by rw [hlen];decide)] at h5
  replace h5:DataW.trod enc Tryz.prog W 0 spare held m 39 [c5,c6,c7] = some _:=h5
  obtain ⟨ys,q,_,_,_,glen,gf⟩:=DataW.trod_struct Tryz.underlying39 h5
  have g0:=gf 0 _ rfl
  rw [List.getElem?_eq_getElem (by rw [glen];decide)] at g0
  replace g0:DataW.trod enc Tryz.prog W 0 spare held q 3 [c5] = some _:=g0
  obtain ⟨n5,e5,w5⟩:=DataW.trod_int Tryz.underlying3 g0
  simp only [List.cons.injEq,and_true] at e5
  subst e5
  have g1:=gf 1 _ rfl
  rw [List.getElem?_eq_getElem (by rw [glen];decide)] at g1
  replace g1:DataW.trod enc Tryz.prog W 0 spare held q 21 [c6] = some _:=g1
  obtain ⟨n6,e6,w6⟩:=DataW.trod_int Tryz.underlying21 g1
  simp only [List.cons.injEq,and_true] at e6
  subst e6
  have g2:=gf 2 _ rfl
  rw [List.getElem?_eq_getElem (by rw [glen];decide)] at g2
  replace g2:DataW.trod enc Tryz.prog W 0 spare held q 9 [c7] = some _:=g2
  obtain ⟨n7,e7,_⟩:=DataW.trod_string Tryz.underlying9 g2
  simp only [List.cons.injEq,and_true] at e7
  subst e7
  exact ⟨⟨⟨n0,n1,n2,n3,n4,⟨n5,n6,n7⟩⟩,w4.2,w5.2,w6.2⟩,.cons _ _ _ _ (.flat _ rfl) (.cons _ _ _ _ (.flat _ rfl) (.cons _ _ _ _ (.flat _ rfl) (.cons _ _ _ _ (.flat _ rfl) (.cons _ _ _ _ (.flat _ rfl) (.cons _ _ _ _ (.flat _ rfl) (.cons _ _ _ _ (.flat _ rfl) (.cons _ _ _ _ (.flat _ rfl) .nil)))))))⟩
theorem jwk {v:Value} {d:DataW H} {p:List MemPlace} (h:DataW.Trod enc Tryz.prog W 0 spare held 23 v d p) (hv:∃ a l c,v = .slice a l c):∃ l:List Stp,(∀ o ∈ l,OkS o) ∧ RepD (st0 W) (cy nd l) v:=by
  obtain ⟨fuel,hf⟩:=h
  obtain ⟨a,l,c,rfl⟩:=hv
  have hf:DataW.trod enc Tryz.prog W 0 spare held fuel 23 [.slice a l c] = some (d,p):=hf
  obtain ⟨l,g⟩:=jkn (f:=fun a:{ o:Stp // OkS o }=>nd a.1) Tryz.underlying23 (k:=8) (by kernel_rfl) (by decide) (fun a=>uz a.1) (fun a=>rfl) (fun q _=>jzl q) hf
  refine ⟨l.map Subtype.val,fun o ho=>?_,?_⟩
  · obtain ⟨x,_,rfl⟩:=List.mem_map.1 ho
    exact x.2
  · have:=jkm g
    have e:(l.map Subtype.val).flatMap nd = l.flatMap fun a=>nd a.1:=List.flatMap_map _ _ _
    unfold cy
    rw [e,List.length_map]
    exact this
end
end Go.Proofs.YtinffhimfoicdaaGreat
