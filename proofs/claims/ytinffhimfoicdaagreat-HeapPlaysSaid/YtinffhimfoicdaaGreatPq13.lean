/- Texts of the claim, merged: LJ. No conditions. -/
import Derived.Test.YtinffhimfoicdaaGreatPq8
import Derived.Test.YtinffhimfoicdaaGreatPq3
import Derived.Below
namespace Go.Proofs.YtinffhimfoicdaaGreat.Calc
open Go Go.RowKit
set_option linter.unusedVariables false
def start (W:World) (F:Nat → Nat):Full:=⟨⟨[],[],[]⟩,fun _=>0,fun _=>none,fun _=>0,F,W⟩
theorem jh2 (W:World) (F:Nat → Nat):Good (start W F) :=
  ⟨fun id cs t h=>by simp [start] at h,fun i j h=>absurd h (Nat.not_lt_zero _),fun t k b h=>by simp [start] at h,fun id es h=>by simp [start] at h,fun i j h=>absurd h (Nat.not_lt_zero _),fun t b i h=>absurd h (Nat.not_lt_zero _),fun i h=>absurd h (Nat.not_lt_zero _)⟩
theorem jh3 {P:Program} {f:Nat} {args:List BV} {vs:List Value} {b:Bool} (W:World) (F:Nat → Nat) (h:ci P [] [] f args ⟨[],[],[]⟩ (fun r s=>r = .d (.flat (.bool b)))) (hr:RepBs (start W F) args vs) :
    Calls P f vs.toArray W (fun e W'=>e = .returned (.bool b) ∧ Below W.heap.size W W'):=by
  refine (h (start W F) vs rfl (jh2 W F) hr).mono fun e W' ⟨r,v,z,he,hq,hv,hg,hs,hw⟩=>?_
  subst hq hw he
  refine ⟨?_,hs.os,hs.tape,hs.output,hs.size,fun k hk=>hs.frame k hk (fun i hi=>by cases hi) (fun i hi=>by cases hi) (fun t ht=>absurd ht (Nat.not_lt_zero _))⟩
  have:v = .bool b:=kw hv rfl
  rw [this]
end Go.Proofs.YtinffhimfoicdaaGreat.Calc
