/- Texts of the claim, merged: MachT, Calc15, Calc16, Calc17, RV. No conditions. -/
import Derived.Test.YtinffhimfoicdaaGreatPq9
import Derived.KernelRfl
import Derived.Test.YtinffhimfoicdaaGreatPq1
namespace Go.Proofs.YtinffhimfoicdaaGreat
open Go Go.Proofs.YtinffhimfoicdaaGreat.Calc
set_option maxRecDepth 100000
set_option maxHeartbeats 4000000
set_option linter.unusedVariables false
noncomputable section
def jtk (ops:Array Oper) (i:Nat):Oper:=@Option.rec Oper (fun _=>Oper) ⟨none,.assign (.tmp 0),0,"",#[],none⟩ id (ops.toList[i]?)
section
variable (loc:Nat → Bool) {P:Program} (tb:Tabs P)
def jy6 (ops:Array Oper) (ds:List Nat) (l:List (Bool × Nat)):List XA:=l.map fun p=>⟨p.1,ds.contains p.2,jw loc tb ops (jtk ops p.2)⟩
def jtl (ops:Array Oper) (ds:List Nat):MP → List XD
  | .nil=>[]
  | .take i p=>.st ⟨true,ds.contains i,jw loc tb ops (jtk ops i)⟩ :: jtl ops ds p
  | .one i p=>.st ⟨false,ds.contains i,jw loc tb ops (jtk ops i)⟩ :: jtl ops ds p
  | .fl A j p=>.fl (jy6 loc tb ops ds A) (jw loc tb ops (jtk ops j)) :: jtl ops ds p
def jv5:Code → Option Nat
  | .seq a b=>@Option.rec Nat (fun _=>Option Nat) (jv5 b) some (jv5 a)
  | .block id _=>some id
  | _=>none
def jpd (pl:Nat → Option (MP × List Nat × List XO)) (kp:Nat → Option (List Nat)):Code → XC
  | .skip=>.skip
  | .ret=>.ret
  | .exit id=>.exit id
  | .region id ops false=>.reg (ops.toList.map fun o=>jry (jw loc tb ops o))
  | .region id ops true=>@Option.rec _ (fun _=>XC) .skip (fun q=>.drw q.2.2 (jtl loc tb ops q.2.1 q.1)) (pl id)
  | .seq a b=>.seq (jpd pl kp a) (jpd pl kp b)
  | .cond c a b=>.cond (xo loc c) (jpd pl kp a) (jpd pl kp b)
  | .block id c=>.block id (jpd pl kp c)
  | .loop c=>.loop (@Option.rec Nat (fun _=>Option (List Nat)) none kp (jv5 c)) (jpd pl kp c)
  | _=>.skip
end
def eo (l:List Nat) (k:Nat) (f:Func):XC:=@Option.rec Code (fun _=>XC) .skip (jpd (ze l) vy (jpb k) (jpc k)) f.body
def pick {α:Type} (y:α) {z:α} (_:y = z):α:=y
def Ent (k:Nat) (x:XF):Prop:=ux Tryz.prog vy k (.fn x)
theorem mkE {k:Nat} {f:Func} {x:XF} (n:Nat) (h0:jdz Tryz.prog k = true) (hf:Tryz.prog.funcs[k]? = some f) (h1:x.ps = List.range' 0 n) (h2:(f.body.bind fun c=>p8 (ze x.loc) vy (jpb k) (jpc k) f.ntmps c) = some x.body) (h3:je5 (ze x.loc) vy f.results.toList = some x.res):Ent k x:=⟨h0,f,jpb k,jpc k,n,hf,h1,h2,h3⟩
def x7:XF:=⟨[0,2,3,6,27],[0],by
  have h:eo [0,2,3,6,27] 7 Tryz.f7=_:=rfl
  conv at h=>lhs;reduce
  exact pick _ h,[(.c 2 true 1)]⟩
theorem x7E:Ent 7 x7:=mkE 1 (fnT rfl) Tryz.func7 rfl (by kernel_rfl) (by kernel_rfl)
def x23:XF:=⟨[0,1,2,3,4,5,6,7,10,15,27,44,49,59],[0],by
  have h:eo [0,1,2,3,4,5,6,7,10,15,27,44,49,59] 23 Tryz.f23=_:=rfl
  conv at h=>lhs;reduce
  exact pick _ h,[(.t 2),(.t 3)]⟩
theorem x23E:Ent 23 x23:=mkE 1 (fnT rfl) Tryz.func23 rfl (by kernel_rfl) (by kernel_rfl)
def x24:XF:=⟨[0,2,3,4,5,6,7,8,9,10,18,43,50,65,76,91,101],[0],by
  have h:eo [0,2,3,4,5,6,7,8,9,10,18,43,50,65,76,91,101] 24 Tryz.f24=_:=rfl
  conv at h=>lhs;reduce
  exact pick _ h,[(.c 2 true 1),(.t 3),(.t 4)]⟩
theorem x24E:Ent 24 x24:=mkE 1 (fnT rfl) Tryz.func24 rfl (by kernel_rfl) (by kernel_rfl)
def x25:XF:=⟨[0,2,3,4,12,28],[0],by
  have h:eo [0,2,3,4,12,28] 25 Tryz.f25=_:=rfl
  conv at h=>lhs;reduce
  exact pick _ h,[(.t 2)]⟩
theorem x25E:Ent 25 x25:=mkE 1 (fnT rfl) Tryz.func25 rfl (by kernel_rfl) (by kernel_rfl)
def x26:XF:=⟨[0,1,2,3,5,6],[0],by
  have h:eo [0,1,2,3,5,6] 26 Tryz.f26=_:=rfl
  conv at h=>lhs;reduce
  exact pick _ h,[(.t 2),(.t 3)]⟩
theorem x26E:Ent 26 x26:=mkE 1 (fnT rfl) Tryz.func26 rfl (by kernel_rfl) (by kernel_rfl)
def x31:XF:=⟨[0,1,2,4],[0,1],by
  have h:eo [0,1,2,4] 31 Tryz.f31=_:=rfl
  conv at h=>lhs;reduce
  exact pick _ h,[(.t 4)]⟩
theorem x31E:Ent 31 x31:=mkE 2 (fnT rfl) Tryz.func31 rfl (by kernel_rfl) (by kernel_rfl)
def x33:XF:=⟨[0,1,2,3,4,5,6,21],[0,1],by
  have h:eo [0,1,2,3,4,5,6,21] 33 Tryz.f33=_:=rfl
  conv at h=>lhs;reduce
  exact pick _ h,[(.c 4 true 4),(.t 5)]⟩
theorem x33E:Ent 33 x33:=mkE 2 (fnT rfl) Tryz.func33 rfl (by kernel_rfl) (by kernel_rfl)
def x41:XF:=⟨[0,1,2,3],[0],by
  have h:eo [0,1,2,3] 41 Tryz.f41=_:=rfl
  conv at h=>lhs;reduce
  exact pick _ h,[(.t 2)]⟩
theorem x41E:Ent 41 x41:=mkE 1 (fnT rfl) Tryz.func41 rfl (by kernel_rfl) (by kernel_rfl)
def x42:XF:=⟨[0,1,2,3,6,7,8,16,26],[0,1,2],by
  have h:eo [0,1,2,3,6,7,8,16,26] 42 Tryz.f42=_:=rfl
  conv at h=>lhs;reduce
  exact pick _ h,[(.t 6)]⟩
theorem x42E:Ent 42 x42:=mkE 3 (fnT rfl) Tryz.func42 rfl (by kernel_rfl) (by kernel_rfl)
def x43:XF:=⟨[0,1,2,4],[0,1],by
  have h:eo [0,1,2,4] 43 Tryz.f43=_:=rfl
  conv at h=>lhs;reduce
  exact pick _ h,[(.t 4)]⟩
theorem x43E:Ent 43 x43:=mkE 2 (fnT rfl) Tryz.func43 rfl (by kernel_rfl) (by kernel_rfl)
def x44:XF:=⟨[0,2,3,4,5,6,7,8,9,12,18,21,30,40,44],[0],by
  have h:eo [0,2,3,4,5,6,7,8,9,12,18,21,30,40,44] 44 Tryz.f44=_:=rfl
  conv at h=>lhs;reduce
  exact pick _ h,[(.t 2),(.t 3),(.t 4)]⟩
theorem x44E:Ent 44 x44:=mkE 1 (fnT rfl) Tryz.func44 rfl (by kernel_rfl) (by kernel_rfl)
def x45:XF:=⟨[0,1,7],[0,1],by
  have h:eo [0,1,7] 45 Tryz.f45=_:=rfl
  conv at h=>lhs;reduce
  exact pick _ h,[]⟩
theorem x45E:Ent 45 x45:=mkE 2 (fnT rfl) Tryz.func45 rfl (by kernel_rfl) (by kernel_rfl)
def x46:XF:=⟨[0,2,5],[0],by
  have h:eo [0,2,5] 46 Tryz.f46=_:=rfl
  conv at h=>lhs;reduce
  exact pick _ h,[(.t 2)]⟩
theorem x46E:Ent 46 x46:=mkE 1 (fnT rfl) Tryz.func46 rfl (by kernel_rfl) (by kernel_rfl)
def x47:XF:=⟨[0,1,4,12],[0,1],by
  have h:eo [0,1,4,12] 47 Tryz.f47=_:=rfl
  conv at h=>lhs;reduce
  exact pick _ h,[(.t 4)]⟩
theorem x47E:Ent 47 x47:=mkE 2 (fnT rfl) Tryz.func47 rfl (by kernel_rfl) (by kernel_rfl)
def x48:XF:=⟨[0,1,4],[0,1],by
  have h:eo [0,1,4] 48 Tryz.f48=_:=rfl
  conv at h=>lhs;reduce
  exact pick _ h,[(.t 4)]⟩
theorem x48E:Ent 48 x48:=mkE 2 (fnT rfl) Tryz.func48 rfl (by kernel_rfl) (by kernel_rfl)
def x49:XF:=⟨[0,1,4,5,6,7,8,9,10,40,65,91,116],[0,1],by
  have h:eo [0,1,4,5,6,7,8,9,10,40,65,91,116] 49 Tryz.f49=_:=rfl
  conv at h=>lhs;reduce
  exact pick _ h,[]⟩
theorem x49E:Ent 49 x49:=mkE 2 (fnT rfl) Tryz.func49 rfl (by kernel_rfl) (by kernel_rfl)
def x50:XF:=⟨[0,1,2,3,4,5,6,7,16,21,55,60,97,102,111],[0],by
  have h:eo [0,1,2,3,4,5,6,7,16,21,55,60,97,102,111] 50 Tryz.f50=_:=rfl
  conv at h=>lhs;reduce
  exact pick _ h,[(.t 2)]⟩
theorem x50E:Ent 50 x50:=mkE 1 (fnT rfl) Tryz.func50 rfl (by kernel_rfl) (by kernel_rfl)
def x51:XF:=⟨[0,1,2,6,7,8,9,11,23],[0,1,2],by
  have h:eo [0,1,2,6,7,8,9,11,23] 51 Tryz.f51=_:=rfl
  conv at h=>lhs;reduce
  exact pick _ h,[(.t 6)]⟩
theorem x51E:Ent 51 x51:=mkE 3 (fnT rfl) Tryz.func51 rfl (by kernel_rfl) (by kernel_rfl)
def x52:XF:=⟨[0,1,4,8],[0,1],by
  have h:eo [0,1,4,8] 52 Tryz.f52=_:=rfl
  conv at h=>lhs;reduce
  exact pick _ h,[(.t 4)]⟩
theorem x52E:Ent 52 x52:=mkE 2 (fnT rfl) Tryz.func52 rfl (by kernel_rfl) (by kernel_rfl)
def x53:XF:=⟨[0,1,4],[0,1],by
  have h:eo [0,1,4] 53 Tryz.f53=_:=rfl
  conv at h=>lhs;reduce
  exact pick _ h,[(.t 4)]⟩
theorem x53E:Ent 53 x53:=mkE 2 (fnT rfl) Tryz.func53 rfl (by kernel_rfl) (by kernel_rfl)
def x55:XF:=⟨[0,2,3,4,5,14],[0],by
  have h:eo [0,2,3,4,5,14] 55 Tryz.f55=_:=rfl
  conv at h=>lhs;reduce
  exact pick _ h,[(.t 2)]⟩
theorem x55E:Ent 55 x55:=mkE 1 (fnT rfl) Tryz.func55 rfl (by kernel_rfl) (by kernel_rfl)
def x56:XF:=⟨[0,1,2,3,4,5,6,7,8,9,10,11,12,13,14,15,18,26,41,56,69,84],[0],by
  have h:eo [0,1,2,3,4,5,6,7,8,9,10,11,12,13,14,15,18,26,41,56,69,84] 56 Tryz.f56=_:=rfl
  conv at h=>lhs;reduce
  exact pick _ h,[(.c 2 true 1),(.t 3),(.t 4)]⟩
theorem x56E:Ent 56 x56:=mkE 1 (fnT rfl) Tryz.func56 rfl (by kernel_rfl) (by kernel_rfl)
def x65:XF:=⟨[0,2],[0],by
  have h:eo [0,2] 65 Tryz.f65=_:=rfl
  conv at h=>lhs;reduce
  exact pick _ h,[(.t 2)]⟩
theorem x65E:Ent 65 x65:=mkE 1 (fnT rfl) Tryz.func65 rfl (by kernel_rfl) (by kernel_rfl)
def x66:XF:=⟨[0,1,2,4,5,10,20],[0,1],by
  have h:eo [0,1,2,4,5,10,20] 66 Tryz.f66=_:=rfl
  conv at h=>lhs;reduce
  exact pick _ h,[(.t 4)]⟩
theorem x66E:Ent 66 x66:=mkE 2 (fnT rfl) Tryz.func66 rfl (by kernel_rfl) (by kernel_rfl)
def x67:XF:=⟨[0,1,2,4,5,14],[0,1],by
  have h:eo [0,1,2,4,5,14] 67 Tryz.f67=_:=rfl
  conv at h=>lhs;reduce
  exact pick _ h,[(.t 4)]⟩
theorem x67E:Ent 67 x67:=mkE 2 (fnT rfl) Tryz.func67 rfl (by kernel_rfl) (by kernel_rfl)
def x68:XF:=⟨[0,1,2,4,5,10],[0,1],by
  have h:eo [0,1,2,4,5,10] 68 Tryz.f68=_:=rfl
  conv at h=>lhs;reduce
  exact pick _ h,[(.c 4 true 4)]⟩
theorem x68E:Ent 68 x68:=mkE 2 (fnT rfl) Tryz.func68 rfl (by kernel_rfl) (by kernel_rfl)
def x69:XF:=⟨[0,1,2,3,4,5,6,7,8,9,14,32,38,48,53,69],[0],by
  have h:eo [0,1,2,3,4,5,6,7,8,9,14,32,38,48,53,69] 69 Tryz.f69=_:=rfl
  conv at h=>lhs;reduce
  exact pick _ h,[(.t 2),(.t 3)]⟩
theorem x69E:Ent 69 x69:=mkE 1 (fnT rfl) Tryz.func69 rfl (by kernel_rfl) (by kernel_rfl)
def x70:XF:=⟨[0,2,3,4,8,13],[0],by
  have h:eo [0,2,3,4,8,13] 70 Tryz.f70=_:=rfl
  conv at h=>lhs;reduce
  exact pick _ h,[(.t 2)]⟩
theorem x70E:Ent 70 x70:=mkE 1 (fnT rfl) Tryz.func70 rfl (by kernel_rfl) (by kernel_rfl)
def x71:XF:=⟨[0,1,4,5,6,7,8,13,29,59,64,82,94,110,122,129,160,174],[0,1],by
  have h:eo [0,1,4,5,6,7,8,13,29,59,64,82,94,110,122,129,160,174] 71 Tryz.f71=_:=rfl
  conv at h=>lhs;reduce
  exact pick _ h,[(.c 4 true 3),(.t 5)]⟩
theorem x71E:Ent 71 x71:=mkE 2 (fnT rfl) Tryz.func71 rfl (by kernel_rfl) (by kernel_rfl)
def x73:XF:=⟨[0,1,4],[0,1],by
  have h:eo [0,1,4] 73 Tryz.f73=_:=rfl
  conv at h=>lhs;reduce
  exact pick _ h,[(.t 4)]⟩
theorem x73E:Ent 73 x73:=mkE 2 (fnT rfl) Tryz.func73 rfl (by kernel_rfl) (by kernel_rfl)
def x74:XF:=⟨[0,2,3,17],[0],by
  have h:eo [0,2,3,17] 74 Tryz.f74=_:=rfl
  conv at h=>lhs;reduce
  exact pick _ h,[(.t 2)]⟩
theorem x74E:Ent 74 x74:=mkE 1 (fnT rfl) Tryz.func74 rfl (by kernel_rfl) (by kernel_rfl)
def x75:XF:=⟨[0,1,4],[0,1],by
  have h:eo [0,1,4] 75 Tryz.f75=_:=rfl
  conv at h=>lhs;reduce
  exact pick _ h,[(.t 4)]⟩
theorem x75E:Ent 75 x75:=mkE 2 (fnT rfl) Tryz.func75 rfl (by kernel_rfl) (by kernel_rfl)
def x76:XF:=⟨[0,1,2,3,8,9],[0,1,2,3],by
  have h:eo [0,1,2,3,8,9] 76 Tryz.f76=_:=rfl
  conv at h=>lhs;reduce
  exact pick _ h,[(.t 8)]⟩
theorem x76E:Ent 76 x76:=mkE 4 (fnT rfl) Tryz.func76 rfl (by kernel_rfl) (by kernel_rfl)
def x77:XF:=⟨[0,2,3,4,21,33],[0],by
  have h:eo [0,2,3,4,21,33] 77 Tryz.f77=_:=rfl
  conv at h=>lhs;reduce
  exact pick _ h,[(.t 2)]⟩
theorem x77E:Ent 77 x77:=mkE 1 (fnT rfl) Tryz.func77 rfl (by kernel_rfl) (by kernel_rfl)
def x78:XF:=⟨[0,1,4,5,8,13,30],[0,1],by
  have h:eo [0,1,4,5,8,13,30] 78 Tryz.f78=_:=rfl
  conv at h=>lhs;reduce
  exact pick _ h,[(.t 4)]⟩
theorem x78E:Ent 78 x78:=mkE 2 (fnT rfl) Tryz.func78 rfl (by kernel_rfl) (by kernel_rfl)
def x79:XF:=⟨[0,2,5],[0],by
  have h:eo [0,2,5] 79 Tryz.f79=_:=rfl
  conv at h=>lhs;reduce
  exact pick _ h,[(.t 2)]⟩
theorem x79E:Ent 79 x79:=mkE 1 (fnT rfl) Tryz.func79 rfl (by kernel_rfl) (by kernel_rfl)
def x80:XF:=⟨[0,2,5],[0],by
  have h:eo [0,2,5] 80 Tryz.f80=_:=rfl
  conv at h=>lhs;reduce
  exact pick _ h,[(.t 2)]⟩
theorem x80E:Ent 80 x80:=mkE 1 (fnT rfl) Tryz.func80 rfl (by kernel_rfl) (by kernel_rfl)
def x81:XF:=⟨[0,2],[0],by
  have h:eo [0,2] 81 Tryz.f81=_:=rfl
  conv at h=>lhs;reduce
  exact pick _ h,[(.c 2 true 8)]⟩
theorem x81E:Ent 81 x81:=mkE 1 (fnT rfl) Tryz.func81 rfl (by kernel_rfl) (by kernel_rfl)
def x82:XF:=⟨[0,1,2,3,4,5,6,7,12,26,43],[0],by
  have h:eo [0,1,2,3,4,5,6,7,12,26,43] 82 Tryz.f82=_:=rfl
  conv at h=>lhs;reduce
  exact pick _ h,[(.t 2)]⟩
theorem x82E:Ent 82 x82:=mkE 1 (fnT rfl) Tryz.func82 rfl (by kernel_rfl) (by kernel_rfl)
def x83:XF:=⟨[0,2],[0],by
  have h:eo [0,2] 83 Tryz.f83=_:=rfl
  conv at h=>lhs;reduce
  exact pick _ h,[(.t 2)]⟩
theorem x83E:Ent 83 x83:=mkE 1 (fnT rfl) Tryz.func83 rfl (by kernel_rfl) (by kernel_rfl)
def x84:XF:=⟨[0,2],[0],by
  have h:eo [0,2] 84 Tryz.f84=_:=rfl
  conv at h=>lhs;reduce
  exact pick _ h,[(.t 2)]⟩
theorem x84E:Ent 84 x84:=mkE 1 (fnT rfl) Tryz.func84 rfl (by kernel_rfl) (by kernel_rfl)
def x85:XF:=⟨[0,2],[0],by
  have h:eo [0,2] 85 Tryz.f85=_:=rfl
  conv at h=>lhs;reduce
  exact pick _ h,[(.t 2)]⟩
theorem x85E:Ent 85 x85:=mkE 1 (fnT rfl) Tryz.func85 rfl (by kernel_rfl) (by kernel_rfl)
def x86:XF:=⟨[0,1,2,4,5,6,7,8,9,10,12,13,18,28,41,42,45,51,56,64,73,82,93,101,107,112,153,179,184,195],[0,1],by
  have h:eo [0,1,2,4,5,6,7,8,9,10,12,13,18,28,41,42,45,51,56,64,73,82,93,101,107,112,153,179,184,195] 86 Tryz.f86=_:=rfl
  conv at h=>lhs;reduce
  exact pick _ h,[(.t 4)]⟩
theorem x86E:Ent 86 x86:=mkE 2 (fnT rfl) Tryz.func86 rfl (by kernel_rfl) (by kernel_rfl)
def x87:XF:=⟨[0,1,2,3,47,52,72],[0],by
  have h:eo [0,1,2,3,47,52,72] 87 Tryz.f87=_:=rfl
  conv at h=>lhs;reduce
  exact pick _ h,[(.t 2)]⟩
theorem x87E:Ent 87 x87:=mkE 1 (fnT rfl) Tryz.func87 rfl (by kernel_rfl) (by kernel_rfl)
def x88:XF:=⟨[0,1,2,3,4,5,6,9,14,25,37],[0],by
  have h:eo [0,1,2,3,4,5,6,9,14,25,37] 88 Tryz.f88=_:=rfl
  conv at h=>lhs;reduce
  exact pick _ h,[(.t 2),(.t 3)]⟩
theorem x88E:Ent 88 x88:=mkE 1 (fnT rfl) Tryz.func88 rfl (by kernel_rfl) (by kernel_rfl)
def x89:XF:=⟨[0,1,2,3,4,5,6,7,8,9,10,11,12,13,14,15,16,17,18,20,30,41,66,68,90,101,111,133,142],[0,1],by
  have h:eo [0,1,2,3,4,5,6,7,8,9,10,11,12,13,14,15,16,17,18,20,30,41,66,68,90,101,111,133,142] 89 Tryz.f89=_:=rfl
  conv at h=>lhs;reduce
  exact pick _ h,[(.c 4 true 4),(.t 5),(.t 6)]⟩
theorem x89E:Ent 89 x89:=mkE 2 (fnT rfl) Tryz.func89 rfl (by kernel_rfl) (by kernel_rfl)
def x95:XF:=⟨[0,1,4,5,9,17],[0,1],by
  have h:eo [0,1,4,5,9,17] 95 Tryz.f95=_:=rfl
  conv at h=>lhs;reduce
  exact pick _ h,[(.t 4)]⟩
theorem x95E:Ent 95 x95:=mkE 2 (fnT rfl) Tryz.func95 rfl (by kernel_rfl) (by kernel_rfl)
def x96:XF:=⟨[0,1,2,4,5,7,9,14],[0,1],by
  have h:eo [0,1,2,4,5,7,9,14] 96 Tryz.f96=_:=rfl
  conv at h=>lhs;reduce
  exact pick _ h,[(.t 4)]⟩
theorem x96E:Ent 96 x96:=mkE 2 (fnT rfl) Tryz.func96 rfl (by kernel_rfl) (by kernel_rfl)
def x97:XF:=⟨[0,1,4,5,6,7,8,9,10,11,15,21,28,36,38,39,47,49,59,71,99],[0,1],by
  have h:eo [0,1,4,5,6,7,8,9,10,11,15,21,28,36,38,39,47,49,59,71,99] 97 Tryz.f97=_:=rfl
  conv at h=>lhs;reduce
  exact pick _ h,[(.c 4 true 3)]⟩
theorem x97E:Ent 97 x97:=mkE 2 (fnT rfl) Tryz.func97 rfl (by kernel_rfl) (by kernel_rfl)
def x98:XF:=⟨[0,2],[0],by
  have h:eo [0,2] 98 Tryz.f98=_:=rfl
  conv at h=>lhs;reduce
  exact pick _ h,[(.t 2)]⟩
theorem x98E:Ent 98 x98:=mkE 1 (fnT rfl) Tryz.func98 rfl (by kernel_rfl) (by kernel_rfl)
def x99:XF:=⟨[0,2],[0],by
  have h:eo [0,2] 99 Tryz.f99=_:=rfl
  conv at h=>lhs;reduce
  exact pick _ h,[(.t 2)]⟩
theorem x99E:Ent 99 x99:=mkE 1 (fnT rfl) Tryz.func99 rfl (by kernel_rfl) (by kernel_rfl)
def x100:XF:=⟨[0,1,4,5,7,25,29,41,53,64],[0,1],by
  have h:eo [0,1,4,5,7,25,29,41,53,64] 100 Tryz.f100=_:=rfl
  conv at h=>lhs;reduce
  exact pick _ h,[(.t 4)]⟩
theorem x100E:Ent 100 x100:=mkE 2 (fnT rfl) Tryz.func100 rfl (by kernel_rfl) (by kernel_rfl)
def x101:XF:=⟨[0,2,3,4,5,6,10,14,27,44,53,54,65],[0],by
  have h:eo [0,2,3,4,5,6,10,14,27,44,53,54,65] 101 Tryz.f101=_:=rfl
  conv at h=>lhs;reduce
  exact pick _ h,[(.t 2),(.t 3)]⟩
theorem x101E:Ent 101 x101:=mkE 1 (fnT rfl) Tryz.func101 rfl (by kernel_rfl) (by kernel_rfl)
def x102:XF:=⟨[0,2,12],[0],by
  have h:eo [0,2,12] 102 Tryz.f102=_:=rfl
  conv at h=>lhs;reduce
  exact pick _ h,[(.t 2)]⟩
theorem x102E:Ent 102 x102:=mkE 1 (fnT rfl) Tryz.func102 rfl (by kernel_rfl) (by kernel_rfl)
def x103:XF:=⟨[0,2],[0],by
  have h:eo [0,2] 103 Tryz.f103=_:=rfl
  conv at h=>lhs;reduce
  exact pick _ h,[(.t 2)]⟩
theorem x103E:Ent 103 x103:=mkE 1 (fnT rfl) Tryz.func103 rfl (by kernel_rfl) (by kernel_rfl)
def x104:XF:=⟨[0,2,7],[0],by
  have h:eo [0,2,7] 104 Tryz.f104=_:=rfl
  conv at h=>lhs;reduce
  exact pick _ h,[(.t 2)]⟩
theorem x104E:Ent 104 x104:=mkE 1 (fnT rfl) Tryz.func104 rfl (by kernel_rfl) (by kernel_rfl)
def x105:XF:=⟨[0,1,4,5,6,7,13,22,32,36,67,76,81,89,95,100,107,117,124,146,151,183],[0,1],by
  have h:eo [0,1,4,5,6,7,13,22,32,36,67,76,81,89,95,100,107,117,124,146,151,183] 105 Tryz.f105=_:=rfl
  conv at h=>lhs;reduce
  exact pick _ h,[(.c 4 true 9)]⟩
theorem x105E:Ent 105 x105:=mkE 2 (fnT rfl) Tryz.func105 rfl (by kernel_rfl) (by kernel_rfl)
def x106:XF:=⟨[0,1,4],[0,1],by
  have h:eo [0,1,4] 106 Tryz.f106=_:=rfl
  conv at h=>lhs;reduce
  exact pick _ h,[(.t 4)]⟩
theorem x106E:Ent 106 x106:=mkE 2 (fnT rfl) Tryz.func106 rfl (by kernel_rfl) (by kernel_rfl)
def x107:XF:=⟨[0,1,4],[0,1],by
  have h:eo [0,1,4] 107 Tryz.f107=_:=rfl
  conv at h=>lhs;reduce
  exact pick _ h,[(.t 4)]⟩
theorem x107E:Ent 107 x107:=mkE 2 (fnT rfl) Tryz.func107 rfl (by kernel_rfl) (by kernel_rfl)
def x108:XF:=⟨[0,1,4,5,6,7,9,33],[0,1],by
  have h:eo [0,1,4,5,6,7,9,33] 108 Tryz.f108=_:=rfl
  conv at h=>lhs;reduce
  exact pick _ h,[(.c 4 true 8)]⟩
theorem x108E:Ent 108 x108:=mkE 2 (fnT rfl) Tryz.func108 rfl (by kernel_rfl) (by kernel_rfl)
def x109:XF:=⟨[0,2,3,4,8],[0],by
  have h:eo [0,2,3,4,8] 109 Tryz.f109=_:=rfl
  conv at h=>lhs;reduce
  exact pick _ h,[(.t 2)]⟩
theorem x109E:Ent 109 x109:=mkE 1 (fnT rfl) Tryz.func109 rfl (by kernel_rfl) (by kernel_rfl)
def x110:XF:=⟨[0,2,3,4,8],[0],by
  have h:eo [0,2,3,4,8] 110 Tryz.f110=_:=rfl
  conv at h=>lhs;reduce
  exact pick _ h,[(.t 2)]⟩
theorem x110E:Ent 110 x110:=mkE 1 (fnT rfl) Tryz.func110 rfl (by kernel_rfl) (by kernel_rfl)
def x111:XF:=⟨[0,1,4,5,6,10,29],[0,1],by
  have h:eo [0,1,4,5,6,10,29] 111 Tryz.f111=_:=rfl
  conv at h=>lhs;reduce
  exact pick _ h,[(.t 4)]⟩
theorem x111E:Ent 111 x111:=mkE 2 (fnT rfl) Tryz.func111 rfl (by kernel_rfl) (by kernel_rfl)
def x112:XF:=⟨[0,2],[0],by
  have h:eo [0,2] 112 Tryz.f112=_:=rfl
  conv at h=>lhs;reduce
  exact pick _ h,[(.t 2)]⟩
theorem x112E:Ent 112 x112:=mkE 1 (fnT rfl) Tryz.func112 rfl (by kernel_rfl) (by kernel_rfl)
def x113:XF:=⟨[0,2],[0],by
  have h:eo [0,2] 113 Tryz.f113=_:=rfl
  conv at h=>lhs;reduce
  exact pick _ h,[(.t 2)]⟩
theorem x113E:Ent 113 x113:=mkE 1 (fnT rfl) Tryz.func113 rfl (by kernel_rfl) (by kernel_rfl)
def x114:XF:=⟨[0,2],[0],by
  have h:eo [0,2] 114 Tryz.f114=_:=rfl
  conv at h=>lhs;reduce
  exact pick _ h,[(.t 2)]⟩
theorem x114E:Ent 114 x114:=mkE 1 (fnT rfl) Tryz.func114 rfl (by kernel_rfl) (by kernel_rfl)
def x115:XF:=⟨[0,2],[0],by
  have h:eo [0,2] 115 Tryz.f115=_:=rfl
  conv at h=>lhs;reduce
  exact pick _ h,[(.t 2)]⟩
theorem x115E:Ent 115 x115:=mkE 1 (fnT rfl) Tryz.func115 rfl (by kernel_rfl) (by kernel_rfl)
def x117:XF:=⟨[0,2],[0],by
  have h:eo [0,2] 117 Tryz.f117=_:=rfl
  conv at h=>lhs;reduce
  exact pick _ h,[(.t 2)]⟩
theorem x117E:Ent 117 x117:=mkE 1 (fnT rfl) Tryz.func117 rfl (by kernel_rfl) (by kernel_rfl)
def x118:XF:=⟨[0,2],[0],by
  have h:eo [0,2] 118 Tryz.f118=_:=rfl
  conv at h=>lhs;reduce
  exact pick _ h,[(.t 2)]⟩
theorem x118E:Ent 118 x118:=mkE 1 (fnT rfl) Tryz.func118 rfl (by kernel_rfl) (by kernel_rfl)
def x119:XF:=⟨[0,1,2,6,7,8,9,13,39,44,54,76],[0,1,2],by
  have h:eo [0,1,2,6,7,8,9,13,39,44,54,76] 119 Tryz.f119=_:=rfl
  conv at h=>lhs;reduce
  exact pick _ h,[(.t 6)]⟩
theorem x119E:Ent 119 x119:=mkE 3 (fnT rfl) Tryz.func119 rfl (by kernel_rfl) (by kernel_rfl)
def x120:XF:=⟨[0,1,2,3,4,6,7,8,9,10,11,12,13,14,23,43,48,53,68,83,88,99,109,127],[0,1,2],by
  have h:eo [0,1,2,3,4,6,7,8,9,10,11,12,13,14,23,43,48,53,68,83,88,99,109,127] 120 Tryz.f120=_:=rfl
  conv at h=>lhs;reduce
  exact pick _ h,[(.t 6)]⟩
theorem x120E:Ent 120 x120:=mkE 3 (fnT rfl) Tryz.func120 rfl (by kernel_rfl) (by kernel_rfl)
def x121:XF:=⟨[0,1,2,3,4,5,6,7,8,9,10,11,12,13,14,15,16,17,22,38,55,65,67,69,71,73,78,79,93,108,120,136],[0,1,2],by
  have h:eo [0,1,2,3,4,5,6,7,8,9,10,11,12,13,14,15,16,17,22,38,55,65,67,69,71,73,78,79,93,108,120,136] 121 Tryz.f121=_:=rfl
  conv at h=>lhs;reduce
  exact pick _ h,[(.c 6 true 8),(.t 7),(.t 8)]⟩
theorem x121E:Ent 121 x121:=mkE 3 (fnT rfl) Tryz.func121 rfl (by kernel_rfl) (by kernel_rfl)
def x122:XF:=⟨[0,1,2,3,6,7,17],[0,1,2],by
  have h:eo [0,1,2,3,6,7,17] 122 Tryz.f122=_:=rfl
  conv at h=>lhs;reduce
  exact pick _ h,[(.t 6)]⟩
theorem x122E:Ent 122 x122:=mkE 3 (fnT rfl) Tryz.func122 rfl (by kernel_rfl) (by kernel_rfl)
def x123:XF:=⟨[0,1,2,3,5,6,7,8,9,11,12,13,46,54,69],[0,1,2],by
  have h:eo [0,1,2,3,5,6,7,8,9,11,12,13,46,54,69] 123 Tryz.f123=_:=rfl
  conv at h=>lhs;reduce
  exact pick _ h,[(.t 6),(.t 7)]⟩
theorem x123E:Ent 123 x123:=mkE 3 (fnT rfl) Tryz.func123 rfl (by kernel_rfl) (by kernel_rfl)
def x124:XF:=⟨[0,1,2,3,6,7,11],[0,1,2],by
  have h:eo [0,1,2,3,6,7,11] 124 Tryz.f124=_:=rfl
  conv at h=>lhs;reduce
  exact pick _ h,[(.c 6 true 2),(.t 7)]⟩
theorem x124E:Ent 124 x124:=mkE 3 (fnT rfl) Tryz.func124 rfl (by kernel_rfl) (by kernel_rfl)
def x130:XF:=⟨[0,1,4,5,6,7,10,27,41],[0,1],by
  have h:eo [0,1,4,5,6,7,10,27,41] 130 Tryz.f130=_:=rfl
  conv at h=>lhs;reduce
  exact pick _ h,[(.t 4)]⟩
theorem x130E:Ent 130 x130:=mkE 2 (fnT rfl) Tryz.func130 rfl (by kernel_rfl) (by kernel_rfl)
def x131:XF:=⟨[0,2,3,6,11,33,41],[0],by
  have h:eo [0,2,3,6,11,33,41] 131 Tryz.f131=_:=rfl
  conv at h=>lhs;reduce
  exact pick _ h,[(.t 2)]⟩
theorem x131E:Ent 131 x131:=mkE 1 (fnT rfl) Tryz.func131 rfl (by kernel_rfl) (by kernel_rfl)
def x133:XF:=⟨[0,2],[0],by
  have h:eo [0,2] 133 Tryz.f133=_:=rfl
  conv at h=>lhs;reduce
  exact pick _ h,[(.t 2)]⟩
theorem x133E:Ent 133 x133:=mkE 1 (fnT rfl) Tryz.func133 rfl (by kernel_rfl) (by kernel_rfl)
def x134:XF:=⟨[0,2],[0],by
  have h:eo [0,2] 134 Tryz.f134=_:=rfl
  conv at h=>lhs;reduce
  exact pick _ h,[(.t 2)]⟩
theorem x134E:Ent 134 x134:=mkE 1 (fnT rfl) Tryz.func134 rfl (by kernel_rfl) (by kernel_rfl)
def x135:XF:=⟨[0,2],[0],by
  have h:eo [0,2] 135 Tryz.f135=_:=rfl
  conv at h=>lhs;reduce
  exact pick _ h,[(.t 2)]⟩
theorem x135E:Ent 135 x135:=mkE 1 (fnT rfl) Tryz.func135 rfl (by kernel_rfl) (by kernel_rfl)
def x136:XF:=⟨[0,2,3,4,14,28],[0],by
  have h:eo [0,2,3,4,14,28] 136 Tryz.f136=_:=rfl
  conv at h=>lhs;reduce
  exact pick _ h,[(.c 2 true 8)]⟩
theorem x136E:Ent 136 x136:=mkE 1 (fnT rfl) Tryz.func136 rfl (by kernel_rfl) (by kernel_rfl)
def x137:XF:=⟨[0,2,3,4,6,8,11,14,17],[0],by
  have h:eo [0,2,3,4,6,8,11,14,17] 137 Tryz.f137=_:=rfl
  conv at h=>lhs;reduce
  exact pick _ h,[(.t 2)]⟩
theorem x137E:Ent 137 x137:=mkE 1 (fnT rfl) Tryz.func137 rfl (by kernel_rfl) (by kernel_rfl)
def x138:XF:=⟨[0,1,2],[0],by
  have h:eo [0,1,2] 138 Tryz.f138=_:=rfl
  conv at h=>lhs;reduce
  exact pick _ h,[(.t 2)]⟩
theorem x138E:Ent 138 x138:=mkE 1 (fnT rfl) Tryz.func138 rfl (by kernel_rfl) (by kernel_rfl)
def x139:XF:=⟨[0,1,2,3,4,5,6,7,37,38,66,90,114,124,137,153,170,203,222],[0],by
  have h:eo [0,1,2,3,4,5,6,7,37,38,66,90,114,124,137,153,170,203,222] 139 Tryz.f139=_:=rfl
  conv at h=>lhs;reduce
  exact pick _ h,[(.t 2)]⟩
theorem x139E:Ent 139 x139:=mkE 1 (fnT rfl) Tryz.func139 rfl (by kernel_rfl) (by kernel_rfl)
def x140:XF:=⟨[0,1,2,3,4],[0,1],by
  have h:eo [0,1,2,3,4] 140 Tryz.f140=_:=rfl
  conv at h=>lhs;reduce
  exact pick _ h,[(.t 4)]⟩
theorem x140E:Ent 140 x140:=mkE 2 (fnT rfl) Tryz.func140 rfl (by kernel_rfl) (by kernel_rfl)
def x141:XF:=⟨[0,1,2,3,4,5,6,7,8,9,10,22,31,42],[0,1],by
  have h:eo [0,1,2,3,4,5,6,7,8,9,10,22,31,42] 141 Tryz.f141=_:=rfl
  conv at h=>lhs;reduce
  exact pick _ h,[(.c 4 true 2),(.t 5)]⟩
theorem x141E:Ent 141 x141:=mkE 2 (fnT rfl) Tryz.func141 rfl (by kernel_rfl) (by kernel_rfl)
def x142:XF:=⟨[0,1,2,3,4,5,6,21],[0,1],by
  have h:eo [0,1,2,3,4,5,6,21] 142 Tryz.f142=_:=rfl
  conv at h=>lhs;reduce
  exact pick _ h,[(.c 4 true 6),(.t 5)]⟩
theorem x142E:Ent 142 x142:=mkE 2 (fnT rfl) Tryz.func142 rfl (by kernel_rfl) (by kernel_rfl)
def x143:XF:=⟨[0,1,2,3,4,5,6,8,9,10,11,12,13,14,15,20,26,28,35,38,46,48,51,58,69,112],[0,1,2,3],by
  have h:eo [0,1,2,3,4,5,6,8,9,10,11,12,13,14,15,20,26,28,35,38,46,48,51,58,69,112] 143 Tryz.f143=_:=rfl
  conv at h=>lhs;reduce
  exact pick _ h,[(.t 8),(.c 9 true 2),(.t 10)]⟩
theorem x143E:Ent 143 x143:=mkE 4 (fnT rfl) Tryz.func143 rfl (by kernel_rfl) (by kernel_rfl)
def x144:XF:=⟨[0,1,2,3,4,5,6,8,9,10,11,12,13,14,15,16,17,23,24,34,36,39,46,48,56,59,63,84,128],[0,1,2,3],by
  have h:eo [0,1,2,3,4,5,6,8,9,10,11,12,13,14,15,16,17,23,24,34,36,39,46,48,56,59,63,84,128] 144 Tryz.f144=_:=rfl
  conv at h=>lhs;reduce
  exact pick _ h,[(.t 8),(.c 9 true 2),(.t 10)]⟩
theorem x144E:Ent 144 x144:=mkE 4 (fnT rfl) Tryz.func144 rfl (by kernel_rfl) (by kernel_rfl)
def x146:XF:=⟨[0,1,2,3,4,8,9,10,17,23,24,43,44,45,50,51,58,59,62,63,72,92],[0,1,2,3],by
  have h:eo [0,1,2,3,4,8,9,10,17,23,24,43,44,45,50,51,58,59,62,63,72,92] 146 Tryz.f146=_:=rfl
  conv at h=>lhs;reduce
  exact pick _ h,[(.t 8),(.t 9)]⟩
theorem x146E:Ent 146 x146:=mkE 4 (fnT rfl) Tryz.func146 rfl (by kernel_rfl) (by kernel_rfl)
def x148:XF:=⟨[0,1,4,5,6,7,8,9,10,20,33],[0,1],by
  have h:eo [0,1,4,5,6,7,8,9,10,20,33] 148 Tryz.f148=_:=rfl
  conv at h=>lhs;reduce
  exact pick _ h,[(.t 4),(.t 5)]⟩
theorem x148E:Ent 148 x148:=mkE 2 (fnT rfl) Tryz.func148 rfl (by kernel_rfl) (by kernel_rfl)
def x149:XF:=⟨[0,1,2],[0],by
  have h:eo [0,1,2] 149 Tryz.f149=_:=rfl
  conv at h=>lhs;reduce
  exact pick _ h,[(.t 2)]⟩
theorem x149E:Ent 149 x149:=mkE 1 (fnT rfl) Tryz.func149 rfl (by kernel_rfl) (by kernel_rfl)
def x150:XF:=⟨[0,1,2,3,6,7,8,9,10,12,13,15,16,17,22,37,48,63,82,89],[0,1,2],by
  have h:eo [0,1,2,3,6,7,8,9,10,12,13,15,16,17,22,37,48,63,82,89] 150 Tryz.f150=_:=rfl
  conv at h=>lhs;reduce
  exact pick _ h,[(.c 6 true 2),(.t 7)]⟩
theorem x150E:Ent 150 x150:=mkE 3 (fnT rfl) Tryz.func150 rfl (by kernel_rfl) (by kernel_rfl)
def x151:XF:=⟨[0,1,2,4,5,6,7,11,19,26,35],[0,1],by
  have h:eo [0,1,2,4,5,6,7,11,19,26,35] 151 Tryz.f151=_:=rfl
  conv at h=>lhs;reduce
  exact pick _ h,[(.t 4)]⟩
theorem x151E:Ent 151 x151:=mkE 2 (fnT rfl) Tryz.func151 rfl (by kernel_rfl) (by kernel_rfl)
def x152:XF:=⟨[0,1,3,4,5,10,12,18,30,38],[0,1],by
  have h:eo [0,1,3,4,5,10,12,18,30,38] 152 Tryz.f152=_:=rfl
  conv at h=>lhs;reduce
  exact pick _ h,[(.c 4 true 8)]⟩
theorem x152E:Ent 152 x152:=mkE 2 (fnT rfl) Tryz.func152 rfl (by kernel_rfl) (by kernel_rfl)
def x153:XF:=⟨[0,2,3,4,5,6,7,8,9,15,71,75,79,83,87,95,102,111,117,124,134,143,148],[0],by
  have h:eo [0,2,3,4,5,6,7,8,9,15,71,75,79,83,87,95,102,111,117,124,134,143,148] 153 Tryz.f153=_:=rfl
  conv at h=>lhs;reduce
  exact pick _ h,[(.c 2 true 8)]⟩
theorem x153E:Ent 153 x153:=mkE 1 (fnT rfl) Tryz.func153 rfl (by kernel_rfl) (by kernel_rfl)
def x154:XF:=⟨[0,1,4,5,10,14,27],[0,1],by
  have h:eo [0,1,4,5,10,14,27] 154 Tryz.f154=_:=rfl
  conv at h=>lhs;reduce
  exact pick _ h,[(.t 4)]⟩
theorem x154E:Ent 154 x154:=mkE 2 (fnT rfl) Tryz.func154 rfl (by kernel_rfl) (by kernel_rfl)
def x155:XF:=⟨[0,1,2,3,5,6,7,8,16,34],[0,1,2],by
  have h:eo [0,1,2,3,5,6,7,8,16,34] 155 Tryz.f155=_:=rfl
  conv at h=>lhs;reduce
  exact pick _ h,[(.t 6)]⟩
theorem x155E:Ent 155 x155:=mkE 3 (fnT rfl) Tryz.func155 rfl (by kernel_rfl) (by kernel_rfl)
def x156:XF:=⟨[0,1,2,4,5,11,21],[0,1],by
  have h:eo [0,1,2,4,5,11,21] 156 Tryz.f156=_:=rfl
  conv at h=>lhs;reduce
  exact pick _ h,[(.t 4)]⟩
theorem x156E:Ent 156 x156:=mkE 2 (fnT rfl) Tryz.func156 rfl (by kernel_rfl) (by kernel_rfl)
def x157:XF:=⟨[0,1,2,3,6,7,8,9,10,17,28],[0,1,2],by
  have h:eo [0,1,2,3,6,7,8,9,10,17,28] 157 Tryz.f157=_:=rfl
  conv at h=>lhs;reduce
  exact pick _ h,[(.c 6 true 2),(.t 7)]⟩
theorem x157E:Ent 157 x157:=mkE 3 (fnT rfl) Tryz.func157 rfl (by kernel_rfl) (by kernel_rfl)
def x158:XF:=⟨[0,1,2,3,4,8,9],[0,1,2,3],by
  have h:eo [0,1,2,3,4,8,9] 158 Tryz.f158=_:=rfl
  conv at h=>lhs;reduce
  exact pick _ h,[(.c 8 true 2),(.t 9)]⟩
theorem x158E:Ent 158 x158:=mkE 4 (fnT rfl) Tryz.func158 rfl (by kernel_rfl) (by kernel_rfl)
def x159:XF:=⟨[0,2],[0],by
  have h:eo [0,2] 159 Tryz.f159=_:=rfl
  conv at h=>lhs;reduce
  exact pick _ h,[(.t 2)]⟩
theorem x159E:Ent 159 x159:=mkE 1 (fnT rfl) Tryz.func159 rfl (by kernel_rfl) (by kernel_rfl)
def x160:XF:=⟨[0,1,3,4,5,6,7,8,9,10,11,14,20,29,38,83,96,113,128,144,150,157,175,179,193,207],[0,1],by
  have h:eo [0,1,3,4,5,6,7,8,9,10,11,14,20,29,38,83,96,113,128,144,150,157,175,179,193,207] 160 Tryz.f160=_:=rfl
  conv at h=>lhs;reduce
  exact pick _ h,[(.c 4 true 9),(.t 5)]⟩
theorem x160E:Ent 160 x160:=mkE 2 (fnT rfl) Tryz.func160 rfl (by kernel_rfl) (by kernel_rfl)
def x161:XF:=⟨[0,2,3,4,5,9,17,18,21,31,54,70],[0],by
  have h:eo [0,2,3,4,5,9,17,18,21,31,54,70] 161 Tryz.f161=_:=rfl
  conv at h=>lhs;reduce
  exact pick _ h,[(.t 2)]⟩
theorem x161E:Ent 161 x161:=mkE 1 (fnT rfl) Tryz.func161 rfl (by kernel_rfl) (by kernel_rfl)
def x162:XF:=⟨[0,1,2,3,4,6,7,13,17,32],[0,1,2],by
  have h:eo [0,1,2,3,4,6,7,13,17,32] 162 Tryz.f162=_:=rfl
  conv at h=>lhs;reduce
  exact pick _ h,[(.t 6)]⟩
theorem x162E:Ent 162 x162:=mkE 3 (fnT rfl) Tryz.func162 rfl (by kernel_rfl) (by kernel_rfl)
def x163:XF:=⟨[0,1,2,3,4,5,6,7,14,19,36],[0,1,2],by
  have h:eo [0,1,2,3,4,5,6,7,14,19,36] 163 Tryz.f163=_:=rfl
  conv at h=>lhs;reduce
  exact pick _ h,[(.t 6)]⟩
theorem x163E:Ent 163 x163:=mkE 3 (fnT rfl) Tryz.func163 rfl (by kernel_rfl) (by kernel_rfl)
def x164:XF:=⟨[0,1,2,3,6,7,8,9,10,11,12,13,14,22,35,51,55,77],[0,1,2],by
  have h:eo [0,1,2,3,6,7,8,9,10,11,12,13,14,22,35,51,55,77] 164 Tryz.f164=_:=rfl
  conv at h=>lhs;reduce
  exact pick _ h,[(.t 6)]⟩
theorem x164E:Ent 164 x164:=mkE 3 (fnT rfl) Tryz.func164 rfl (by kernel_rfl) (by kernel_rfl)
def x165:XF:=⟨[0,1,2,4,6,7,8,9,10,19,29],[0,1,2],by
  have h:eo [0,1,2,4,6,7,8,9,10,19,29] 165 Tryz.f165=_:=rfl
  conv at h=>lhs;reduce
  exact pick _ h,[(.c 6 true 8),(.t 7)]⟩
theorem x165E:Ent 165 x165:=mkE 3 (fnT rfl) Tryz.func165 rfl (by kernel_rfl) (by kernel_rfl)
def x166:XF:=⟨[0,1,3,4,5,6],[0,1],by
  have h:eo [0,1,3,4,5,6] 166 Tryz.f166=_:=rfl
  conv at h=>lhs;reduce
  exact pick _ h,[(.c 4 true 8),(.t 5),(.t 6)]⟩
theorem x166E:Ent 166 x166:=mkE 2 (fnT rfl) Tryz.func166 rfl (by kernel_rfl) (by kernel_rfl)
def x168:XF:=⟨[0,1,3,4,5,6,7,8,9,26,28,59],[0,1],by
  have h:eo [0,1,3,4,5,6,7,8,9,26,28,59] 168 Tryz.f168=_:=rfl
  conv at h=>lhs;reduce
  exact pick _ h,[(.c 4 true 9),(.t 5)]⟩
theorem x168E:Ent 168 x168:=mkE 2 (fnT rfl) Tryz.func168 rfl (by kernel_rfl) (by kernel_rfl)
def x170:XF:=⟨[0,1,3,4,5,6,7,8,9,10,11,12,13,14,15,27,38,57,69],[0,1],by
  have h:eo [0,1,3,4,5,6,7,8,9,10,11,12,13,14,15,27,38,57,69] 170 Tryz.f170=_:=rfl
  conv at h=>lhs;reduce
  exact pick _ h,[(.c 4 true 9),(.t 5)]⟩
theorem x170E:Ent 170 x170:=mkE 2 (fnT rfl) Tryz.func170 rfl (by kernel_rfl) (by kernel_rfl)
theorem c0 {p:Nat × XF → Prop}:∀ e ∈ ([]:List (Nat × XF)),p e:=nofun
theorem c1 {p:Nat × XF → Prop} {k:Nat} {x:XF} {l:List (Nat × XF)} (h:p (k,x)) (hs:∀ e ∈ l,p e):∀ e ∈ (k,x) :: l,p e:=fun e he=>by
  rcases List.mem_cons.1 he with rfl|he
  · exact h
  · exact hs e he
def mS (l:List (Nat × XF)):Tr XE:=@List.rec (Nat × XF) (fun _=>Tr XE) .e (fun e _ t=>t.set (Calc.bits e.1) (.fn e.2)) l
theorem jr2:∀ l:List (Nat × XF),(∀ e ∈ l,ux Tryz.prog vy e.1 (.fn e.2)) → yz Tryz.prog vy (mS l)
  | [],_=>jv4 vy
  | e :: l,h=>jjy (jr2 l fun x hx=>h x (List.mem_cons_of_mem _ hx)) (h e List.mem_cons_self)
def mL:List (Nat × XF):=[(7,x7),(23,x23),(24,x24),(25,x25),(26,x26),(31,x31),(33,x33),(41,x41),(42,x42),(43,x43),(44,x44),(45,x45),(46,x46),(47,x47),(48,x48),(49,x49),(50,x50),(51,x51),(52,x52),(53,x53),(55,x55),(56,x56),(65,x65),(66,x66),(67,x67),(68,x68),(69,x69),(70,x70),(71,x71),(73,x73),(74,x74),(75,x75),(76,x76),(77,x77),(78,x78),(79,x79),(80,x80),(81,x81),(82,x82),(83,x83),(84,x84),(85,x85),(86,x86),(87,x87),(88,x88),(89,x89),(95,x95),(96,x96),(97,x97),(98,x98),(99,x99),(100,x100),(101,x101),(102,x102),(103,x103),(104,x104),(105,x105),(106,x106),(107,x107),(108,x108),(109,x109),(110,x110),(111,x111),(112,x112),(113,x113),(114,x114),(115,x115),(117,x117),(118,x118),(119,x119),(120,x120),(121,x121),(122,x122),(123,x123),(124,x124),(130,x130),(131,x131),(133,x133),(134,x134),(135,x135),(136,x136),(137,x137),(138,x138),(139,x139),(140,x140),(141,x141),(142,x142),(143,x143),(144,x144),(146,x146),(148,x148),(149,x149),(150,x150),(151,x151),(152,x152),(153,x153),(154,x154),(155,x155),(156,x156),(157,x157),(158,x158),(159,x159),(160,x160),(161,x161),(162,x162),(163,x163),(164,x164),(165,x165),(166,x166),(168,x168),(170,x170)]
theorem mLE:∀ e ∈ mL,ux Tryz.prog vy e.1 (.fn e.2):=c1 x7E (c1 x23E (c1 x24E (c1 x25E (c1 x26E (c1 x31E (c1 x33E (c1 x41E (c1 x42E (c1 x43E (c1 x44E (c1 x45E (c1 x46E (c1 x47E (c1 x48E (c1 x49E (c1 x50E (c1 x51E (c1 x52E (c1 x53E (c1 x55E (c1 x56E (c1 x65E (c1 x66E (c1 x67E (c1 x68E (c1 x69E (c1 x70E (c1 x71E (c1 x73E (c1 x74E (c1 x75E (c1 x76E (c1 x77E (c1 x78E (c1 x79E (c1 x80E (c1 x81E (c1 x82E (c1 x83E (c1 x84E (c1 x85E (c1 x86E (c1 x87E (c1 x88E (c1 x89E (c1 x95E (c1 x96E (c1 x97E (c1 x98E (c1 x99E (c1 x100E (c1 x101E (c1 x102E (c1 x103E (c1 x104E (c1 x105E (c1 x106E (c1 x107E (c1 x108E (c1 x109E (c1 x110E (c1 x111E (c1 x112E (c1 x113E (c1 x114E (c1 x115E (c1 x117E (c1 x118E (c1 x119E (c1 x120E (c1 x121E (c1 x122E (c1 x123E (c1 x124E (c1 x130E (c1 x131E (c1 x133E (c1 x134E (c1 x135E (c1 x136E (c1 x137E (c1 x138E (c1 x139E (c1 x140E (c1 x141E (c1 x142E (c1 x143E (c1 x144E (c1 x146E (c1 x148E (c1 x149E (c1 x150E (c1 x151E (c1 x152E (c1 x153E (c1 x154E (c1 x155E (c1 x156E (c1 x157E (c1 x158E (c1 x159E (c1 x160E (c1 x161E (c1 x162E (c1 x163E (c1 x164E (c1 x165E (c1 x166E (c1 x168E (c1 x170E (c0)))))))))))))))))))))))))))))))))))))))))))))))))))))))))))))))))))))))))))))))))))))))))))))))))))))))))))))))
section
attribute [local irreducible] x7 x23 x24 x25 x26 x31 x33 x41 x42 x43 x44 x45 x46 x47 x48 x49 x50 x51 x52 x53 x55 x56 x65 x66 x67 x68 x69 x70 x71 x73 x74 x75 x76 x77 x78 x79 x80 x81 x82 x83 x84 x85 x86 x87 x88 x89 x95 x96 x97 x98 x99 x100 x101 x102 x103 x104 x105 x106 x107 x108 x109 x110 x111 x112 x113 x114 x115 x117 x118 x119 x120 x121 x122 x123 x124 x130 x131 x133 x134 x135 x136 x137 x138 x139 x140 x141 x142 x143 x144 x146 x148 x149 x150 x151 x152 x153 x154 x155 x156 x157 x158 x159 x160 x161 x162 x163 x164 x165 x166 x168 x170
def jv6:Tr XE:=by
  have h:mS mL=_:=rfl
  conv at h=>lhs;reduce
  exact pick _ h
end
theorem jpe:mS mL = jv6:=by kernel_rfl
theorem jac:yz Tryz.prog vy jv6:=jpe ▸ jr2 mL mLE
end
end Go.Proofs.YtinffhimfoicdaaGreat
namespace Go.Proofs.YtinffhimfoicdaaGreat.Calc
open Go Go.RowKit
set_option linter.unusedVariables false
set_option linter.unusedSimpArgs false
noncomputable section
def bnd {α β:Type} (o:Option α) (k:α → Option β):Option β:=@Option.rec α (fun _=>Option β) none k o
def els {α β:Type} (o:Option α) (d:Option β) (k:α → Option β):Option β:=@Option.rec α (fun _=>Option β) d k o
def ga {β:Type} (t:Bool) (a b:β):β:=@Bool.rec (fun _=>β) b a t
theorem d9 {β:Type} (t:Bool) (a b:β):ga t a b = cond t a b:=by cases t <;> rfl
theorem cr {α β:Type} (a:α) (k:α → Option β):bnd (some a) k = k a:=rfl
def jna (r:RL) (t:Nat):Option BV:=@List.rec (Nat × BV) (fun _=>Option BV) none (fun e _ ih=>@Bool.rec (fun _=>Option BV) ih (some e.2) (Nat.beq e.1 t)) r
theorem y0 (t:Nat):∀ r:RL,jna r t = yq r t
  | []=>rfl
  |(d,b) :: r=>by
    show @Bool.rec (fun _=>Option BV) (jna r t) (some b) (Nat.beq d t) = cond (Nat.beq d t) (some b) (yq r t)
    rw [y0 t r]
    cases Nat.beq d t <;> rfl
def jtm (r:RL) (d:Nat) (b:BV):RL:=@List.rec (Nat × BV) (fun _=>RL) [(d,b)] (fun e r ih=>@Bool.rec (fun _=>RL) (e :: ih) ((d,b) :: r) (Nat.beq e.1 d)) r
theorem jj1 (d:Nat) (b:BV):∀ r:RL,jtm r d b = jo1 r d b
  | []=>rfl
  |(c,x) :: r=>by
    show @Bool.rec (fun _=>RL) ((c,x) :: jtm r d b) ((d,b) :: r) (Nat.beq c d) = cond (Nat.beq c d) ((d,b) :: r) ((c,x) :: jo1 r d b)
    rw [jj1 d b r]
    cases Nat.beq c d <;> rfl
def jd3 {α:Type} (l:List α) (n:Nat):Option α:=@List.rec α (fun _=>Nat → Option α) (fun _=>none) (fun a _ ih n=>@Nat.rec (fun _=>Option α) (some a) (fun m _=>ih m) n) l n
theorem px {α:Type}:∀(l:List α) (n:Nat),jd3 l n = l[n]?
  | [],n=>by simp [jd3]
  | a :: l,0=>rfl
  | a :: l,n + 1=>by
    show jd3 l n = _
    rw [px l n,List.getElem?_cons_succ]
def p9 {α:Type} (l:List α):Nat:=@List.rec α (fun _=>Nat) 0 (fun _ _ ih=>Nat.succ ih) l
theorem j5 {α:Type}:∀ l:List α,p9 l = l.length
  | []=>rfl
  | a :: l=>by show Nat.succ (p9 l) = _;rw [j5 l];rfl
def jdr {α:Type} (n:Nat) (l:List α):List α:=@Nat.rec (fun _=>List α → List α) (fun l=>l) (fun _ ih l=>@List.rec α (fun _=>List α) [] (fun _ t _=>ih t) l) n l
theorem t5 {α:Type}:∀(n:Nat) (l:List α),jdr n l = l.drop n
  | 0,l=>rfl
  | n + 1,[]=>rfl
  | n + 1,a :: l=>by show jdr n l = _;rw [t5 n l];rfl
def jbs {α:Type} (n:Nat) (l:List α):List α:=@Nat.rec (fun _=>List α → List α) (fun _=>[]) (fun _ ih l=>@List.rec α (fun _=>List α) [] (fun a t _=>a :: ih t) l) n l
theorem ra {α:Type}:∀(n:Nat) (l:List α),jbs n l = l.take n
  | 0,l=>by cases l <;> rfl
  | n + 1,[]=>rfl
  | n + 1,a :: l=>by show a :: jbs n l = _;rw [ra n l];rfl
def jtn {α:Type} (l:List α) (q:Nat):List α:=@Nat.rec (fun _=>List α) l (fun _ ih=>jdr 32 ih) q
theorem jfa {α:Type} (l:List α):∀ q,jtn l q = l.drop (32 * q)
  | 0=>rfl
  | q + 1=>by
    show jdr 32 (jtn l q) = _
    rw [t5,jfa l q,List.drop_drop]
    congr 1
def jj2 {α:Type} (n:Nat) (l:List α):List α:=jdr (Nat.mod n 32) (jtn l (Nat.div n 32))
theorem jgy {α:Type} (n:Nat) (l:List α):jj2 n l = l.drop n:=by
  rw [jj2,t5,jfa,List.drop_drop]
  congr 1
  show 32 *(n / 32) + n % 32 = n
  omega
def jv7 {α:Type} (l:List α) (n:Nat):Option α:=jd3 (jtn l (Nat.div n 32)) (Nat.mod n 32)
theorem jpf {α:Type} (l:List α) (n:Nat):jv7 l n = l[n]?:=by
  rw [jv7,px,jfa,List.getElem?_drop]
  congr 1
  show 32 *(n / 32) + n % 32 = n
  omega
def jr3 {α:Type} (l m:List α):List α:=@List.rec α (fun _=>List α) m (fun a _ ih=>a :: ih) l
theorem jfb {α:Type} (m:List α):∀ l:List α,jr3 l m = l ++ m
  | []=>rfl
  | a :: l=>by show a :: jr3 l m = _;rw [jfb m l];rfl
def jto (l:List DV):List BV:=@List.rec DV (fun _=>List BV) [] (fun a _ ih=>.d a :: ih) l
theorem jj3:∀ l:List DV,jto l = l.map .d
  | []=>rfl
  | a :: l=>by show BV.d a :: jto l = _;rw [jj3 l];rfl
def jfc {α:Type} (l:List α) (n:Nat) (x:α):List α:=@List.rec α (fun _=>Nat → List α) (fun _=>[]) (fun a t ih n=>@Nat.rec (fun _=>List α) (x :: t) (fun m _=>a :: ih m) n) l n
theorem wh {α:Type} (x:α):∀(l:List α) (n:Nat),jfc l n x = l.set n x
  | [],n=>rfl
  | a :: l,0=>rfl
  | a :: l,n + 1=>by show a :: jfc l n x = _;rw [wh x l n];rfl
def jpg (l:List Nat) (t:Nat):Bool:=@List.rec Nat (fun _=>Bool) false (fun a _ ih=>@Bool.rec (fun _=>Bool) ih true (Nat.beq a t)) l
theorem y1 (t:Nat):∀ l,jpg l t = ze l t
  | []=>rfl
  | a :: l=>by
    show @Bool.rec (fun _=>Bool) (jpg l t) true (Nat.beq a t) = cond (Nat.beq a t) true (ze l t)
    rw [y1 t l]
    cases Nat.beq a t <;> rfl
theorem pz (t:Nat):∀ l,ze l t = l.contains t
  | []=>rfl
  | a :: l=>by
    rw [ze,pz t l,List.contains_cons]
    rcases qq a t with ⟨h,rfl⟩|⟨h,hne⟩
    · rw [h];simp
    · rw [h,beq_false_of_ne (fun e=>hne e.symm)];rfl
def jqe (l m:List UInt8):Bool:=@List.rec UInt8 (fun _=>List UInt8 → Bool) (fun m=>@List.rec UInt8 (fun _=>Bool) true (fun _ _ _=>false) m) (fun a _ ih m=>@List.rec UInt8 (fun _=>Bool) false (fun b m' _=>@Bool.rec (fun _=>Bool) false (ih m') (Nat.beq a.toNat b.toNat)) m) l m
theorem jbt:∀ l m:List UInt8,jqe l m = eqU l m
  | [],[]=>rfl
  | [],b :: m=>rfl
  | a :: l,[]=>rfl
  | a :: l,b :: m=>by
    show @Bool.rec (fun _=>Bool) false (jqe l m) (Nat.beq a.toNat b.toNat) = _
    rw [jbt l m,eqU]
    cases Nat.beq a.toNat b.toNat <;> rfl
def evl:Nat → RL → RL → Option BV:=fun n L _=>jna L n
def evt:Nat → RL → RL → Option BV:=fun n _ T=>jna T n
def evc:BV → RL → RL → Option BV:=fun b _ _=>some b
def evn:RL → RL → Option BV:=fun _ _=>none
def evK (x:XO):RL → RL → Option BV:=@XO.rec (fun _=>RL → RL → Option BV) evl evt evc evn x
theorem jj (x:XO) (L T:RL):evK x L T = evX (L,T) x:=by
  cases x with
  | l n=>exact y0 n L
  | t n=>exact y0 n T
  | c b=>rfl
  | no=>rfl
def jqf (l:List XO) (L T:RL):Option (List BV):=@List.rec XO (fun _=>Option (List BV)) (some []) (fun o _ ih=>bnd (evK o L T) fun b=>bnd ih fun bs=>some (b :: bs)) l
theorem jfd (L T:RL):∀ l,jqf l L T = je0 (L,T) l
  | []=>rfl
  | o :: l=>by
    show bnd (evK o L T) (fun b=>bnd (jqf l L T) fun bs=>some (b :: bs)) = _
    rw [jj,jfd L T l,je0]
    cases evX (L,T) o <;> cases je0 (L,T) l <;> rfl
abbrev VF:=Program →(Nat → Bool) → RL → RL → St → Option BV
def vbK (t:Bool):Option BV:=some (.d (.flat (.bool t)))
def jxn (a b:ByteArray):Option BV:=vbK (jqe a.data.toList b.data.toList)
def jxo (a b:ByteArray):Option BV:=vbK (@Bool.rec (fun _=>Bool) true false (jqe a.data.toList b.data.toList))
def jxp (a b:ByteArray):ByteArray:=⟨(jr3 a.data.toList b.data.toList).toArray⟩
def jr4 (a b:ByteArray):Option BV:=ga (Nat.ble (Nat.add (p9 a.data.toList) (p9 b.data.toList)) 9223372036854775807) (some (.d (.flat (.string (jxp a b))))) none
def jr5:BinOp → ByteArray → ByteArray → Option BV
  | .eql=>jxn
  | .neq=>jxo
  | .add=>jr4
  | _=>jxl
theorem jph (f:BinOp) (a b:ByteArray):jr5 f a b = jqb f a b:=by
  cases f with
  | eql=>simp only [jr5,jqb,jxn,jxj,eqS,jbt];rfl
  | neq=>simp only [jr5,jqb,jxo,jxk,eqS,jbt];cases eqU a.data.toList b.data.toList <;> rfl
  | add=>simp only [jr5,jqb,jr4,jrv,d9,j5,jxp,jtf,jfb];rfl
  | _=>rfl
def jtp (f:BinOp) (a b:BV):Option BV:=els (jbb a) (bnd (zd a) fun s=>bnd (zd b) fun t=>jr5 f s t) fun p=>bnd (jbb b) fun q=>ga (Nat.beq p.1 q.1) (ga (Nat.beq p.1 0) none (jv3 f p.1 p.2 q.2)) none
theorem jpi (f:BinOp) (a b:BV):jtp f a b = jqc f a b:=by
  unfold jtp jqc els
  cases jbb a with
  | some p =>
    obtain ⟨c,m⟩:=p
    cases jbb b with
    | none=>rfl
    | some q =>
      obtain ⟨d,n⟩:=q
      simp only [cr,d9]
      cases Nat.beq c d <;> cases Nat.beq c 0 <;> rfl
  | none =>
    cases zd a with
    | none=>rfl
    | some s =>
      cases zd b with
      | none=>rfl
      | some t=>exact jph f s t
def jtq (a b:BV):Option BV:=bnd (zd a) fun s=>bnd (jbb b) fun q=>bnd (jv7 s.data.toList q.2) fun u=>some (.d (.flat (.int .u8 (.ofNat u.toNat))))
theorem jpj (a b:BV):jtq a b = jrw a b:=by
  unfold jtq jrw
  cases zd a with
  | none=>rfl
  | some s =>
    cases jbb b with
    | none=>rfl
    | some q =>
      obtain ⟨c,i⟩:=q
      simp only [cr,jpf]
      cases s.data.toList[i]? <;> rfl
def mvV (x:XO):VF:=fun _ _ L T _=>evK x L T
def jr6 (c a b:XO):VF:=fun _ _ L T _=>bnd (evK c L T) fun v=>bnd (p7 v) fun t=>ga t (evK a L T) (evK b L T)
def jxq (f:BinOp) (x y:XO) (op:Op):VF:=fun P loc L T st=>bnd (evK x L T) fun a=>bnd (evK y L T) fun b=>els (jtp f a b) (bn P st (rgx loc (L,T)) op) some
def jxr (x:XO):VF:=fun _ _ L T _=>bnd (evK x L T) fun v=>bnd (p7 v) fun t=>ga t (vbK false) (vbK true)
def jxs (x i:XO) (op:Op):VF:=fun P loc L T st=>bnd (evK x L T) fun a=>bnd (evK i L T) fun b=>els (jtq a b) (bn P st (rgx loc (L,T)) op) some
def faV (o:Nat) (x:XO):VF:=fun _ _ L T _=>bnd (evK x L T) fun b=>els (yr b) (bnd (tw b) fun cs=>some (.eptr (jdr o cs))) fun q=>some (.ptr q.1 (Nat.add q.2 o))
def iaV (sz:Nat) (x i:XO):VF:=fun _ _ L T _=>bnd (evK x L T) fun a=>bnd (evK i L T) fun b=>bnd (mg a) fun r=>bnd (jbb b) fun q=>ga (Nat.ble (Nat.succ q.2) r.2) (some (.eptr (jbs sz (jj2 (Nat.mul q.2 sz) r.1)))) none
def jhy (ag:Bool) (sz off:Nat) (cs:List BV):Option BV:=ga ag (ga (Nat.ble (Nat.add off sz) (p9 cs)) (some (.agg (jbs sz (jdr off cs)))) none) (ga (Nat.beq sz 1) (jd3 cs off) (part ag sz off cs))
theorem jl4 (ag:Bool) (sz off:Nat) (cs:List BV):jhy ag sz off cs = jhu ag sz off cs:=by
  unfold jhy jhu
  cases ag
  · simp only [d9,px,cond_false,Bool.not_false,Bool.true_and]
  · simp only [d9,cond_true,Bool.not_true,Bool.false_and,cond_false,j5,ra,t5,part]
    by_cases h:off + sz ≤ cs.length
    · rw [if_pos h,show Nat.ble (Nat.add off sz) cs.length = true from Nat.ble_eq_true_of_le h]
      rfl
    · rw [if_neg h]
      have:Nat.ble (Nat.add off sz) cs.length = false:=by
        rw [Bool.eq_false_iff]
        exact fun e=>h (Nat.le_of_ble_eq_true e)
      rw [this]
      rfl
def ldV (ag:Bool) (sz:Nat) (x:XO):VF:=fun _ _ L T st=>bnd (evK x L T) fun b=>els (yr b) (bnd (tw b) fun cs=>jhy ag sz 0 (jto cs)) fun q=>bnd (jd3 st.S q.1) fun c=>jhy ag sz q.2 c.1
def ncV (x:XO):VF:=fun _ _ L T _=>bnd (evK x L T) fun b=>els (yr b) (els (tw b) (bnd (fnB b) fun _=>some b) fun _=>some b) fun _=>some b
def exV (x:XO) (i:Nat):VF:=fun _ _ L T _=>bnd (evK x L T) fun b=>bnd (jkr b) fun l=>jd3 l i
def jr7 (x:XO):VF:=fun _ _ L T _=>bnd (evK x L T) fun b=>bnd (zd b) fun s=>some (.d (.flat (.int .i64 (.ofNat (p9 s.data.toList)))))
def jr8 (x:XO):VF:=fun _ _ L T _=>bnd (evK x L T) fun b=>bnd (mg b) fun r=>some (.d (.flat (.int .i64 (.ofNat r.2))))
def jr9 (d:Nat) (o:Option XO) (L T:RL):Option Nat:=@Option.rec XO (fun _=>Option Nat) (some d) (fun o=>bnd (evK o L T) fun b=>bnd (jbb b) fun q=>some q.2) o
theorem jpk (d:Nat) (o:Option XO) (L T:RL):jr9 d o L T = jlt (L,T) d o:=by
  cases o with
  | none=>rfl
  | some o =>
    show bnd (evK o L T) (fun b=>bnd (jbb b) fun q=>some q.2) = _
    rw [jj,jlt]
    cases evX (L,T) o with
    | none=>rfl
    | some b=>cases h:jbb b <;> simp only [cr,h] <;> rfl
def jtr (s:ByteArray) (l h:Nat):Option BV:=ga (Nat.ble l h) (ga (Nat.ble h (p9 s.data.toList)) (some (.d (.flat (.string ⟨(jbs (Nat.sub h l) (jj2 l s.data.toList)).toArray⟩)))) none) none
theorem jpl (s:ByteArray) (l h:Nat):jtr s l h = jth s l h:=by
  simp only [jtr,jth,d9,j5,ra,jgy]
  show cond (Nat.ble l h) (cond (Nat.ble h (jkq s)) (some (BV.d (.flat (.string (jtg s l h))))) none) none = _
  cases Nat.ble l h <;> cases Nat.ble h (jkq s) <;> rfl
def jxt (x:XO) (lo hi:Option XO):VF:=fun _ _ L T _=>bnd (evK x L T) fun b=>bnd (zd b) fun s=>bnd (jr9 0 lo L T) fun l=>bnd (jr9 (p9 s.data.toList) hi L T) fun h=>jtr s l h
def jy7 (op:Op):VF:=fun P loc L T st=>bn P st (rgx loc (L,T)) op
def noV:VF:=fun _ _ _ _ _=>none
def vK (i:XI):VF:=@XI.rec (fun _=>VF) mvV jr6 jxq jxr jxs faV iaV ldV ncV exV (fun _ _ _=>noV) jr7 jr8 jxt (fun _ _ _=>noV) (fun _ _=>noV) jy7 i
theorem ry (P:Program) (loc:Nat → Bool) (L T:RL) (st:St) (i:XI):vK i P loc L T st = stV loc P st (L,T) i:=by
  cases i with
  | mv x=>exact jj x L T
  | pick c a b =>
    show bnd (evK c L T) (fun v=>bnd (p7 v) fun t=>ga t (evK a L T) (evK b L T)) = _
    simp only [stV,jj,d9]
    cases evX (L,T) c with
    | none=>rfl
    | some v=>cases h:p7 v <;> simp only [cr,h] <;> rfl
  | bin f x y op =>
    show bnd (evK x L T) (fun a=>bnd (evK y L T) fun b=>els (jtp f a b) (bn P st (rgx loc (L,T)) op) some) = _
    simp only [stV,jj,jpi]
    cases evX (L,T) x with
    | none=>rfl
    | some a=>cases evX (L,T) y with
      | none=>rfl
      | some b=>simp only [cr];cases jqc f a b <;> rfl
  | not x =>
    show bnd (evK x L T) (fun v=>bnd (p7 v) fun t=>ga t (vbK false) (vbK true)) = _
    simp only [stV,jj]
    cases evX (L,T) x with
    | none=>rfl
    | some v=>cases h:p7 v with
      | none=>simp only [cr,h];rfl
      | some t=>simp only [cr,h];cases t <;> rfl
  | idx x i op =>
    show bnd (evK x L T) (fun a=>bnd (evK i L T) fun b=>els (jtq a b) (bn P st (rgx loc (L,T)) op) some) = _
    simp only [stV,jj,jpj]
    cases evX (L,T) x with
    | none=>rfl
    | some a=>cases evX (L,T) i with
      | none=>rfl
      | some b=>simp only [cr];cases jrw a b <;> rfl
  | fa o x =>
    show bnd (evK x L T) (fun b=>els (yr b) (bnd (tw b) fun cs=>some (BV.eptr (jdr o cs))) fun q=>some (BV.ptr q.1 (Nat.add q.2 o))) = _
    simp only [stV,jj,t5]
    cases evX (L,T) x with
    | none=>rfl
    | some b =>
      simp only [cr]
      cases yr b with
      | some q=>rfl
      | none=>cases tw b <;> rfl
  | ia sz x i =>
    show bnd (evK x L T) (fun a=>bnd (evK i L T) fun b=>bnd (mg a) fun r=>bnd (jbb b) fun q=>ga (Nat.ble (Nat.succ q.2) r.2) (some (BV.eptr (jbs sz (jj2 (Nat.mul q.2 sz) r.1)))) none) = _
    simp only [stV,jj,ra,jgy,d9]
    cases evX (L,T) x with
    | none=>rfl
    | some a=>cases evX (L,T) i with
      | none=>rfl
      | some b =>
        simp only [cr]
        cases mg a with
        | none=>rfl
        | some r=>cases jbb b <;> rfl
  | ld ag sz x =>
    show bnd (evK x L T) (fun b=>els (yr b) (bnd (tw b) fun cs=>jhy ag sz 0 (jto cs)) fun q=>bnd (jd3 st.S q.1) fun c=>jhy ag sz q.2 c.1) = _
    simp only [stV,jj,jl4,jj3,px]
    cases evX (L,T) x with
    | none=>rfl
    | some b =>
      simp only [cr]
      cases yr b with
      | some q =>
        obtain ⟨id,off⟩:=q
        show bnd st.S[id]? _ = _
        dsimp only
        cases st.S[id]? <;> rfl
      | none=>cases tw b <;> rfl
  | nc x =>
    show bnd (evK x L T) (fun b=>els (yr b) (els (tw b) (bnd (fnB b) fun _=>some b) fun _=>some b) fun _=>some b) = _
    simp only [stV,jj]
    cases evX (L,T) x with
    | none=>rfl
    | some b =>
      simp only [cr]
      cases yr b with
      | some q=>rfl
      | none=>cases tw b with
        | some q=>rfl
        | none=>cases fnB b <;> rfl
  | ex x i =>
    show bnd (evK x L T) (fun b=>bnd (jkr b) fun l=>jd3 l i) = _
    simp only [stV,jj,px]
    cases evX (L,T) x with
    | none=>rfl
    | some b=>cases h:jkr b <;> simp only [cr,h] <;> rfl
  | st sz x v=>rfl
  | lens x =>
    show bnd (evK x L T) (fun b=>bnd (zd b) fun s=>some (BV.d (.flat (.int .i64 (.ofNat (p9 s.data.toList)))))) = _
    simp only [stV,jj,j5]
    cases evX (L,T) x with
    | none=>rfl
    | some b=>cases h:zd b <;> simp only [cr,h] <;> rfl
  | lenr x =>
    show bnd (evK x L T) (fun b=>bnd (mg b) fun r=>some (BV.d (.flat (.int .i64 (.ofNat r.2))))) = _
    simp only [stV,jj]
    cases evX (L,T) x with
    | none=>rfl
    | some b=>cases h:mg b <;> simp only [cr,h] <;> rfl
  | sls x lo hi =>
    show bnd (evK x L T) (fun b=>bnd (zd b) fun s=>bnd (jr9 0 lo L T) fun l=>bnd (jr9 (p9 s.data.toList) hi L T) fun h=>jtr s l h) = _
    simp only [stV,jj,jpk,jpl,j5]
    cases evX (L,T) x with
    | none=>rfl
    | some b =>
      simp only [cr]
      cases zd b with
      | none=>rfl
      | some s =>
        simp only [cr]
        cases jlt (L,T) 0 lo with
        | none=>rfl
        | some l =>
          simp only [cr]
          show bnd (jlt (L,T) (jkq s) hi) _ = _
          cases jlt (L,T) (jkq s) hi <;> rfl
  | cs f p ars=>rfl
  | cl f ars=>rfl
  | gen op=>rfl
end
end Go.Proofs.YtinffhimfoicdaaGreat.Calc
namespace Go.Proofs.YtinffhimfoicdaaGreat.Calc
open Go Go.RowKit
set_option linter.unusedVariables false
set_option linter.unusedSimpArgs false
noncomputable section
abbrev Z:=AX × RL × St
abbrev KK:=BV → St → Option Z
abbrev SF:=Program →(Nat → Bool) →(Nat → Bool) → e9 → RL → RL → St → KK → Option Z
def idK:BV → List Nat → List Nat
  | .ptr id _=>fun l=>id :: l
  | .fn _ cap=>fun l=>jo6 cap ++ l
  | _=>fun l=>l
def jqg (vs:List BV):List Nat:=@List.rec BV (fun _=>List Nat) [] (fun b _ ih=>idK b ih) vs
theorem jfe:∀ vs,jqg vs = ky vs
  | []=>rfl
  | b :: vs=>by
    show idK b (jqg vs) = _
    rw [jfe vs]
    cases b <;> rfl
def jv8 (ok:Nat → Bool) (l:List Nat):Bool:=@List.rec Nat (fun _=>Bool) true (fun i _ ih=>ga (ok i) ih false) l
theorem jj4 (ok:Nat → Bool):∀ l,jv8 ok l = l.all ok
  | []=>rfl
  | i :: l=>by
    show ga (ok i) (jv8 ok l) false = _
    rw [jj4 ok l,d9,List.all_cons]
    cases ok i <;> rfl
def jpm {α:Type} (off:Nat) (us l:List α):List α:=@List.rec α (fun _=>Nat → List α → List α) (fun _ l=>l) (fun c _ ih off l=>ih (Nat.succ off) (jfc l off c)) us off l
theorem jgz {α:Type}:∀(us:List α) (off:Nat) (l:List α),jpm off us l = mi off us l
  | [],off,l=>rfl
  | c :: us,off,l=>by
    show jpm (off + 1) us (jfc l off c) = _
    rw [jgz us,wh]
    rfl
def jsa (ok:Nat → Bool) (st:St) (sz id off:Nat) (b:BV):Option St :=
  bnd (jd3 st.S id) fun c=>ga (ok id) (ga (f6 b) (ga (Nat.beq (p9 (dh b)) sz) (ga (Nat.ble (Nat.add off sz) (p9 c.1)) (some ⟨jfc st.S id (jpm off (dh b) c.1,c.2),st.T,st.M⟩) none) none) none) none
theorem jpn (ok:Nat → Bool) (st:St) (sz id off:Nat) (b:BV):jti ok st sz id off b = bnd (jsa ok st sz id off b) fun s=>some (s,none):=by
  simp only [jti,jsa,px,d9,j5,wh,jgz]
  cases st.S[id]? with
  | none=>rfl
  | some c =>
    obtain ⟨cs,ty⟩:=c
    simp only [cr]
    show cond (ok id && (f6 b && (Nat.beq (dh b).length sz && Nat.ble (off + sz) cs.length))) _ _ = bnd (cond (ok id) (cond (f6 b) (cond (Nat.beq (dh b).length sz) (cond (Nat.ble (off + sz) cs.length) _ _) _) _) _) _
    cases ok id <;> cases f6 b <;> cases Nat.beq (dh b).length sz <;> cases Nat.ble (off + sz) cs.length <;> rfl
def jff (v:VF):SF:=fun P loc ok call L T st k=>bnd (v P loc L T st) fun b=>k b st
def stS (sz:Nat) (x v:XO):SF:=fun P loc ok call L T st k=>bnd (evK x L T) fun a=>bnd (yr a) fun q=>bnd (evK v L T) fun b=>bnd (jsa ok st sz q.1 q.2 b) fun s=>k (.tup []) s
def jhz (ok:Nat → Bool) (call:e9) (st:St) (g:Nat) (p:List Bool) (vs:List BV) (k:KK):Option Z:=ga (jv8 ok (jqg vs)) (bnd (call g p vs st) fun z=>k z.1 z.2) none
def csS (g:Nat) (p:List Bool) (ars:List XO):SF:=fun P loc ok call L T st k=>bnd (jqf ars L T) fun vs=>jhz ok call st g p vs k
def clS (f:XO) (ars:List XO):SF:=fun P loc ok call L T st k=>bnd (evK f L T) fun v=>bnd (fnB v) fun q=>bnd (jqf ars L T) fun vs=>jhz ok call st q.1 (bits q.1) (jr3 vs q.2) k
def jy8 (op:Op):SF:=fun P loc ok call L T st k=>els (bn P st (rgx loc (L,T)) op) (bnd (db P ok st (rgx loc (L,T)) op) fun z=>k (z.2.getD (.tup [])) z.1) fun b=>k b st
def jsb (i:XI):SF:=@XI.rec (fun _=>SF) (fun x=>jff (mvV x)) (fun c a b=>jff (jr6 c a b)) (fun f x y op=>jff (jxq f x y op)) (fun x=>jff (jxr x)) (fun x i op=>jff (jxs x i op)) (fun o x=>jff (faV o x)) (fun sz x i=>jff (iaV sz x i)) (fun ag sz x=>jff (ldV ag sz x)) (fun x=>jff (ncV x)) (fun x i=>jff (exV x i)) stS (fun x=>jff (jr7 x)) (fun x=>jff (jr8 x)) (fun x lo hi=>jff (jxt x lo hi)) csS clS jy8 i
def jsc (z:Option (St × Option BV)) (k:KK):Option Z:=bnd z fun z=>k (z.2.getD (.tup [])) z.1
theorem jg0 {ok:Nat → Bool} {call:e9} {st:St} {g:Nat} {p:List Bool} {vs:List BV} {k:KK}:jhz ok call st g p vs k = jsc (jhv ok call st g p vs) k:=by
  unfold jhz jhv jsc
  rw [jj4,jfe,d9]
  cases h:(ky vs).all ok
  · rw [if_neg (by decide)];rfl
  · rw [if_pos rfl]
    simp only [cond_true]
    cases call g p vs st <;> rfl
theorem j6 {P:Program} {loc ok:Nat → Bool} {call:e9} {L T:RL} {st:St} {k:KK} {i:XI} {v:VF} (hv:v P loc L T st = stV loc P st (L,T) i) (hs:tz loc P ok call (L,T) st i = match stV loc P st (L,T) i with|some b=>some (st,some b)|none=>none):jff v P loc ok call L T st k = jsc (tz loc P ok call (L,T) st i) k:=by
  rw [hs]
  unfold jff
  rw [hv]
  cases stV loc P st (L,T) i <;> rfl
theorem jl5 (P:Program) (loc ok:Nat → Bool) (call:e9) (L T:RL) (st:St) (k:KK) (i:XI):jsb i P loc ok call L T st k = jsc (tz loc P ok call (L,T) st i) k:=by
  cases i with
  | st sz x v =>
    show bnd (evK x L T) (fun a=>bnd (yr a) fun q=>bnd (evK v L T) fun b=>bnd (jsa ok st sz q.1 q.2 b) fun s=>k (.tup []) s) = _
    simp only [tz,stW,jj]
    cases evX (L,T) x with
    | none=>rfl
    | some a =>
      simp only [cr]
      cases yr a with
      | none=>rfl
      | some q =>
        obtain ⟨id,off⟩:=q
        simp only [cr]
        cases evX (L,T) v with
        | none=>rfl
        | some b =>
          simp only [cr,jpn]
          cases jsa ok st sz id off b <;> rfl
  | cs g p ars =>
    show bnd (jqf ars L T) (fun vs=>jhz ok call st g p vs k) = _
    simp only [tz,jfd,jg0]
    cases je0 (L,T) ars with
    | none=>rfl
    | some vs=>simp only [cr,List.append_nil]
  | cl f ars =>
    show bnd (evK f L T) (fun v=>bnd (fnB v) fun q=>bnd (jqf ars L T) fun vs=>jhz ok call st q.1 (bits q.1) (jr3 vs q.2) k) = _
    simp only [tz,jfd,jj,jg0,jfb]
    cases evX (L,T) f with
    | none=>rfl
    | some v =>
      simp only [cr]
      cases fnB v with
      | none=>rfl
      | some q =>
        simp only [cr]
        cases je0 (L,T) ars <;> rfl
  | gen op =>
    show els (bn P st (rgx loc (L,T)) op) (bnd (db P ok st (rgx loc (L,T)) op) fun z=>k (z.2.getD (.tup [])) z.1) (fun b=>k b st) = _
    simp only [tz,stW]
    cases bn P st (rgx loc (L,T)) op <;> rfl
  | mv x=>exact j6 (i:=.mv x) (ry P loc L T st (.mv x)) rfl
  | pick c a b=>exact j6 (i:=.pick c a b) (ry P loc L T st (.pick c a b)) rfl
  | bin f x y op=>exact j6 (i:=.bin f x y op) (ry P loc L T st (.bin f x y op)) rfl
  | not x=>exact j6 (i:=.not x) (ry P loc L T st (.not x)) rfl
  | idx x i op=>exact j6 (i:=.idx x i op) (ry P loc L T st (.idx x i op)) rfl
  | fa o x=>exact j6 (i:=.fa o x) (ry P loc L T st (.fa o x)) rfl
  | ia sz x i=>exact j6 (i:=.ia sz x i) (ry P loc L T st (.ia sz x i)) rfl
  | ld ag sz x=>exact j6 (i:=.ld ag sz x) (ry P loc L T st (.ld ag sz x)) rfl
  | nc x=>exact j6 (i:=.nc x) (ry P loc L T st (.nc x)) rfl
  | ex x i=>exact j6 (i:=.ex x i) (ry P loc L T st (.ex x i)) rfl
  | lens x=>exact j6 (i:=.lens x) (ry P loc L T st (.lens x)) rfl
  | lenr x=>exact j6 (i:=.lenr x) (ry P loc L T st (.lenr x)) rfl
  | sls x lo hi=>exact j6 (i:=.sls x lo hi) (ry P loc L T st (.sls x lo hi)) rfl
def jj5 (d:XT) (b:BV) (L T:RL) (k:RL → RL → Option Z):Option Z:=@XT.rec (fun _=>Option Z) (k L T) (fun n=>k (jtm L n b) T) (fun n=>k L ((n,b) :: T)) d
theorem uy (d:XT) (b:BV) (L T:RL) (k:RL → RL → Option Z):jj5 d b L T k = k (qr (L,T) d b).1 (qr (L,T) d b).2:=by
  cases d with
  | no=>rfl
  | l n=>show k (jtm L n b) T = _;rw [jj1];rfl
  | t n=>rfl
def jg1 (g:XG) (L T:RL) (yes no:Option Z):Option Z:=@XG.rec (fun _=>Option Z) yes (fun x t=>bnd (evK x L T) fun v=>els (p7 v) (bnd (jkr v) fun l=>@List.rec BV (fun _=>Option Z) no (fun _ _ _=>none) l) fun b=>ga b (ga t yes no) (ga t no yes)) none g
theorem jds (g:XG) (L T:RL) (yes no:Option Z):jg1 g L T yes no = match gX (L,T) g with
    | some true=>yes
    | some false=>no
    | none=>none:=by
  cases g with
  | yes=>rfl
  | bad=>rfl
  | g x t =>
    show bnd (evK x L T) (fun v=>els (p7 v) (bnd (jkr v) fun l=>@List.rec BV (fun _=>Option Z) no (fun _ _ _=>none) l) fun b=>ga b (ga t yes no) (ga t no yes)) = _
    simp only [gX,jj]
    cases evX (L,T) x with
    | none=>rfl
    | some v =>
      simp only [cr]
      cases p7 v with
      | some b=>cases b <;> cases t <;> rfl
      | none =>
        cases jkr v with
        | none=>rfl
        | some l=>cases l <;> rfl
abbrev RK:=RL → RL → St → Option Z
def jnb (x:XP) (P:Program) (loc ok:Nat → Bool) (call:e9) (L T:RL) (st:St) (k:RK):Option Z :=
  jg1 x.g L T (jsb x.i P loc ok call L T st fun b s=>jj5 x.d b L T fun L' T'=>k L' T' s) (jj5 x.d (.tup []) L T fun L' T'=>k L' T' st)
def goR (z:Option (RT × St)) (k:RK):Option Z:=bnd z fun z=>k z.1.1 z.1.2 z.2
theorem jpo (r:RT) (d:XT) (b:Option BV):putW r d b = qr r d (b.getD (.tup [])):=by cases b <;> rfl
theorem jfg (x:XP) (P:Program) (loc ok:Nat → Bool) (call:e9) (L T:RL) (st:St) (k:RK):jnb x P loc ok call L T st k = goR (jd2 loc P ok call x (L,T) st) k:=by
  unfold jnb jd2
  rw [jds,jl5]
  cases gX (L,T) x.g with
  | none=>rfl
  | some t =>
    cases t
    · simp only [uy];rfl
    · dsimp only
      unfold jsc
      cases tz loc P ok call (L,T) st x.i with
      | none=>rfl
      | some z=>simp only [cr,uy,jpo,goR]
def jj6 (P:Program) (loc ok:Nat → Bool) (call:e9) (l:List XQ):RL → RL → St → RK → Option Z :=
  @List.rec XQ (fun _=>RL → RL → St → RK → Option Z) (fun L T st k=>k L T st) (fun x _ ih L T st k=>@XQ.rec (fun _=>Option Z) (fun n x=>bnd (evK x L T) fun b=>ih L ((n,b) :: T) st k) (fun p=>jnb p P loc ok call L T st fun L' T' s=>ih L' T' s k) x) l
theorem jbu (P:Program) (loc ok:Nat → Bool) (call:e9):∀(l:List XQ) (L T:RL) (st:St) (k:RK),jj6 P loc ok call l L T st k = goR (jlw loc P ok call (l.map jo8) (L,T) st) k
  | [],L,T,st,k=>rfl
  | .g x :: l,L,T,st,k=>by
    show jnb x P loc ok call L T st (fun L' T' s=>jj6 P loc ok call l L' T' s k) = _
    rw [jfg,List.map_cons,jlw,jo8]
    cases jd2 loc P ok call x (L,T) st with
    | none=>rfl
    | some z =>
      obtain ⟨⟨L',T'⟩,s⟩:=z
      simp only [goR,cr]
      rw [jbu P loc ok call l]
      rfl
  | .mt n x :: l,L,T,st,k=>by
    show bnd (evK x L T) (fun b=>jj6 P loc ok call l L ((n,b) :: T) st k) = _
    rw [jj,List.map_cons,jlw,jo8]
    simp only [jd2,gX,tz,stW,stV]
    cases evX (L,T) x with
    | none=>rfl
    | some b =>
      simp only [cr,putW,qr]
      rw [jbu P loc ok call l]
def jpp (Wr:List Nat) (loc:Nat → Bool) (L T:RL) (i:XI):Bool:=@List.rec Nat (fun _=>Bool) true (fun _ _ _=>jbh loc Wr (L,T) i) Wr
theorem jl6 (Wr:List Nat) (loc:Nat → Bool) (L T:RL) (i:XI):jpp Wr loc L T i = jbh loc Wr (L,T) i:=by
  cases Wr with
  | cons a l=>rfl
  | nil =>
    show true = _
    cases i with
    | ld ag sz x =>
      simp only [jbh]
      cases evX (L,T) x with
      | none=>rfl
      | some b =>
        cases h:yr b with
        | none=>simp only [h]
        | some q=>simp only [h];rfl
    | gen op=>exact (jcg _ _).symm
    | _=>rfl
def okW (ok:Nat → Bool) (w:Bool) (Wr:List Nat) (i:Nat):Bool:=ga (ok i) (ga w true (jpg Wr i)) false
theorem jnc (ok:Nat → Bool) (w:Bool) (Wr:List Nat):okW ok w Wr = fun i=>ok i && (w || Wr.contains i):=by
  funext i
  simp only [okW,d9,y1,pz]
  cases ok i <;> cases w <;> rfl
def jj7 (P:Program) (loc ok:Nat → Bool) (Wr:List Nat) (call:e9) (l:List XA):RL → RL → St → RK → Option Z :=
  @List.rec XA (fun _=>RL → RL → St → RK → Option Z) (fun L T st k=>k L T st) (fun a _ ih L T st k=>ga a.take (bnd (vK a.x.i P loc L T st) fun b=>jj5 a.x.d b L T fun L' T'=>ih L' T' st k)
    (ga (jrt st && yu (L,T) st a.x.i) (jnb a.x P loc (okW ok a.wr Wr) call L T st fun L' T' s=>ga (Nat.beq s.T.length st.T.length) (ih L' T' s k) none) none)) l
theorem jbv (P:Program) (loc ok:Nat → Bool) (Wr:List Nat) (call:e9):∀(l:List XA) (L T:RL) (st:St) (k:RK),jj7 P loc ok Wr call l L T st k = goR (jbj loc P ok Wr call l (L,T) st) k
  | [],L,T,st,k=>rfl
  | ⟨t,w,x⟩ :: l,L,T,st,k=>by
    show ga t (bnd (vK x.i P loc L T st) fun b=>jj5 x.d b L T fun L' T'=>jj7 P loc ok Wr call l L' T' st k)
      (ga (jrt st && yu (L,T) st x.i) (jnb x P loc (okW ok w Wr) call L T st fun L' T' s=>ga (Nat.beq s.T.length st.T.length) (jj7 P loc ok Wr call l L' T' s k) none) none) = _
    cases t
    · rw [jfg,jnc,d9,d9]
      simp only [cond_false,jbj]
      cases jrt st && yu (L,T) st x.i
      · cases jd2 loc P (fun i=>ok i && (w || Wr.contains i)) call x (L,T) st <;> rfl
      · cases jd2 loc P (fun i=>ok i && (w || Wr.contains i)) call x (L,T) st with
        | none=>rfl
        | some z =>
          obtain ⟨⟨L',T'⟩,s⟩:=z
          simp only [cond_true,goR,cr,d9]
          cases h:Nat.beq s.T.length st.T.length
          · rfl
          · simp only [cond_true,if_true]
            rw [jbv P loc ok Wr call l]
            rfl
    · rw [ry,d9]
      simp only [cond_true,jbj]
      cases stV loc P st (L,T) x.i with
      | none=>rfl
      | some b =>
        simp only [cr,uy]
        rw [jbv P loc ok Wr call l]
def stK (P:Program) (loc ok:Nat → Bool) (Wr:List Nat) (call:e9) (a:XA) (L T:RL) (st:St) (k:RK):Option Z :=
  ga a.take (jg1 a.x.g L T (ga (jpp Wr loc L T a.x.i) (bnd (vK a.x.i P loc L T st) fun b=>jj5 a.x.d b L T fun L' T'=>k L' T' st) none) (jj5 a.x.d (.tup []) L T fun L' T'=>k L' T' st))
    (jnb a.x P loc (okW ok a.wr Wr) call L T st k)
def flK (P:Program) (loc ok:Nat → Bool) (Wr:List Nat) (call:e9) (A:List XA) (j:XP) (L T:RL) (st:St) (k:RK):Option Z :=
  jj7 P loc ok Wr call A L T st fun L1 T1 s1=>bnd (stW loc P ok s1 (L1,T1) j.i) fun z=>bnd z.2 fun b=>jj5 j.d b L1 T1 fun L' T'=>k L' T' z.1
def jfh (P:Program) (loc ok:Nat → Bool) (Wr:List Nat) (call:e9) (l:List XD):RL → RL → St → RK → Option Z :=
  @List.rec XD (fun _=>RL → RL → St → RK → Option Z) (fun L T st k=>k L T st) (fun x _ ih L T st k=>@XD.rec (fun _=>Option Z) (fun a=>stK P loc ok Wr call a L T st fun L' T' s=>ih L' T' s k) (fun A j=>flK P loc ok Wr call A j L T st fun L' T' s=>ih L' T' s k) x) l
theorem t9 (P:Program) (loc ok:Nat → Bool) (Wr:List Nat) (call:e9):∀(l:List XD) (L T:RL) (st:St) (k:RK),jfh P loc ok Wr call l L T st k = goR (je1 loc P ok Wr call l (L,T) st) k
  | [],L,T,st,k=>rfl
  | .st ⟨t,w,x⟩ :: l,L,T,st,k=>by
    show ga t (jg1 x.g L T (ga (jpp Wr loc L T x.i) (bnd (vK x.i P loc L T st) fun b=>jj5 x.d b L T fun L' T'=>jfh P loc ok Wr call l L' T' st k) none) (jj5 x.d (.tup []) L T fun L' T'=>jfh P loc ok Wr call l L' T' st k))
      (jnb x P loc (okW ok w Wr) call L T st fun L' T' s=>jfh P loc ok Wr call l L' T' s k) = _
    cases t
    · rw [jfg,jnc,d9]
      simp only [cond_false,je1]
      cases jd2 loc P (fun i=>ok i && (w || Wr.contains i)) call x (L,T) st with
      | none=>rfl
      | some z =>
        obtain ⟨⟨L',T'⟩,s⟩:=z
        simp only [goR,cr]
        rw [t9 P loc ok Wr call l]
        rfl
    · rw [jds,ry,jl6,d9,d9]
      simp only [cond_true,je1]
      cases gX (L,T) x.g with
      | none=>rfl
      | some q =>
        cases q
        · simp only [uy]
          rw [t9 P loc ok Wr call l]
        · dsimp only
          cases jbh loc Wr (L,T) x.i
          · rfl
          · simp only [cond_true,if_true]
            cases stV loc P st (L,T) x.i with
            | none=>rfl
            | some b =>
              simp only [cr,uy]
              rw [t9 P loc ok Wr call l]
  | .fl A j :: l,L,T,st,k=>by
    show jj7 P loc ok Wr call A L T st (fun L1 T1 s1=>bnd (stW loc P ok s1 (L1,T1) j.i) fun z=>bnd z.2 fun b=>jj5 j.d b L1 T1 fun L' T'=>jfh P loc ok Wr call l L' T' z.1 k) = _
    rw [jbv,je1]
    cases jbj loc P ok Wr call A (L,T) st with
    | none=>rfl
    | some z =>
      obtain ⟨⟨L1,T1⟩,s1⟩:=z
      simp only [goR,cr]
      cases stW loc P ok s1 (L1,T1) j.i with
      | none=>rfl
      | some z =>
        obtain ⟨s2,b⟩:=z
        cases b with
        | none=>rfl
        | some b =>
          simp only [cr,uy]
          rw [t9 P loc ok Wr call l]
          rfl
end
end Go.Proofs.YtinffhimfoicdaaGreat.Calc
namespace Go.Proofs.YtinffhimfoicdaaGreat.Calc
open Go Go.RowKit
set_option linter.unusedVariables false
set_option linter.unusedSimpArgs false
noncomputable section
def okK (Wr:List Nat) (nb:Nat) (i:Nat):Bool:=ga (jpg Wr i) true (Nat.ble nb i)
theorem jnd (Wr:List Nat) (nb:Nat):okK Wr nb = okX Wr nb:=by
  funext i
  simp only [okK,okX,d9,y1,pz]
  cases Wr.contains i <;> rfl
def jxu (l:List Nat):Nat → Bool:=fun t=>jpg l t
theorem jpq (l:List Nat):jxu l = ze l:=by
  funext t
  exact y1 t l
def jpr (is:List Nat) (vs:List BV):RL:=@List.rec Nat (fun _=>List BV → RL) (fun _=>[]) (fun i _ ih vs=>@List.rec BV (fun _=>RL) [] (fun b l _=>(i,b) :: ih l) vs) is vs
theorem jg2:∀(is:List Nat) (vs:List BV),jpr is vs = jht is vs
  | [],vs=>by cases vs <;> rfl
  | i :: is,[]=>rfl
  | i :: is,b :: l=>by
    show (i,b) :: jpr is l = _
    rw [jg2 is l]
    rfl
def jqh (nb k:Nat):BV → Option BV
  | .d x=>some (.d x)
  | .tight cs n=>some (.tight cs n)
  | .own e sz t cs n=>ga (Nat.ble (Nat.succ t) k) (some (.own e sz t cs n)) (some (.d (.sl cs n)))
  | .ptr id off=>ga (Nat.ble (Nat.succ id) nb) (some (.ptr id off)) none
  | .eptr cs=>some (.eptr cs)
  | .tup _=>none
  | .agg l=>low nb k (.agg l)
  | .fn f l=>low nb k (.fn f l)
  | .bsl id n=>low nb k (.bsl id n)
  | .fresh e sz t cs n=>low nb k (.fresh e sz t cs n)
  | .mp id off=>some (.mp id off)
  | .any=>some .any
theorem jj8 {a b:Nat} {β:Type} (x y:β):(if a < b then x else y) = ga (Nat.ble (Nat.succ a) b) x y:=by
  rw [d9]
  by_cases h:a < b
  · rw [if_pos h,show Nat.ble (Nat.succ a) b = true from Nat.ble_eq_true_of_le h];rfl
  · rw [if_neg h]
    have:Nat.ble (Nat.succ a) b = false:=by
      rw [Bool.eq_false_iff]
      exact fun e=>h (Nat.le_of_ble_eq_true e)
    rw [this];rfl
theorem jps (nb k:Nat) (b:BV):jqh nb k b = low nb k b:=by
  cases b with
  | own e sz t cs n=>simp only [jqh,low,jj8]
  | ptr id off=>simp only [jqh,low,jj8]
  | _=>simp only [jqh,low]
def jj9 (nb k:Nat) (l:List BV):Option (List BV):=@List.rec BV (fun _=>Option (List BV)) (some []) (fun b _ ih=>bnd (jqh nb k b) fun x=>bnd ih fun xs=>some (x :: xs)) l
theorem jbw (nb k:Nat):∀ l,jj9 nb k l = my nb k l
  | []=>by simp only [my];rfl
  | b :: l=>by
    show bnd (jqh nb k b) (fun x=>bnd (jj9 nb k l) fun xs=>some (x :: xs)) = _
    rw [jps,jbw nb k l,my]
    cases low nb k b <;> cases my nb k l <;> rfl
def jv9 (nb k:Nat) (ids:List Nat) (S0 S1:List (List BV × Nat)):Option (List (List BV × Nat)) :=
  @List.rec Nat (fun _=>List (List BV × Nat) → Option (List (List BV × Nat))) (fun S0=>some S0) (fun i _ ih S0=>bnd (jd3 S1 i) fun c=>bnd (jj9 nb k c.1) fun cs=>ih (jfc S0 i (cs,c.2))) ids S0
theorem jka (nb k:Nat) (S1:List (List BV × Nat)):∀(ids:List Nat) (S0:List (List BV × Nat)),jv9 nb k ids S0 S1 = jhh nb k ids S0 S1
  | [],S0=>rfl
  | i :: l,S0=>by
    show bnd (jd3 S1 i) (fun c=>bnd (jj9 nb k c.1) fun cs=>jv9 nb k l (jfc S0 i (cs,c.2)) S1) = _
    rw [px,jhh]
    cases S1[i]? with
    | none=>rfl
    | some c =>
      obtain ⟨cs,ty⟩:=c
      simp only [cr,jbw]
      cases my nb k cs with
      | none=>rfl
      | some cs' =>
        simp only [cr]
        rw [jka nb k S1 l,wh]
def jkb (nt:Nat):BV → Bool
  | .own _ _ t _ _=>Nat.ble nt t
  | _=>false
def jsd (nt:Nat) (l:List BV):Bool:=@List.rec BV (fun _=>Bool) false (fun b _ ih=>ga (jkb nt b) true ih) l
theorem jkc (nt:Nat):∀ l,jsd nt l = jpa nt l
  | []=>rfl
  | b :: l=>by
    show ga (jkb nt b) true (jsd nt l) = _
    rw [jkc nt l,d9]
    cases b with
    | own e sz t cs n=>rw [jpa,jkb];cases Nat.ble nt t <;> rfl
    | _=>rfl
def jl7 (nt:Nat) (S:List (List BV × Nat)) (ids:List Nat):Bool:=@List.rec Nat (fun _=>Bool) false (fun i _ ih=>@Option.rec (List BV × Nat) (fun _=>Bool) ih (fun c=>ga (jsd nt c.1) true ih) (jd3 S i)) ids
theorem jg3 (nt:Nat) (S:List (List BV × Nat)):∀ ids,jl7 nt S ids = je8 nt S ids
  | []=>rfl
  | i :: l=>by
    show @Option.rec (List BV × Nat) (fun _=>Bool) (jl7 nt S l) (fun c=>ga (jsd nt c.1) true (jl7 nt S l)) (jd3 S i) = _
    rw [jg3 nt S l,px,je8]
    cases S[i]? with
    | none=>rfl
    | some c =>
      obtain ⟨cs,ty⟩:=c
      show ga (jsd nt cs) true _ =(jpa nt cs || je8 nt S l)
      rw [jkc,d9]
      cases jpa nt cs <;> rfl
def jpt (nt:Nat) (Wr:List Nat) (s:St):List Nat:=ga (jl7 nt s.S Wr) s.T (jbs nt s.T)
theorem jl8 (nt:Nat) (Wr:List Nat) (s:St):jpt nt Wr s = jl1 nt Wr s:=by
  rw [jpt,jl1,jg3,ra,d9]
def jwa (st s:St) (ids:List Nat) (l:List BV) (T':List Nat):Option (BV × St) :=
  bnd (jj9 (p9 st.S) (p9 T') l) fun l'=>bnd (jv9 (p9 st.S) (p9 T') ids st.S s.S) fun S'=>ga (Nat.ble (p9 st.T) (p9 T')) (ga (Nat.beq (p9 s.M) (p9 st.M)) (some (jb5 l',⟨S',T',s.M⟩)) none) none
theorem jpu (st s:St) (ids:List Nat) (l:List BV) (T':List Nat):jwa st s ids l T' = jtj st s ids l T':=by
  simp only [jwa,jtj,j5,jbw,jka,d9]
  cases my st.S.length T'.length l with
  | none=>rfl
  | some l' =>
    cases jhh st.S.length T'.length ids st.S s.S with
    | none=>rfl
    | some S' =>
      simp only [cr]
      cases Nat.ble st.T.length T'.length <;> cases Nat.beq s.M.length st.M.length <;> rfl
def rtK (n:Nat) (r:RL) (st:St):Option BV:=jna r n
def rcK (n:Nat) (ag:Bool) (sz:Nat) (r:RL) (st:St):Option BV:=bnd (jna r n) fun v=>bnd (yr v) fun q=>bnd (jd3 st.S q.1) fun c=>part ag sz q.2 c.1
def jts (r:RL) (st:St) (l:List XR):Option (List BV):=@List.rec XR (fun _=>Option (List BV)) (some []) (fun x _ ih=>bnd (@XR.rec (fun _=>RL → St → Option BV) rtK rcK x r st) fun b=>bnd ih fun bs=>some (b :: bs)) l
theorem jfi (r:RL) (st:St):∀ l,jts r st l = je6 r st l
  | []=>rfl
  | .t n :: l=>by
    show bnd (jna r n) (fun b=>bnd (jts r st l) fun bs=>some (b :: bs)) = _
    rw [y0,jfi r st l,je6]
    cases yq r n <;> cases je6 r st l <;> rfl
  | .c n ag sz :: l=>by
    show bnd (bnd (jna r n) fun v=>bnd (yr v) fun q=>bnd (jd3 st.S q.1) fun c=>part ag sz q.2 c.1) (fun b=>bnd (jts r st l) fun bs=>some (b :: bs)) = _
    simp only [y0,jfi r st l,je6,px]
    cases yq r n with
    | none=>rfl
    | some v =>
      simp only [cr]
      cases v with
      | ptr id off =>
        simp only [yr,cr]
        cases je6 r st l with
        | none =>
          dsimp only
          cases st.S[id]? with
          | none=>rfl
          | some c =>
            simp only [cr]
            cases part ag sz off c.1 <;> rfl
        | some bs =>
          dsimp only
          cases st.S[id]? with
          | none=>rfl
          | some c =>
            obtain ⟨cs,ty⟩:=c
            simp only [cr]
            cases part ag sz off cs <;> rfl
      | _=>cases je6 r st l <;> rfl
def jl9 (t:Tr XE) (p:List Bool):Option XE:=@Tr.rec XE (fun _=>List Bool → Option XE) (fun _=>none) (fun v _ _ gl gr p=>@List.rec Bool (fun _=>Option XE) v (fun b q _=>ga b (gr q) (gl q)) p) t p
theorem jbx:∀(t:Tr XE) (p:List Bool),jl9 t p = t.get p
  | .e,p=>by cases p <;> rfl
  | .n v l r,[]=>rfl
  | .n v l r,b :: p=>by
    show ga b (jl9 r p) (jl9 l p) = _
    rw [jbx r p,jbx l p,d9]
    rfl
def jy9 (ex:AX) (z:Option (BV × St)):Option (BV × St):=@AX.rec (fun _=>Option (BV × St)) z (fun _=>none) z ex
def fnK (x:XF) (rn:pg) (vs:List BV) (st:St):Option (BV × St) :=
  bnd (rn (jxu x.loc) (jqg vs) (p9 st.S) (p9 st.T) x.body (jpr x.ps vs) st) fun z=>jy9 z.1 (bnd (jts z.2.1 z.2.2 x.res) fun l=>jwa st z.2.2 (jqg vs) l (jpt (p9 st.T) (jqg vs) z.2.2))
def jdt (tab:Tr XE) (rn:pg):e9:=fun _ p vs st=>bnd (jl9 tab p) fun e=>@XE.rec (fun _=>Option (BV × St)) (fun x=>fnK x rn vs st) (fun F=>F vs st) e
theorem jby (tab:Tr XE) (rn:pg):jdt tab rn = jbp tab rn:=by
  funext g p vs st
  simp only [jdt,jbp,jbx]
  cases tab.get p with
  | none=>rfl
  | some e =>
    cases e with
    | law F=>rfl
    | fn x =>
      simp only [cr,fnK,jpq,jfe,j5,jg2,jfi,jpu,jl8]
      cases rn (ze x.loc) (ky vs) st.S.length st.T.length x.body (jht x.ps vs) st with
      | none=>rfl
      | some z =>
        obtain ⟨ex,r,s⟩:=z
        simp only [cr]
        cases ex with
        | exit i=>rfl
        | normal=>cases je6 r s x.res <;> rfl
        | ret=>cases je6 r s x.res <;> rfl
def idM:BV → Nat → Nat
  | .ptr id _=>fun n=>ga (Nat.ble n id) (Nat.succ id) n
  | _=>fun n=>n
def jg4 (l:List BV) (n:Nat):Nat:=@List.rec BV (fun _=>Nat → Nat) (fun n=>n) (fun b _ ih n=>ih (idM b n)) l n
theorem jkd (n i:Nat):ga (Nat.ble n i) (Nat.succ i) n = max n (i + 1):=by
  rw [d9]
  cases h:Nat.ble n i
  · have:¬ n ≤ i:=fun e=>by rw [Nat.ble_eq_true_of_le e] at h;cases h
    show n = _
    omega
  · have:=Nat.le_of_ble_eq_true h
    show i + 1 = _
    omega
theorem jdu:∀(l:List BV) (n:Nat),jg4 l n = qs l n
  | [],n=>rfl
  | b :: l,n=>by
    show jg4 l (idM b n) = _
    rw [jdu l]
    cases b with
    | ptr id off=>rw [qs,← jkd];rfl
    | _=>rfl
def tgM:BV → Nat → Nat
  | .own _ _ t _ _=>fun n=>ga (Nat.ble n t) (Nat.succ t) n
  | _=>fun n=>n
def jdv (l:List BV) (n:Nat):Nat:=@List.rec BV (fun _=>Nat → Nat) (fun n=>n) (fun b _ ih n=>ih (tgM b n)) l n
theorem y2:∀(l:List BV) (n:Nat),jdv l n = vw l n
  | [],n=>rfl
  | b :: l,n=>by
    show jdv l (tgM b n) = _
    rw [y2 l]
    cases b with
    | own e sz t cs k=>rw [vw,← jkd];rfl
    | _=>rfl
def jfj (l:List (List BV × Nat)) (m:Nat):Nat:=@List.rec (List BV × Nat) (fun _=>Nat → Nat) (fun m=>m) (fun c _ ih m=>ih (jdv c.1 m)) l m
theorem jad:∀(l:List (List BV × Nat)) (m:Nat),jfj l m = t1 l m
  | [],m=>rfl
  | c :: l,m=>by
    show jfj l (jdv c.1 m) = _
    rw [jad l,y2]
    rfl
def jpv (r:RL):List BV:=@List.rec (Nat × BV) (fun _=>List BV) [] (fun e _ ih=>e.2 :: ih) r
theorem jg5:∀ r,jpv r = nk r
  | []=>rfl
  | e :: r=>by show e.2 :: jpv r = _;rw [jg5 r];rfl
def ok0 (nb nt:Nat):BV → Bool
  | .d _=>true
  | .own _ _ t _ _=>Nat.ble (Nat.succ t) nt
  | .tight _ _=>true
  | .ptr id _=>Nat.ble (Nat.succ id) nb
  | .eptr _=>true
  | .agg l=>okB nb nt (.agg l)
  | .fn f l=>okB nb nt (.fn f l)
  | .tup l=>okB nb nt (.tup l)
  | .bsl id n=>okB nb nt (.bsl id n)
  | .fresh e sz t cs n=>okB nb nt (.fresh e sz t cs n)
  | .mp _ _=>true
  | .any=>true
theorem jse (nb nt:Nat) (b:BV):ok0 nb nt b = okB nb nt b:=by
  cases b with
  | own e sz t cs n=>rw [ok0,okB];rfl
  | ptr id off=>rw [ok0,okB];rfl
  | _=>simp only [ok0,okB]
def jsf (nb nt:Nat) (l:List BV):Bool:=@List.rec BV (fun _=>Bool) true (fun b _ ih=>ga (ok0 nb nt b) ih false) l
theorem jfk (nb nt:Nat):∀ l,jsf nb nt l = q9 nb nt l
  | []=>by simp only [q9];rfl
  | b :: l=>by
    show ga (ok0 nb nt b) (jsf nb nt l) false = _
    rw [jfk nb nt l,jse,q9,d9]
    cases okB nb nt b <;> rfl
def jpw (n m:Nat) (l:List (List BV × Nat)):Bool:=@List.rec (List BV × Nat) (fun _=>Bool) true (fun c _ ih=>ga (jsf n m c.1) ih false) l
theorem jg6 (n m:Nat):∀ l:List (List BV × Nat),jpw n m l = l.all fun c=>q9 n m c.1
  | []=>rfl
  | c :: l=>by
    show ga (jsf n m c.1) (jpw n m l) false = _
    rw [jg6 n m l,jfk,List.all_cons,d9]
    cases q9 n m c.1 <;> rfl
def jne (n m:Nat) (vs:List BV) (S':List (List BV × Nat)) (st:St):St :=
  ga (jsf n m vs) (ga (jpw n m S') (ga (Nat.ble n (p9 st.S)) (ga (Nat.ble m (p9 st.T)) ⟨S',jbs m st.T,st.M⟩ st) st) st) st
def jnf (nT n:Nat) (vs:List BV) (S':List (List BV × Nat)) (st:St):St:=jne n (jfj S' (jdv vs nT)) vs S' st
def jng (nb nT:Nat) (vs:List BV) (st:St):St:=jnf nT (jg4 vs nb) vs (jbs (jg4 vs nb) st.S) st
def y3 (ks:List Nat) (r:RL):RL:=@List.rec (Nat × BV) (fun _=>RL) [] (fun e _ ih=>ga (jpg ks e.1) (e :: ih) ih) r
theorem jdw (ks:List Nat):∀ r,y3 ks r = qt ks r
  | []=>rfl
  | e :: r=>by
    show ga (jpg ks e.1) (e :: y3 ks r) (y3 ks r) = _
    rw [jdw ks r,d9,y1]
    rfl
def jh0 (nb nT:Nat) (ks:List Nat) (st:St) (k:RL → St → Option Z) (r':RL):Option Z:=k r' (jng nb nT (jpv r') st)
def jpx (nb nT:Nat) (st0:St) (r:RL) (st:St) (k:RL → St → Option Z) (keep:Option (List Nat)):Option Z :=
  @Option.rec (List Nat) (fun _=>Option Z) (k r st) (fun ks=>ga (Nat.beq (p9 st.S) (p9 st0.S)) (ga (Nat.beq (p9 st.T) (p9 st0.T)) (k r st) (jh0 nb nT ks st k (y3 ks r))) (jh0 nb nT ks st k (y3 ks r))) keep
theorem jma (nb nT:Nat) (st0:St) (r:RL) (st:St) (k:RL → St → Option Z) (keep:Option (List Nat)):jpx nb nT st0 r st k keep = k (je4 nb nT keep st0 r st).1 (je4 nb nT keep st0 r st).2:=by
  cases keep with
  | none=>rfl
  | some ks =>
    have h1:jh0 nb nT ks st k (qt ks r) = k (qt ks r) (let vs:=nk (qt ks r)
       let n:=qs vs nb
       let S':=st.S.take n
       let m:=t1 S' (vw vs nT)
       cond (q9 n m vs && (S'.all (fun c=>q9 n m c.1) && (Nat.ble n st.S.length && Nat.ble m st.T.length))) ⟨S',st.T.take m,st.M⟩ st):=by
      simp only [jh0,jg5,jng,jnf,jne,jdu,y2,jad,ra,jfk,jg6,d9,j5]
      congr 1
      generalize q9 _ _ (nk (qt ks r)) = a
      generalize (st.S.take (qs (nk (qt ks r)) nb)).all _ = b
      generalize Nat.ble (qs (nk (qt ks r)) nb) _ = c
      generalize Nat.ble _ st.T.length = d
      cases a <;> cases b <;> cases c <;> cases d <;> rfl
    show ga (Nat.beq (p9 st.S) (p9 st0.S)) (ga (Nat.beq (p9 st.T) (p9 st0.T)) (k r st) (jh0 nb nT ks st k (y3 ks r))) (jh0 nb nT ks st k (y3 ks r)) = _
    rw [jdw,h1]
    simp only [j5,d9,je4]
    generalize (q9 _ _ (nk (qt ks r)) && _) = q
    cases Nat.beq st.S.length st0.S.length <;> cases Nat.beq st.T.length st0.T.length <;> cases q <;> rfl
abbrev RF:=Program → Tr XE → pg →(Nat → Bool) → List Nat → Nat → Nat → RL → St → Option Z
def jmb (L T:RL) (s:St):Option Z:=some (.normal,L,s)
def jwb:RF:=fun P tab rn loc Wr nb nT r st=>some (.normal,r,st)
def jza:RF:=fun P tab rn loc Wr nb nT r st=>some (.ret,r,st)
def jwc (i:Nat):RF:=fun P tab rn loc Wr nb nT r st=>some (.exit i,r,st)
def jzb (l:List XQ):RF:=fun P tab rn loc Wr nb nT r st=>jj6 P loc (okK Wr nb) (jdt tab rn) l r [] st jmb
def jzc (wr:List XO) (l:List XD):RF:=fun P tab rn loc Wr nb nT r st=>jfh P loc (okK Wr nb) (wrX (r,[]) (p9 st.S) wr) (jdt tab rn) l r [] st jmb
def jmc (o:Option Z) (k:RL → St → Option Z):Option Z:=bnd o fun z=>@AX.rec (fun _=>Option Z) (k z.2.1 z.2.2) (fun _=>some z) (some z) z.1
def jzd (a b:XC):RF:=fun P tab rn loc Wr nb nT r st=>jmc (rn loc Wr nb nT a r st) fun r' s=>rn loc Wr nb nT b r' s
def jwd (c:XO) (a b:XC):RF:=fun P tab rn loc Wr nb nT r st=>bnd (evK c r []) fun v=>bnd (p7 v) fun t=>ga t (rn loc Wr nb nT a r st) (rn loc Wr nb nT b r st)
def jsg (id:Nat) (c:XC):RF:=fun P tab rn loc Wr nb nT r st=>bnd (rn loc Wr nb nT c r st) fun z=>@AX.rec (fun _=>Option Z) (some z) (fun i=>ga (Nat.beq i id) (some (.normal,z.2)) (some z)) (some z) z.1
def jwe (kp:Option (List Nat)) (c:XC):RF:=fun P tab rn loc Wr nb nT r st=>jmc (rn loc Wr nb nT c r st) fun r' s=>jpx nb nT st r' s (fun r2 s2=>rn loc Wr nb nT (.loop kp c) r2 s2) kp
def cdK (x:XC):RF:=@XC.rec (fun _=>RF) jwb jza jwc jzb jzc (fun a b _ _=>jzd a b) (fun c a b _ _=>jwd c a b) (fun id c _=>jsg id c) (fun kp c _=>jwe kp c) x
def jtt (P:Program) (tab:Tr XE) (n:Nat):pg:=@Nat.rec (fun _=>pg) (fun _ _ _ _ _ _ _=>none) (fun _ rn loc Wr nb nT x r st=>cdK x P tab rn loc Wr nb nT r st) n
theorem jsh (P:Program) (tab:Tr XE) (rn:pg) (loc:Nat → Bool) (Wr:List Nat) (nb nT:Nat) (x:XC) (r:RL) (st:St):cdK x P tab rn loc Wr nb nT r st = gn P tab rn loc Wr nb nT x r st:=by
  cases x with
  | skip=>rfl
  | ret=>rfl
  | exit i=>rfl
  | reg l =>
    show jj6 P loc (okK Wr nb) (jdt tab rn) l r [] st jmb = _
    rw [jbu,jnd,jby,gn]
    cases jlw loc P (okX Wr nb) (jbp tab rn) (l.map jo8) (r,[]) st <;> rfl
  | drw wr l =>
    show jfh P loc (okK Wr nb) (wrX (r,[]) (p9 st.S) wr) (jdt tab rn) l r [] st jmb = _
    rw [t9,jnd,jby,j5,gn]
    cases je1 loc P (okX Wr nb) (wrX (r,[]) st.S.length wr) (jbp tab rn) l (r,[]) st <;> rfl
  | seq a b =>
    show jmc (rn loc Wr nb nT a r st) (fun r' s=>rn loc Wr nb nT b r' s) = _
    rw [gn]
    cases rn loc Wr nb nT a r st with
    | none=>rfl
    | some z=>obtain ⟨ex,r',s⟩:=z;cases ex <;> rfl
  | cond c a b =>
    show bnd (evK c r []) (fun v=>bnd (p7 v) fun t=>ga t (rn loc Wr nb nT a r st) (rn loc Wr nb nT b r st)) = _
    simp only [gn,jj,d9]
    cases evX (r,[]) c with
    | none=>rfl
    | some v=>cases h:p7 v <;> simp only [cr,h] <;> rfl
  | block id c =>
    show bnd (rn loc Wr nb nT c r st) (fun z=>@AX.rec (fun _=>Option Z) (some z) (fun i=>ga (Nat.beq i id) (some (.normal,z.2)) (some z)) (some z) z.1) = _
    rw [gn]
    cases rn loc Wr nb nT c r st with
    | none=>rfl
    | some z =>
      obtain ⟨ex,r',s⟩:=z
      cases ex with
      | exit i =>
        simp only [cr,d9]
        cases Nat.beq i id <;> rfl
      | _=>rfl
  | loop kp c =>
    show jmc (rn loc Wr nb nT c r st) (fun r' s=>jpx nb nT st r' s (fun r2 s2=>rn loc Wr nb nT (.loop kp c) r2 s2) kp) = _
    rw [gn]
    cases rn loc Wr nb nT c r st with
    | none=>rfl
    | some z =>
      obtain ⟨ex,r',s⟩:=z
      cases ex with
      | normal=>exact jma nb nT st r' s _ kp
      | _=>rfl
theorem jke (P:Program) (tab:Tr XE):∀ n,jtt P tab n = run P tab n
  | 0=>rfl
  | n + 1=>by
    show (fun loc Wr nb nT x r st=>cdK x P tab (jtt P tab n) loc Wr nb nT r st) = gn P tab (run P tab n)
    rw [jke P tab n]
    funext loc Wr nb nT x r st
    exact jsh P tab _ loc Wr nb nT x r st
end
theorem jh1 {P:Program} {tb:Tabs P} {tab:Tr XE} (hm:P.follows .mixedOrders = true) (ht:yz P tb tab) {n f:Nat} {ars:List BV} {st st':St} {b:BV} {p:List Bool} (hp:p = bits f) (h:jdt tab (jtt P tab n) f p ars st = some (b,st')):ci P (ky ars) [] f ars st (fun r s=>r = b ∧ s = st'):=by
  subst hp
  rw [jke,jby] at h
  exact je9 hm ht h
end Go.Proofs.YtinffhimfoicdaaGreat.Calc
namespace Go.Proofs.YtinffhimfoicdaaGreat
open Go Go.RowKit Go.Proofs.YtinffhimfoicdaaGreat.Calc
set_option linter.unusedVariables false
set_option maxRecDepth 100000
def jsi:ByteArray:=⟨#[99,108,97,115,115,32,65,32,123,32,105,110,116,32,120,32,61,32,49,59,32,115,116,97,116,105,99,32,105,110,116,32,115,32,61,32,50,59,32,65,32,110,59,32,83,116,114,105,110,103,32,119,32,61,32,34,119,34,59,32,65,40,41,32,123,32,120,32,61,32,53,59,32,125,32,105,110,116,32,102,40,105,110,116,32,97,41,32,123,32,65,32,111,32,61,32,110,59,32,114,101,116,117,114,110,32,120,59,32,125,32,105,110,116,32,102,40,65,32,111,41,32,123,32,114,101,116,117,114,110,32,49,59,32,125,32,105,110,116,32,102,40,105,110,116,32,97,44,32,105,110,116,32,98,41,32,123,32,114,101,116,117,114,110,32,97,32,45,32,98,59,32,125,32,118,111,105,100,32,103,50,40,41,32,123,32,112,114,105,110,116,32,34,65,34,59,32,125,32,115,116,97,116,105,99,32,105,110,116,32,107,40,105,110,116,32,97,41,32,123,32,114,101,116,117,114,110,32,97,32,42,32,65,58,58,115,59,32,125,32,125,10,99,108,97,115,115,32,66,32,101,120,116,101,110,100,115,32,65,32,123,32,105,110,116,32,120,32,61,32,55,59,32,105,110,116,32,121,59,32,66,32,109,59,32,66,40,105,110,116,32,97,41,32,123,32,115,117,112,101,114,40,41,59,32,121,32,61,32,97,59,32,125,32,66,40,41,32,123,32,125,32,105,110,116,32,102,40,105,110,116,32,97,41,32,123,32,65,32,111,32,61,32,116,104,105,115,59,32,114,101,116,117,114,110,32,121,32,43,32,97,59,32,125,32,118,111,105,100,32,103,50,40,41,32,123,32,112,114,105,110,116,32,34,66,34,59,32,115,117,112,101,114,46,103,50,40,41,59,32,112,114,105,110,116,32,121,59,32,125,32,125,10,99,108,97,115,115,32,84,32,123,32,115,116,97,116,105,99,32,65,32,122,32,61,32,110,101,119,32,66,40,50,41,59,32,115,116,97,116,105,99,32,118,111,105,100,32,116,49,40,41,32,123,32,65,32,111,32,61,32,84,58,58,122,59,32,112,114,105,110,116,32,111,46,102,40,51,41,59,32,111,46,103,50,40,41,59,32,97,115,115,101,114,116,32,49,32,111,46,120,32,60,32,57,59,32,125,32,115,116,97,116,105,99,32,118,111,105,100,32,116,50,40,41,32,123,32,65,32,111,32,61,32,110,101,119,32,66,40,50,41,59,32,125,32,125,10]⟩
def b0:ByteArray:=⟨#[99,108,97,115,115]⟩
def b1:ByteArray:=⟨#[65]⟩
def b2:ByteArray:=⟨#[123]⟩
def b3:ByteArray:=⟨#[105,110,116]⟩
def b4:ByteArray:=⟨#[120]⟩
def b5:ByteArray:=⟨#[61]⟩
def b6:ByteArray:=⟨#[49]⟩
def b7:ByteArray:=⟨#[59]⟩
def b8:ByteArray:=⟨#[115,116,97,116,105,99]⟩
def b9:ByteArray:=⟨#[115]⟩
def b10:ByteArray:=⟨#[50]⟩
def b11:ByteArray:=⟨#[110]⟩
def b12:ByteArray:=⟨#[83,116,114,105,110,103]⟩
def b13:ByteArray:=⟨#[119]⟩
def b14:ByteArray:=⟨#[40]⟩
def b15:ByteArray:=⟨#[41]⟩
def b16:ByteArray:=⟨#[53]⟩
def b17:ByteArray:=⟨#[125]⟩
def b18:ByteArray:=⟨#[102]⟩
def b19:ByteArray:=⟨#[97]⟩
def b20:ByteArray:=⟨#[111]⟩
def b21:ByteArray:=⟨#[114,101,116,117,114,110]⟩
def b22:ByteArray:=⟨#[44]⟩
def b23:ByteArray:=⟨#[98]⟩
def b24:ByteArray:=⟨#[45]⟩
def b25:ByteArray:=⟨#[118,111,105,100]⟩
def b26:ByteArray:=⟨#[103,50]⟩
def b27:ByteArray:=⟨#[112,114,105,110,116]⟩
def b28:ByteArray:=⟨#[107]⟩
def b29:ByteArray:=⟨#[42]⟩
def b30:ByteArray:=⟨#[58,58]⟩
def b31:ByteArray:=⟨#[66]⟩
def b32:ByteArray:=⟨#[101,120,116,101,110,100,115]⟩
def b33:ByteArray:=⟨#[55]⟩
def b34:ByteArray:=⟨#[121]⟩
def b35:ByteArray:=⟨#[109]⟩
def b36:ByteArray:=⟨#[115,117,112,101,114]⟩
def b37:ByteArray:=⟨#[116,104,105,115]⟩
def b38:ByteArray:=⟨#[43]⟩
def b39:ByteArray:=⟨#[46]⟩
def b40:ByteArray:=⟨#[84]⟩
def b41:ByteArray:=⟨#[122]⟩
def b42:ByteArray:=⟨#[110,101,119]⟩
def b43:ByteArray:=⟨#[116,49]⟩
def b44:ByteArray:=⟨#[51]⟩
def b45:ByteArray:=⟨#[97,115,115,101,114,116]⟩
def b46:ByteArray:=⟨#[60]⟩
def b47:ByteArray:=⟨#[57]⟩
def b48:ByteArray:=⟨#[116,50]⟩
def b49:ByteArray:=⟨#[]⟩
noncomputable def jze (l:List (Nat × ByteArray × Nat)):List DV:=@List.rec _ (fun _=>List DV) [] (fun e _ t=>.flat (.int .i64 (.ofNat e.1)) :: .flat (.string e.2.1) :: .flat (.int .i64 (.ofNat e.2.2)) :: t) l
def P0:List Cl :=
  [⟨b1,b49,[⟨false,b3,b4,[.mk 1 1 b49 b49 b49 [] b49 0]⟩,⟨true,b3,b9,[.mk 1 2 b49 b49 b49 [] b49 0]⟩,⟨false,b1,b11,[]⟩,⟨false,b12,b13,[.mk 3 0 b13 b49 b49 [] b49 0]⟩],[⟨false,true,b49,b49,[],[.mk 2 0 b49 b49 [.mk 6 0 b49 b4 b49 [] b49 0,.mk 1 5 b49 b49 b49 [] b49 0] [] [] [] 0]⟩,⟨false,false,b3,b18,[⟨b3,b19⟩],[.mk 1 0 b1 b20 [.mk 6 0 b49 b11 b49 [] b49 0] [] [] [] 0,.mk 6 0 b49 b49 [.mk 6 0 b49 b4 b49 [] b49 0] [] [] [] 0]⟩,⟨false,false,b3,b18,[⟨b1,b20⟩],[.mk 6 0 b49 b49 [.mk 1 1 b49 b49 b49 [] b49 0] [] [] [] 0]⟩,⟨false,false,b3,b18,[⟨b3,b19⟩,⟨b3,b23⟩],[.mk 6 0 b49 b49 [.mk 17 0 b49 b24 b49 [.mk 6 0 b49 b19 b49 [] b49 0,.mk 6 0 b49 b23 b49 [] b49 0] b49 0] [] [] [] 0]⟩,⟨false,false,b25,b26,[],[.mk 7 0 b49 b49 [.mk 3 0 b1 b49 b49 [] b49 0] [] [] [] 0]⟩,⟨true,false,b3,b28,[⟨b3,b19⟩],[.mk 6 0 b49 b49 [.mk 17 0 b49 b29 b49 [.mk 6 0 b49 b19 b49 [] b49 0,.mk 9 0 b49 b9 b1 [] b49 0] b49 0] [] [] [] 0]⟩]⟩,
   ⟨b31,b1,[⟨false,b3,b4,[.mk 1 7 b49 b49 b49 [] b49 0]⟩,⟨false,b3,b34,[]⟩,⟨false,b31,b35,[]⟩],[⟨false,true,b49,b49,[⟨b3,b19⟩],[.mk 11 0 b49 b49 [] [] [] [] 0,.mk 2 0 b49 b49 [.mk 6 0 b49 b34 b49 [] b49 0,.mk 6 0 b49 b19 b49 [] b49 0] [] [] [] 0]⟩,⟨false,true,b49,b49,[],[]⟩,⟨false,false,b3,b18,[⟨b3,b19⟩],[.mk 1 0 b1 b20 [.mk 5 0 b49 b49 b49 [] b49 0] [] [] [] 0,.mk 6 0 b49 b49 [.mk 17 0 b49 b38 b49 [.mk 6 0 b49 b34 b49 [] b49 0,.mk 6 0 b49 b19 b49 [] b49 0] b49 0] [] [] [] 0]⟩,⟨false,false,b25,b26,[],[.mk 7 0 b49 b49 [.mk 3 0 b31 b49 b49 [] b49 0] [] [] [] 0,.mk 3 0 b49 b49 [.mk 12 0 b49 b26 b49 [] b49 0] [] [] [] 0,.mk 7 0 b49 b49 [.mk 6 0 b49 b34 b49 [] b49 0] [] [] [] 0]⟩]⟩,
   ⟨b40,b49,[⟨true,b1,b41,[.mk 14 0 b49 b49 b31 [.mk 1 2 b49 b49 b49 [] b49 0] b49 0]⟩],[⟨true,false,b25,b43,[],[.mk 1 0 b1 b20 [.mk 9 0 b49 b41 b40 [] b49 0] [] [] [] 0,.mk 7 0 b49 b49 [.mk 10 0 b49 b18 b49 [.mk 6 0 b49 b20 b49 [] b49 0,.mk 1 3 b49 b49 b49 [] b49 0] b49 0] [] [] [] 0,.mk 3 0 b49 b49 [.mk 10 0 b49 b26 b49 [.mk 6 0 b49 b20 b49 [] b49 0] b49 0] [] [] [] 0,.mk 8 1 b49 b49 [.mk 17 0 b49 b46 b49 [.mk 7 0 b49 b4 b49 [.mk 6 0 b49 b20 b49 [] b49 0] b49 0,.mk 1 9 b49 b49 b49 [] b49 0] b49 0] [] [] [] 0]⟩,⟨true,false,b25,b48,[],[.mk 1 0 b1 b20 [.mk 14 0 b49 b49 b31 [.mk 1 2 b49 b49 b49 [] b49 0] b49 0] [] [] [] 0]⟩]⟩]
noncomputable section
attribute [local irreducible] b0 b1 b2 b3 b4 b5 b6 b7 b8 b9 b10 b11 b12 b13 b14 b15 b16 b17 b18 b19 b20 b21 b22 b23 b24 b25 b26 b27 b28 b29 b30 b31 b32 b33 b34 b35 b36 b37 b38 b39 b40 b41 b42 b43 b44 b45 b46 b47 b48 b49
def jnh:BV:=by
  have h:BV.tup [.d (.sl (jze [(1,b0,0),(1,b1,6),(4,b2,8),(1,b3,10),(1,b4,14),(4,b5,16),(2,b6,18),(4,b7,19),(1,b8,21),(1,b3,28),(1,b9,32),(4,b5,34),(2,b10,36),(4,b7,37),(1,b1,39),(1,b11,41),(4,b7,42),(1,b12,44),(1,b13,51),(4,b5,53),(3,b13,55),(4,b7,58),(1,b1,60),(4,b14,61),(4,b15,62),(4,b2,64),(1,b4,66),(4,b5,68),(2,b16,70),(4,b7,71),(4,b17,73),(1,b3,75),(1,b18,79),(4,b14,80),(1,b3,81),(1,b19,85),(4,b15,86),(4,b2,88),(1,b1,90),(1,b20,92),(4,b5,94),(1,b11,96),(4,b7,97),(1,b21,99),(1,b4,106),(4,b7,107),(4,b17,109),(1,b3,111),(1,b18,115),(4,b14,116),(1,b1,117),(1,b20,119),(4,b15,120),(4,b2,122),(1,b21,124),(2,b6,131),(4,b7,132),(4,b17,134),(1,b3,136),(1,b18,140),(4,b14,141),(1,b3,142),(1,b19,146),(4,b22,147),(1,b3,149),(1,b23,153),(4,b15,154),(4,b2,156),(1,b21,158),(1,b19,165),(4,b24,167),(1,b23,169),(4,b7,170),(4,b17,172),(1,b25,174),(1,b26,179),(4,b14,181),(4,b15,182),(4,b2,184),(1,b27,186),(3,b1,192),(4,b7,195),(4,b17,197),(1,b8,199),(1,b3,206),(1,b28,210),(4,b14,211),(1,b3,212),(1,b19,216),(4,b15,217),(4,b2,219),(1,b21,221),(1,b19,228),(4,b29,230),(1,b1,232),(4,b30,233),(1,b9,235),(4,b7,236),(4,b17,238),(4,b17,240),(1,b0,242),(1,b31,248),(1,b32,250),(1,b1,258),(4,b2,260),(1,b3,262),(1,b4,266),(4,b5,268),(2,b33,270),(4,b7,271),(1,b3,273),(1,b34,277),(4,b7,278),(1,b31,280),(1,b35,282),(4,b7,283),(1,b31,285),(4,b14,286),(1,b3,287),(1,b19,291),(4,b15,292),(4,b2,294),(1,b36,296),(4,b14,301),(4,b15,302),(4,b7,303),(1,b34,305),(4,b5,307),(1,b19,309),(4,b7,310),(4,b17,312),(1,b31,314),(4,b14,315),(4,b15,316),(4,b2,318),(4,b17,320),(1,b3,322),(1,b18,326),(4,b14,327),(1,b3,328),(1,b19,332),(4,b15,333),(4,b2,335),(1,b1,337),(1,b20,339),(4,b5,341),(1,b37,343),(4,b7,347),(1,b21,349),(1,b34,356),(4,b38,358),(1,b19,360),(4,b7,361),(4,b17,363),(1,b25,365),(1,b26,370),(4,b14,372),(4,b15,373),(4,b2,375),(1,b27,377),(3,b31,383),(4,b7,386),(1,b36,388),(4,b39,393),(1,b26,394),(4,b14,396),(4,b15,397),(4,b7,398),(1,b27,400),(1,b34,406),(4,b7,407),(4,b17,409),(4,b17,411),(1,b0,413),(1,b40,419),(4,b2,421),(1,b8,423),(1,b1,430),(1,b41,432),(4,b5,434),(1,b42,436),(1,b31,440),(4,b14,441),(2,b10,442),(4,b15,443),(4,b7,444),(1,b8,446),(1,b25,453),(1,b43,458),(4,b14,460),(4,b15,461),(4,b2,463),(1,b1,465),(1,b20,467),(4,b5,469),(1,b40,471),(4,b30,472),(1,b41,474),(4,b7,475),(1,b27,477),(1,b20,483),(4,b39,484),(1,b18,485),(4,b14,486),(2,b44,487),(4,b15,488),(4,b7,489),(1,b20,491),(4,b39,492),(1,b26,493),(4,b14,495),(4,b15,496),(4,b7,497),(1,b45,499),(2,b6,506),(1,b20,508),(4,b39,509),(1,b4,510),(4,b46,512),(2,b47,514),(4,b7,515),(4,b17,517),(1,b8,519),(1,b25,526),(1,b48,531),(4,b14,533),(4,b15,534),(4,b2,536),(1,b1,538),(1,b20,540),(4,b5,542),(1,b42,544),(1,b31,548),(4,b14,549),(2,b10,550),(4,b15,551),(4,b7,552),(4,b17,554),(4,b17,556)]) 239),vI 0,vI 0] = _:=rfl
  conv at h=>lhs;reduce
  exact pick _ h
def jpy:BV:=by
  have h:vP P0 = _:=rfl
  conv at h=>lhs;reduce
  exact pick _ h
end
theorem jmd:jpy = vP P0:=by kernel_rfl
theorem jkf {Wr Wm:List Nat} {x y:Full} (h:Step [] [] x y):Step Wr Wm x y:=(Step.refl Wr Wm x).trans' h (by simp) (by simp)
theorem jkg {P:Program} {Wr Wm:List Nat} {f:Nat} {zs:List BV} {st:St} {Q:BV → St → Prop} (h:ci P [] [] f zs st Q):ci P Wr Wm f zs st Q:=by
  unfold ci at h ⊢
  exact fun x vs h1 h2 h3=>(h x vs h1 h2 h3).mono fun _ _ ⟨r,v,z,e1,e2,e3,e4,e5,e6⟩=>⟨r,v,z,e1,e2,e3,e4,jkf e5,e6⟩
theorem jme {f:Nat} {zs zs':List BV} {st:St} {b:BV} {Wr:List Nat} (hw:wks zs = zs') (h:PC f zs' (fun r=>r = b)):ci Tryz.prog Wr [] f zs st (fun r s=>r = b ∧ s = st) :=
  jkg (dz (ea hw (h st.S st.T st.M)) fun r s ⟨h1,h2⟩=>⟨h2,h1⟩)
theorem jfl {α β:Type} {o:Option α} {k:α → Option β} {b:β} (h:bnd o k = some b):∃ a,o = some a ∧ k a = some b:=by
  cases o with
  | none=>cases h
  | some a=>exact ⟨a,rfl,h⟩
theorem jdx {t:Bool} {α:Type} {x:Option α} {b:α} (h:ga t x none = some b):t = true ∧ x = some b:=by
  cases t
  · cases h
  · exact ⟨rfl,h⟩
theorem ph {f n:Nat} {args:List BV} {b:BV} {p:List Bool} {tab:Tr XE} (ht:yz Tryz.prog vy tab) (hp:p = Calc.bits f) (hid:ky args = []) (ha:q9 0 0 args = true) (hin:jdh 0 0 0 args = true)
    (h:jdt tab (jtt Tryz.prog tab n) f p args ⟨[],[],[]⟩ = some (b,⟨[],[],[]⟩)):PC f args (fun r=>r = b):=by
  intro S T M
  have h1:=jh1 co ht hp h
  rw [hid] at h1
  refine dz (z7 (st:=⟨[],[],[]⟩) S T M (dz h1 (Q':=fun r s=>s.S.length = 0 ∧ s.T.length = 0 ∧ s.M.length = 0 ∧(r = b ∧ s = ⟨[],[],[]⟩)) fun r s e=>?_) rfl ha (.inr ⟨rfl,hin⟩) nofun) fun r s ⟨s',e1,e2,e3⟩=>⟨?_,e2⟩
  · obtain ⟨e1,rfl⟩:=e
    exact ⟨rfl,rfl,rfl,e1,rfl⟩
  · rw [e1,e3]
    rfl
noncomputable section
def jkh (w:ByteArray) (res:BV):List BV → St → Option (BV × St):=fun vs st =>
  @List.rec BV (fun _=>Option (BV × St)) none (fun a l _=>bnd (zd a) fun s=>ga (jqe s.data.toList w.data.toList) (ga (Nat.beq (p9 l) 0) (some (res,st)) none) none) vs
end
theorem jki {w:ByteArray} {res:BV}:∀ {vs:List BV} {st st':St} {b:BV},jkh w res vs st = some (b,st') → vs = [vS w] ∧ b = res ∧ st' = st
  | [],st,st',b,h=>by cases h
  | a :: l,st,st',b,h=>by
    have h:(bnd (zd a) fun s=>ga (jqe s.data.toList w.data.toList) (ga (Nat.beq (p9 l) 0) (some (res,st)) none) none) = some (b,st'):=h
    obtain ⟨s,h1,h⟩:=jfl h
    obtain ⟨h2,h⟩:=jdx h
    obtain ⟨h3,h⟩:=jdx h
    simp only [Option.some.injEq,Prod.mk.injEq] at h
    obtain ⟨rfl,rfl⟩:=h
    have h3:=Nat.eq_of_beq_eq_true h3
    rw [j5] at h3
    obtain rfl:=List.eq_nil_of_length_eq_zero h3
    obtain rfl:=ur h1
    rw [jbt,show eqU s.data.toList w.data.toList = eqS s w from rfl,jjp,decide_eq_true_eq] at h2
    subst h2
    exact ⟨rfl,rfl,rfl⟩
theorem jkj {f:Nat} {w:ByteArray} {res:BV} (hf:jdz Tryz.prog f = true) (h:PC f [vS w] (fun r=>r = res)):ux Tryz.prog vy f (.law (jkh w res)):=by
  refine ⟨hf,fun vs st b st' hl=>?_⟩
  obtain ⟨rfl,rfl,rfl⟩:=jki hl
  exact ⟨jme (by simp only [wks,wk]) h,rfl,rfl⟩
end Go.Proofs.YtinffhimfoicdaaGreat
