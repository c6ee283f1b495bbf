/- Texts of the claim, merged: TK, MH. No conditions. -/
import Derived.Test.YtinffhimfoicdaaGreatPq7
import Derived.Test.YtinffhimfoicdaaGreatPq8
import Derived.Test.YtinffhimfoicdaaGreatPq11
import Derived.Test.YtinffhimfoicdaaGreatPq5
namespace Go.Proofs.YtinffhimfoicdaaGreat
open Go Go.RowKit Go.Proofs.YtinffhimfoicdaaGreat.Calc
set_option linter.unusedVariables false
set_option linter.unusedSimpArgs false
set_option maxRecDepth 100000
set_option maxHeartbeats 8000000
def OKm (p:List Cl):Prop:=Sz p ∧ BP p ∧(eg p).1 = 0 ∧(ji p).1 = 0 ∧ p ≠ []
mutual
def bEx:Ex → Bool
  | .mk _ _ t na ty l _ _=>decide (t.size ≤ 1000000) && decide (na.size ≤ 1000000) && decide (ty.size ≤ 1000000) && jqi l
def jqi:List Ex → Bool
  | []=>true
  | e :: l=>bEx e && jqi l
end
mutual
def bSm:Sm → Bool
  | .mk _ _ ty nm e a b c _=>decide (ty.size ≤ 1000000) && decide (nm.size ≤ 1000000) && jqi e && jpz a && jpz b && jpz c
def jpz:List Sm → Bool
  | []=>true
  | e :: l=>bSm e && jpz l
end
mutual
theorem jsj:∀ e,bEx e = true → BEx e
  | .mk _ _ t na ty l _ _,h=>by
    rw [bEx] at h
    simp only [Bool.and_eq_true,decide_eq_true_eq] at h
    rw [BEx]
    exact ⟨h.1.1.1,h.1.1.2,h.1.2,jbz l h.2⟩
theorem jbz:∀ l,jqi l = true → rz l
  | [],_=>by rw [rz];trivial
  | e :: l,h=>by
    rw [jqi] at h
    simp only [Bool.and_eq_true] at h
    rw [rz]
    exact ⟨jsj e h.1,jbz l h.2⟩
end
mutual
theorem jsk:∀ e,bSm e = true → BSm e
  | .mk _ _ ty nm e a b c _,h=>by
    rw [bSm] at h
    simp only [Bool.and_eq_true,decide_eq_true_eq] at h
    rw [BSm]
    exact ⟨h.1.1.1.1.1,h.1.1.1.1.2,jbz e h.1.1.1.2,y4 a h.1.1.2,y4 b h.1.2,y4 c h.2⟩
theorem y4:∀ l,jpz l = true → vu l
  | [],_=>by rw [vu];trivial
  | e :: l,h=>by
    rw [jpz] at h
    simp only [Bool.and_eq_true] at h
    rw [vu]
    exact ⟨jsk e h.1,y4 l h.2⟩
end
def bP (p:List Cl):Bool:=p.all fun c=>decide (c.name.size ≤ 1000000) && decide (c.super.size ≤ 1000000) && (c.fields.all fun f=>decide (f.typ.size ≤ 1000000) && decide (f.name.size ≤ 1000000) && jqi f.init) && c.methods.all fun m=>decide (m.typ.size ≤ 1000000) && decide (m.name.size ≤ 1000000) && (m.params.all fun x=>decide (x.typ.size ≤ 1000000) && decide (x.name.size ≤ 1000000)) && jpz m.body
theorem jwg {p:List Cl} (h:bP p = true):BP p:=by
  intro c hc
  have h1:=List.all_eq_true.1 h c hc
  simp only [Bool.and_eq_true,decide_eq_true_eq,List.all_eq_true] at h1
  obtain ⟨⟨⟨a1,a2⟩,a3⟩,a4⟩:=h1
  refine ⟨a1,a2,fun f hf=>?_,fun m hm=>?_⟩
  · obtain ⟨⟨b1,b2⟩,b3⟩:=a3 f hf
    exact ⟨b1,b2,jbz _ b3⟩
  · obtain ⟨⟨⟨b1,b2⟩,b3⟩,b4⟩:=a4 m hm
    exact ⟨b1,b2,fun x hx=>⟨(b3 x hx).1,(b3 x hx).2⟩,y4 _ b4⟩
theorem jzh:szP PN ≤ 1000000:=by decide +kernel
theorem jzi:(eg PN).1 = 0:=by decide +kernel
theorem jzj:(ji PN).1 = 0:=by decide +kernel
theorem jwh:OKm PN:=⟨jzh,jwg (by decide +kernel),jzi,jzj,List.cons_ne_nil _ _⟩
attribute [local irreducible] Tri ew er ci bn db d7 inQ jb
theorem sp7 (l:List (List Int)):PC 7 [.d (cy yl l)] (fun r=>∃ p,r = vP p ∧ OKm p):=by
  have h25:=jyv l
  have hN24:=jzg
  have hNok:=jwh
  have hN25:=jzf
  generalize PN = pn at *
  generalize jwf = sn at *
  intro S T M
  refine am [] [] Tryz.func7 rfl Tryz.ntmps7 Tryz.results7 ?_
  repeat' (first|apply ab|(apply V;rfl;(first|(apply bl;rfl)|(apply bg;rfl)|(apply cb;(apply plT;rfl);rfl;rfl;decide)|(apply bj;(apply tyT;rfl);rfl;(apply at_;rfl;rfl);rfl)|(apply bz;(apply tyT;rfl);rfl;(apply at_;rfl;rfl);rfl)|(apply bq;(apply elT;rfl);rfl;rfl)|(apply ca;rfl;rfl)|(apply bu;rfl;rfl)|(apply eu;rfl;rfl)))|(apply Vp;rfl;rfl;apply fnT;rfl;apply h25;rintro _ ⟨s_,rfl,hs_⟩)|(apply Vp;rfl;rfl;apply fnT;rfl;apply (jyw s_ (by omega));rintro _ ⟨p_,e_,a_,rfl,hB_,hz_,hO_,hl_⟩)|(apply Vp;rfl;rfl;apply fnT;rfl;apply (jys p_ hz_ hB_);rintro _ ⟨f_,t_,rfl,hf_⟩)|(apply Vp;rfl;rfl;apply fnT;rfl;apply ea;rfl;apply hN25;rintro _ rfl)|(apply Vp;rfl;rfl;apply fnT;rfl;apply hN24;rintro _ rfl)|(apply Vd;rfl;(first|(apply dq;rfl;rfl)|(apply fb;rfl;rfl));all_goals intro h_)|(apply Vo;rfl)|(apply Vw;rfl;(apply cd;rfl;(apply tyT;rfl)))|(apply Vs;rfl;(apply bw;rfl;(apply tyT;rfl);rfl;rfl;rfl;(first|apply bc|(apply bh;omega));rfl;rfl;(first|decide|(apply Nat.le_of_ble_eq_true;rfl))))|(apply ac;rfl)|apply ak|(apply al;rfl)|apply ah|apply ai|(apply ae;rfl)|(apply af;rfl)|(apply bf _ (.inr rfl);(exact List.prefix_append _ _);(focus repeat (first|apply a8|(apply cp;rfl;rfl;apply tyT;rfl;rfl;rfl)));rfl)|apply ap)
  all_goals first
    | exact ⟨_,rfl,hNok⟩
    | skip
  have h0:=hf_ (by omega)
  exact ⟨_,rfl,hz_,hB_,h0.1,h0.2,fun h=>by subst h;simp at *⟩
end Go.Proofs.YtinffhimfoicdaaGreat
namespace Go.Proofs.YtinffhimfoicdaaGreat
open Go Go.RowKit Go.Proofs.YtinffhimfoicdaaGreat.Calc
set_option linter.unusedVariables false
set_option linter.unusedSimpArgs false
set_option maxRecDepth 100000
set_option maxHeartbeats 8000000
def jdy (v:Vl):Value:=.agg #[.int .i64 v.kind,.int .i32 v.n,.string v.s]
theorem jmf {v:Vl} (h:OkV v):∃ l,keyOf Tryz.prog 39 (jdy v) = some l:=by
  have hp:∃ f0 f1 f2:Field,Tryz.prog.underlying 39 = some (.struct #[f0,f1,f2]) ∧ f0.type = 3 ∧ f1.type = 21 ∧ f2.type = 9 ∧ f0.offset = 0 ∧ f1.offset = 1 ∧ f2.offset = 2 ∧(f0.name != "_") = true ∧(f1.name != "_") = true ∧(f2.name != "_") = true:=by
    refine ⟨_,_,_,(show Tryz.prog.underlying 39 = some (.struct #[{ name := "Kind",type:=3,offset:=0,embedded:=false,tag := "",pkgPath := "",byteOffset:=0 },{ name := "N",type:=21,offset:=1,embedded:=false,tag := "",pkgPath := "",byteOffset:=8 },{ name := "S",type:=9,offset:=2,embedded:=false,tag := "",pkgPath := "",byteOffset:=16 }]) by kernel_rfl),rfl,rfl,rfl,rfl,rfl,rfl,by decide,by decide,by decide⟩
  obtain ⟨f0,f1,f2,hu,a1,a2,a3,b1,b2,b3,a5,a6,a7⟩:=hp
  have hkt:Tryz.prog.keyType 39 = true:=by kernel_rfl
  have hc39:Tryz.prog.cellsOf 39 = 3:=by kernel_rfl
  have hc9:Tryz.prog.cellsOf 9 = 1:=by kernel_rfl
  have hc3:Tryz.prog.cellsOf 3 = 1:=by kernel_rfl
  have hc21:Tryz.prog.cellsOf 21 = 1:=by kernel_rfl
  have hu9:Tryz.prog.underlying 9 = some .string:=by kernel_rfl
  have hu3:Tryz.prog.underlying 3 = some (.int .i64):=by kernel_rfl
  have hu21:Tryz.prog.underlying 21 = some (.int .i32):=by kernel_rfl
  obtain ⟨m,hm⟩:∃ m,Tryz.prog.types.size = m + 1:=⟨_,(by kernel_rfl:Tryz.prog.types.size = 228 + 1)⟩
  have hf:Value.formed Tryz.prog 39 (jdy v) = true:=by simp [jdy,Value.formed,hu,hc39]
  refine ⟨.string (keyBytes [.int .i64 v.kind,.int .i32 v.n,.string v.s.data.toList]),?_⟩
  unfold keyOf
  simp only [hu]
  rw [if_pos (by rw [hkt,hf];rfl),hm]
  unfold Program.keyLits
  simp only [hu,jdy,Value.cells]
  rw [if_pos (by rw [hc39];simp [a5,a6,a7])]
  simp [Program.keyLits,a1,a2,a3,b1,b2,b3,hu9,hu3,hu21,hc9,hc3,hc21,h.1,h.2.1,h.2.2]
theorem rb {v:Vl} (h:OkV v) (x y:Operand) (w:World):(do eqGuard .neq 39 x y (jdy v) (jdy v);binOp .neq 39 (jdy v) (jdy v):Sem Value).run Tryz.prog w = .ok (.bool false) w:=by
  obtain ⟨l,hl⟩:=jmf h
  obtain ⟨r,hr,hiff⟩:=run_equal_deep w (m:=2) (by decide) (by kernel_rfl) (by kernel_rfl) hl hl
  obtain rfl:r = true:=hiff.2 rfl
  have hg:Tryz.prog.eqGuardType Tryz.prog.depth 39 = false:=by kernel_rfl
  have e1:(eqGuard .neq 39 x y (jdy v) (jdy v)).run Tryz.prog w = .ok () w:=by
    unfold jdy
    simp [eqGuard,hg]
  have e2:(binOp .neq 39 (jdy v) (jdy v)).run Tryz.prog w = .ok (.bool false) w:=by
    have:binOp .neq 39 (jdy v) (jdy v) =(do pure (.bool (!(← Op.equal 39 (jdy v) (jdy v))))):=rfl
    rw [this,Sem.run_bind,hr]
    rfl
  rw [Sem.run_bind,e1]
  exact e2
structure Stp where
  kind:Int
  cls:Int
  n:Int
  own:Int
  nth:Int
  v:Vl
def nd (o:Stp):List DV:=[.flat (.int .i64 o.kind),.flat (.int .i64 o.cls),.flat (.int .i64 o.n),.flat (.int .i64 o.own),.flat (.int .i64 o.nth),.flat (.int .i64 o.v.kind),.flat (.int .i32 o.v.n),.flat (.string o.v.s)]
theorem uz (o:Stp):(nd o).length = 8:=rfl
def OkS (o:Stp):Prop:=(Lit.int .i64 o.nth).wf = true ∧(Lit.int .i64 o.v.kind).wf = true ∧(Lit.int .i32 o.v.n).wf = true
theorem jsl {v:Vl} (h:(Lit.int .i32 v.n).wf = true):okV v:=by
  unfold Lit.wf at h
  rw [Bool.and_eq_true,decide_eq_true_eq,decide_eq_true_eq] at h
  exact h
theorem OkV.ok {v:Vl} (h:OkV v):okV v:=jsl h.2.1
section
variable {P:Program} {st:St} {ρ:Rg} {x y:Operand} {t ty:Nat}
theorem jni {k:IntKind} {a:Int} (hx:fl ρ x = some (.int k a)) (hy:fl ρ y = some (.int k a)):bn P st ρ (.binOp .neq t x y ty) = some (vB false):=by
  rw [fb hx hy,decide_eq_false (fun h=>h rfl)]
theorem jb0 {a:ByteArray} (hx:fl ρ x = some (.string a)) (hy:fl ρ y = some (.string a)):bn P st ρ (.binOp .neq t x y ty) = some (vB false):=by
  rw [fy hx hy,decide_eq_false (fun h=>h rfl)]
end
theorem q4n (a:Bool) (x y:Operand):(gb Tryz.prog (do eqGuard .neq 4 x y (.bool a) (.bool a);binOp .neq 4 (.bool a) (.bool a))).bind d6 = some (vB false):=by
  cases a <;> kernel_rfl
theorem jnj {st:St} {ρ:Rg} {x y:Operand} {ty:Nat} {a:Bool} (hx:fl ρ x = some (.bool a)) (hy:fl ρ y = some (.bool a)):bn Tryz.prog st ρ (.binOp .neq 4 x y ty) = some (vB false):=by
  simp only [bn,hx,hy]
  exact q4n a x y
theorem jkk {n:Nat} (h:n ≤ 1000000000):IntKind.u64.wrap (n:Int) = n:=by
  simp only [IntKind.wrap,IntKind.signed,Bool.false_and,Bool.false_eq_true,if_false]
  show (n:Int) % (18446744073709551616:Int) = n
  exact Int.emod_eq_of_lt (by omega) (by omega)
theorem jnk (a:Int) {n:Nat} (h0:0 < n) (h:n ≤ 1000000000):0 ≤(IntKind.u64.wrap a).tmod (IntKind.u64.wrap n) ∧(IntKind.u64.wrap a).tmod (IntKind.u64.wrap n) < n:=by
  rw [jkk h]
  have:=qe a
  exact ⟨Int.tmod_nonneg _ this,Int.tmod_lt_of_pos _ (by omega)⟩
theorem jsm {p:List Cl} (h:OKm p):PG p:=⟨h.1,fun c hc=>(h.2.1 c hc).1,h.2.2.1⟩
theorem HE.pre {p:List Cl} {id id2:Nat} {S S':List (List BV × Nat)} {T T':List Nat} {M:List (List (Value × DV))} (h:HE p id id2 S T M) (hS:S <+: S') (hT:T <+: T'):HE p id id2 S' T' M:=by
  obtain ⟨L,rfl⟩:=hS
  obtain ⟨X,rfl⟩:=hT
  exact h.more L X
end Go.Proofs.YtinffhimfoicdaaGreat
