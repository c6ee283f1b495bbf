/- Texts of the claim, merged: FZ. No conditions. -/
import Derived.Test.YtokilnhpepbjlaaGreatPg6
import Derived.DeepKeys3
import Derived.KernelRfl
namespace Go.Proofs.YtokilnhpepbjlaaGreat
open Go Go.RowKit Go.Proofs.YtokilnhpepbjlaaGreat.Calc
set_option linter.unusedVariables false
set_option linter.unusedSimpArgs false
set_option maxRecDepth 100000
set_option maxHeartbeats 8000000
def keyT (o : ByteArray) (n : Int) : Value := .agg #[.string o,.int .i64 n]
theorem keyV34 {o : ByteArray} {n : Int} (h1 : o.size ≤ maxLen) (h2 : (Lit.int .i64 n).wf = true) : ∃ l,keyOf Tryz.prog 34 (keyT o n) = some l := by
  have hp : ∃ f0 f1 : Field,Tryz.prog.underlying 34 = some (.struct #[f0,f1]) ∧ f0.type = 9 ∧ f1.type = 3 ∧ f0.offset = 0 ∧ f1.offset = 1 ∧ (f0.name != "_") = true ∧ (f1.name != "_") = true := by
    refine ⟨_,_,(show Tryz.prog.underlying 34 = some (.struct #[{ name := "Own",type := 9,offset := 0,embedded := false,tag := "",pkgPath := "",byteOffset := 0 },{ name := "Nth",type := 3,offset := 1,embedded := false,tag := "",pkgPath := "",byteOffset := 16 }]) by kernel_rfl),rfl,rfl,rfl,rfl,by decide,by decide⟩
  obtain ⟨f0,f1,hu,a1,a2,a3,a4,a5,a6⟩ := hp
  have hkt : Tryz.prog.keyType 34 = true := by kernel_rfl
  have hc34 : Tryz.prog.cellsOf 34 = 2 := by kernel_rfl
  have hc9 : Tryz.prog.cellsOf 9 = 1 := by kernel_rfl
  have hc3 : Tryz.prog.cellsOf 3 = 1 := by kernel_rfl
  have hu9 : Tryz.prog.underlying 9 = some .string := by kernel_rfl
  have hu3 : Tryz.prog.underlying 3 = some (.int .i64) := by kernel_rfl
  obtain ⟨m,hm⟩ : ∃ m,Tryz.prog.types.size = m + 1 := by
    have h0 : Nat.beq Tryz.prog.types.size 0 = false := by kernel_rfl
    refine ⟨Tryz.prog.types.size - 1,?_⟩
    have : Tryz.prog.types.size ≠ 0 := fun e => by rw [e] at h0;cases h0
    omega
  have hf : Value.formed Tryz.prog 34 (keyT o n) = true := by simp [keyT,Value.formed,hu,hc34]
  refine ⟨.string (keyBytes [.string o.data.toList,.int .i64 n]),?_⟩
  unfold keyOf
  simp only [hu]
  rw [if_pos (by rw [hkt,hf];rfl),hm]
  unfold Program.keyLits
  simp only [hu,keyT,Value.cells]
  rw [if_pos (by rw [hc34];simp [a5,a6])]
  simp [Program.keyLits,a1,a2,a3,a4,hu9,hu3,hc9,hc3,h1,h2]
theorem run_neqT {o : ByteArray} {n : Int} (h1 : o.size ≤ maxLen) (h2 : (Lit.int .i64 n).wf = true) (x y : Operand) (w : World) : (do eqGuard .neq 34 x y (keyT o n) (keyT o n);binOp .neq 34 (keyT o n) (keyT o n) : Sem Value).run Tryz.prog w = .ok (.bool false) w := by
  obtain ⟨l,hl⟩ := keyV34 h1 h2
  obtain ⟨r,hr,hiff⟩ := run_equal_deep w (m := 2) (by decide) (by kernel_rfl) (by kernel_rfl) hl hl
  obtain rfl : r = true := hiff.2 rfl
  have hg : Tryz.prog.eqGuardType Tryz.prog.depth 34 = false := by kernel_rfl
  have e1 : (eqGuard .neq 34 x y (keyT o n) (keyT o n)).run Tryz.prog w = .ok () w := by
    unfold keyT
    simp [eqGuard,hg]
  have e2 : (binOp .neq 34 (keyT o n) (keyT o n)).run Tryz.prog w = .ok (.bool false) w := by
    have : binOp .neq 34 (keyT o n) (keyT o n) = (do pure (.bool (!(← Op.equal 34 (keyT o n) (keyT o n))))) := rfl
    rw [this,Sem.run_bind,hr]
    rfl
  rw [Sem.run_bind,e1]
  exact e2
section
variable {P : Program} {ok okm : Nat → Bool} {o : Oper} {ρ : Rg} {st : St} {Q : Rg → St → Prop} {x y : Operand}
theorem opR_binR {f : BinOp} {t ty : Nat} {a b : Value} {c0 : Bool} (ho : o.op = .binOp f t x y ty) (hx : (evB ρ x).bind keyB = some a) (hy : (evB ρ y).bind keyB = some b) (hv : ∀ w,(do eqGuard f t x y a b;binOp f t a b : Sem Value).run P w = .ok (.bool c0) w) (hq : Q (updO ρ o.dst (vB c0)) st) : OpR P ok okm o ρ st Q := by
  intro nt z c Kx h1 h2 h3 h4
  subst h1
  obtain ⟨bx,hx1,hx2⟩ := Option.bind_eq_some_iff.1 hx
  have hax := keyB_rep (h3.ev hx1) hx2
  obtain ⟨by',hy1,hy2⟩ := Option.bind_eq_some_iff.1 hy
  have hay := keyB_rep (h3.ev hy1) hy2
  have hrun : (execOp c.eval o).run P z.w = .ok (.value (.bool c0)) z.w := by
    obtain ⟨dst,op,type,pos,after,guard⟩ := o
    subst ho
    rw [show (execOp c.eval { dst := dst,op := .binOp f t x y ty,type := type,pos := pos,after := after,guard := guard }) = (do let z ← (do eqGuard f t x y (c.eval x) (c.eval y);binOp f t (c.eval x) (c.eval y));pure (.value z)) from rfl,hax,hay,Sem.run_bind,hv]
    simp
  unfold Oper.wp
  rw [hrun]
  exact ⟨_,z,[],[],rfl,hq,h2,Step.refl _ _ _,by simp,by simp,h3.put h4 (.d _ _ (.flat _ rfl))⟩
end
attribute [local irreducible] Tri TriL TriP CallT stepV stepW thenQ inQ endQ
theorem encTq_wf {n : Int} (h0 : 0 ≤ n) (h1 : n ≤ 1000000) : (Lit.int .i64 n).wf = true := by
  unfold Lit.wf
  rw [Bool.and_eq_true,decide_eq_true_eq,decide_eq_true_eq]
  show (-9223372036854775808 : Int) ≤ n ∧ n ≤ 9223372036854775807
  omega
theorem sp13 (l : List Tq) (hl : l.length ≤ 4000000000000000000) (hq : ∀ t ∈ l,t.own.size ≤ maxLen ∧ (Lit.int .i64 t.nth).wf = true) : PC 13 [.d (encL encTq l),.d (encL encTq l)] (fun r => r = vB true) := by
  intro S T M
  refine callT_go [] [] Tryz.func13 rfl Tryz.ntmps13 Tryz.results13 ?_
  repeat' (first | apply triL_nil | (apply V;rfl;(first | (apply E_mv;rfl) | (apply E_as;rfl) | (apply E_len;(apply elT;rfl);rfl;rfl))) | (apply Vd;rfl;(apply E_neq;rfl;rfl);all_goals intro h_) | (apply s_region;rfl) | apply tri_seq | apply tri_block | apply tri_skip | apply tri_ret | (apply tri_condT;rfl) | (apply tri_condF;rfl) | (apply end_q _ (.inr rfl);(exact List.prefix_append _ _);(focus repeat (first | apply R_nil | (apply R_tmp;rfl)));rfl) | apply p_then | apply p_thenR | (exfalso;omega))
  refine tri_fix (fun k : Nat => l.length - k) (fun k => [(0,.d (encL encTq l)),(1,.d (encL encTq l)),(5,vI k)]) (fun k => k ≤ l.length) 0 (Nat.zero_le _) ⟨rfl,rfl,rfl,trivial⟩ ?_
  rintro k hk
  by_cases hlt : k < l.length
  · obtain ⟨t,ht⟩ : ∃ t,l[k]? = some t := ⟨_,List.getElem?_eq_getElem hlt⟩
    obtain ⟨h1,h2⟩ := hq t (List.mem_of_getElem? ht)
    repeat' (first | apply triL_nil | (apply V;rfl;(first | (apply E_mv;rfl) | (apply E_as;rfl) | (apply E_lea;(apply tyT;rfl);rfl;(first | rfl | apply encEx_len | apply encSm_len)) | (apply E_len;(apply elT;rfl);rfl;rfl) | (apply E_add64;rfl;rfl;rfl;omega) | (apply E_ial (c := t);apply elT;rfl;rfl;rfl;rfl;exact encTq_len;omega;simpa using ht))) | (apply s_drawn (nt := 26) (.take 0 (.take 1 (.take 2 (.take 3 (.take 4 (.take 5 (.take 6 (.take 7 (.one 8 .nil))))))))) [] [];exact mixed;rfl;decide +kernel) | (apply oR;rfl;rfl;apply opR_binR;rfl;rfl;rfl;exact fun w => run_neqT h1 h2 _ _ w) | (apply Vd;rfl;(apply E_lss;rfl;rfl);all_goals intro h_) | (apply s_region;rfl) | apply tri_seq | (apply tri_region;rfl) | apply tri_block | apply tri_skip | apply tri_exit | apply tri_ret | (apply tri_condT;rfl) | (apply tri_condF;rfl) | (apply end_q _ (.inr rfl);(exact List.prefix_append _ _);(focus repeat (first | apply R_nil | (apply R_tmp;rfl)));rfl) | apply p_then | apply p_in | apply p_inN | apply p_thenE | apply d_nil | (apply tV;rfl;rfl;(first | (apply E_mv;rfl) | (apply E_as;rfl) | (apply E_lea;(apply tyT;rfl);rfl;(first | rfl | apply encEx_len | apply encSm_len)) | (apply E_len;(apply elT;rfl);rfl;rfl) | (apply E_add64;rfl;rfl;rfl;omega) | (apply E_ial (c := t);apply elT;rfl;rfl;rfl;rfl;exact encTq_len;omega;simpa using ht));rfl) | (exfalso;omega))
    all_goals first | exact ⟨k + 1,by omega,by omega,⟨rfl,rfl,vI_of (by omega),trivial⟩,rfl⟩ | skip
  · repeat' (first | apply triL_nil | (apply V;rfl;(first | (apply E_mv;rfl) | (apply E_as;rfl) | (apply E_len;(apply elT;rfl);rfl;rfl))) | (apply Vd;rfl;(apply E_lss;rfl;rfl);all_goals intro h_) | (apply s_region;rfl) | apply tri_seq | apply tri_block | apply tri_skip | apply tri_exit | apply tri_ret | (apply tri_condT;rfl) | (apply tri_condF;rfl) | (apply end_q _ (.inr rfl);(exact List.prefix_append _ _);(focus repeat (first | apply R_nil | (apply R_tmp;rfl)));rfl) | apply p_then | apply p_in | apply p_thenE | (exfalso;omega))
    all_goals first | rfl | skip
end Go.Proofs.YtokilnhpepbjlaaGreat
