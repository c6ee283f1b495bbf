/- Texts of the claim, merged: Calc13, Calc14, Plans. No conditions. -/
import Derived.Test.YtinffhimfoicdaaGreatPq8
import Derived.Test.YtinffhimfoicdaaGreatPq1
namespace Go.Proofs.YtinffhimfoicdaaGreat.Calc
open Go Go.RowKit
set_option linter.unusedVariables false
set_option linter.unusedSimpArgs false
def jlr:Nat → Nat → List Bool
  | 0,_=>[]
  | _ + 1,0=>[]
  | f + 1,n + 1=>(n % 2 == 1) :: jlr f (n / 2)
def bits (n:Nat):List Bool:=jlr n n
def jdi:List Bool → Nat
  | []=>0
  | b :: p=>if b = true then 2 * jdi p + 2 else 2 * jdi p + 1
theorem jez:∀ f n,n ≤ f → jdi (jlr f n) = n
  | 0,n,h=>by
    obtain rfl:n = 0:=by omega
    rfl
  | f + 1,0,h=>rfl
  | f + 1,n + 1,h=>by
    rw [jlr,jdi,jez f (n / 2) (by omega)]
    have:=Nat.mod_two_eq_zero_or_one n
    rcases this with e|e
    · rw [e]
      simp only [Nat.reduceBEq,Bool.false_eq_true,if_false]
      omega
    · rw [e]
      simp only [BEq.rfl,if_true]
      omega
theorem jls {n m:Nat} (h:bits n = bits m):n = m:=by
  have:=congrArg jdi h
  rwa [bits,bits,jez n n (Nat.le_refl _),jez m m (Nat.le_refl _)] at this
inductive Tr (α:Type) where
  | e
  | n (v:Option α) (l r:Tr α)
def Tr.get {α:Type}:Tr α → List Bool → Option α
  | .e,_=>none
  | .n v _ _,[]=>v
  | .n _ l r,b :: p=>cond b (r.get p) (l.get p)
def Tr.one {α:Type}:List Bool → α → Tr α
  | [],x=>.n (some x) .e .e
  | b :: p,x=>cond b (.n none .e (Tr.one p x)) (.n none (Tr.one p x) .e)
def Tr.set {α:Type}:Tr α → List Bool → α → Tr α
  | .e,p,x=>Tr.one p x
  | .n _ l r,[],x=>.n (some x) l r
  | .n v l r,b :: p,x=>cond b (.n v l (r.set p x)) (.n v (l.set p x) r)
theorem Tr.get_one {α:Type} (x:α):∀ p q:List Bool,(Tr.one p x).get q = if q = p then some x else none
  | [],[]=>rfl
  | [],b :: q=>by cases b <;> simp [Tr.one,Tr.get]
  | b :: p,[]=>by cases b <;> simp [Tr.one,Tr.get]
  | b :: p,c :: q=>by
    cases b <;> cases c <;> simp [Tr.one,Tr.get,Tr.get_one x p q]
theorem Tr.get_set {α:Type} (x:α):∀(t:Tr α) (p q:List Bool),(t.set p x).get q = if q = p then some x else t.get q
  | .e,p,q=>by
    simp only [Tr.set,Tr.get_one]
    cases q <;> rfl
  | .n v l r,[],[]=>by simp [Tr.set,Tr.get]
  | .n v l r,[],b :: q=>by simp [Tr.set,Tr.get]
  | .n v l r,b :: p,[]=>by cases b <;> simp [Tr.set,Tr.get]
  | .n v l r,b :: p,c :: q=>by
    cases b <;> cases c <;> simp [Tr.set,Tr.get,Tr.get_set x l p q,Tr.get_set x r p q]
abbrev RL:=List (Nat × BV)
def yq:RL → Nat → Option BV
  | [],_=>none
  |(d,b) :: r,t=>cond (Nat.beq d t) (some b) (yq r t)
def jo1:RL → Nat → BV → RL
  | [],d,b=>[(d,b)]
  |(c,x) :: r,d,b=>cond (Nat.beq c d) ((d,b) :: r) ((c,x) :: jo1 r d b)
theorem qq (a b:Nat):(Nat.beq a b = true ∧ a = b) ∨(Nat.beq a b = false ∧ a ≠ b):=by
  by_cases h:a = b
  · subst h;exact .inl ⟨by simp,rfl⟩
  · refine .inr ⟨?_,h⟩
    rw [Bool.eq_false_iff]
    exact fun e=>h (Nat.eq_of_beq_eq_true e)
theorem f5 (d:Nat) (b:BV) (r:RL) (t:Nat):yq ((d,b) :: r) t = if t = d then some b else yq r t:=by
  rw [yq]
  rcases qq d t with ⟨h,e⟩|⟨h,e⟩
  · rw [h,if_pos e.symm];rfl
  · rw [h,if_neg (fun x=>e x.symm)];rfl
theorem ja8:∀(r:RL) (d:Nat) (b:BV) (t:Nat),yq (jo1 r d b) t = if t = d then some b else yq r t
  | [],d,b,t=>f5 d b [] t
  |(c,x) :: r,d,b,t=>by
    rw [jo1]
    rcases qq c d with ⟨h,e⟩|⟨h,e⟩
    · subst e
      rw [h]
      show yq ((c,b) :: r) t = _
      rw [f5,f5]
      split <;> rfl
    · rw [h]
      show yq ((c,x) :: jo1 r d b) t = _
      rw [f5,f5,ja8 r d b t]
      by_cases h1:t = c
      · rw [if_pos h1,if_neg (fun e'=>e (h1.symm.trans e'))]
        rw [if_pos h1]
      · rw [if_neg h1,if_neg h1]
abbrev RT:=RL × RL
variable (loc:Nat → Bool)
def rgx (r:RT):Rg:=fun t=>cond (loc t) (yq r.1 t) (yq r.2 t)
inductive XT where
  | no
  | l (n:Nat)
  | t (n:Nat)
def xt:Option Nat → XT
  | none=>.no
  | some d=>cond (loc d) (.l d) (.t d)
def qr (r:RT) (d:XT) (b:BV):RT:=match d with
  | .no=>r
  | .l n=>(jo1 r.1 n b,r.2)
  | .t n=>(r.1,(n,b) :: r.2)
theorem gy (r:RT) (d:Option Nat) (b:BV):rgx loc (qr r (xt loc d) b) = ke (rgx loc r) d b:=by
  cases d with
  | none=>rfl
  | some d =>
    funext t
    simp only [xt,ke,upd,rgx]
    cases hd:loc d
    · simp only [cond_false,qr,f5]
      by_cases h:t = d
      · subst h;rw [hd,if_pos rfl,if_pos rfl];rfl
      · rw [if_neg h,if_neg h]
    · simp only [cond_true,qr,ja8]
      by_cases h:t = d
      · subst h;rw [hd,if_pos rfl,if_pos rfl];rfl
      · rw [if_neg h,if_neg h]
def jht:List Nat → List BV → RL
  | i :: is,b :: l=>(i,b) :: jht is l
  | _,_=>[]
theorem jgq:∀(n k:Nat) (l:List BV) (t:Nat) (v:BV),yq (jht (List.range' k n) l) t = some v → k ≤ t ∧ l[t - k]? = some v
  | 0,k,l,t,v,h=>by cases h
  | n + 1,k,[],t,v,h=>by cases h
  | n + 1,k,b :: l,t,v,h=>by
    rw [List.range'_succ,jht,f5] at h
    split at h
    · rename_i e
      subst e
      obtain rfl:=Option.some.inj h
      exact ⟨Nat.le_refl _,by simp⟩
    · obtain ⟨h1,h2⟩:=jgq n (k + 1) l t v h
      refine ⟨by omega,?_⟩
      rw [show t - k =(t - (k + 1)) + 1 by omega,List.getElem?_cons_succ]
      exact h2
inductive XO where
  | l (n:Nat)
  | t (n:Nat)
  | c (b:BV)
  | no
def xo:Operand → XO
  | .tmp t=>cond (loc t) (.l t) (.t t)
  | .const v=>match d6 v with
    | some b=>.c b
    | none=>.no
  | .func f=>.c (.fn f [])
  | .global _=>.no
def evX (r:RT):XO → Option BV
  | .l n=>yq r.1 n
  | .t n=>yq r.2 n
  | .c b=>some b
  | .no=>none
theorem gq (r:RT) (o:Operand):evX r (xo loc o) = evB (rgx loc r) o:=by
  cases o with
  | tmp t=>simp only [xo,evB,rgx];cases loc t <;> rfl
  | const v=>simp only [xo,evB];cases d6 v <;> rfl
  | func f=>rfl
  | global g=>rfl
def je0 (r:RT):List XO → Option (List BV)
  | []=>some []
  | o :: l=>match evX r o,je0 r l with
    | some b,some bs=>some (b :: bs)
    | _,_=>none
theorem pv (r:RT):∀ l:List Operand,je0 r (l.map (xo loc)) = jh4 (rgx loc r) l
  | []=>rfl
  | o :: l=>by
    simp only [List.map_cons,je0,jh4,gq,pv r l]
    rfl
inductive XI where
  | mv (x:XO)
  | pick (c a b:XO)
  | bin (f:BinOp) (x y:XO) (op:Op)
  | not (x:XO)
  | idx (x i:XO) (op:Op)
  | fa (o:Nat) (x:XO)
  | ia (sz:Nat) (x i:XO)
  | ld (ag:Bool) (sz:Nat) (x:XO)
  | nc (x:XO)
  | ex (x:XO) (i:Nat)
  | st (sz:Nat) (x v:XO)
  | lens (x:XO)
  | lenr (x:XO)
  | sls (x:XO) (lo hi:Option XO)
  | cs (f:Nat) (p:List Bool) (ars:List XO)
  | cl (f:XO) (ars:List XO)
  | gen (op:Op)
structure Tabs (P:Program) where
  ty:Nat → Option (Bool × Nat × List BV)
  pl:Nat → Option (List (Nat × Nat) × List BV)
  el:Nat → Option (Nat × Nat)
  ud:Nat → Option TypeDesc
  tyH:∀ {t r},ty t = some r → pi P t = some r
  plH:∀ {t r},pl t = some r → jku P t = some r
  elH:∀ {t r},el t = some r → u9 P t = some r
  udH:∀ {t r},ud t = some r → P.underlying t = some r
def fj {P:Program} (tb:Tabs P):Op → XI
  | .move x=>.mv (xo loc x)
  | .assign x=>.mv (xo loc x)
  | .pick c a b=>.pick (xo loc c) (xo loc a) (xo loc b)
  | .binOp f t x y ty=>.bin f (xo loc x) (xo loc y) (.binOp f t x y ty)
  | .unOp f t x=>match f with
    | .not=>.not (xo loc x)
    | _=>.gen (.unOp f t x)
  | .index t x i=>match tb.ud t with
    | some .string=>.idx (xo loc x) (xo loc i) (.index t x i)
    | _=>.gen (.index t x i)
  | .fieldAddr s x f=>match tb.pl s with
    | some (pl,_)=>match pl[f]? with
      | some (o,sz)=>if sz = 0 then .gen (.fieldAddr s x f) else .fa o (xo loc x)
      | none=>.gen (.fieldAddr s x f)
    | none=>.gen (.fieldAddr s x f)
  | .indexAddr t x i=>match tb.el t with
    | some (_,sz)=>.ia sz (xo loc x) (xo loc i)
    | none=>.gen (.indexAddr t x i)
  | .load t x=>match tb.ty t with
    | some (ag,sz,_)=>.ld ag sz (xo loc x)
    | none=>.gen (.load t x)
  | .nilCheck x=>.nc (xo loc x)
  | .extract x i=>.ex (xo loc x) i
  | .store t x v=>match tb.ty t with
    | some (_,sz,_)=>.st sz (xo loc x) (xo loc v)
    | none=>.gen (.store t x v)
  | .call c=>match c.callee with
    | .value (.func f)=>.cs f (bits f) (c.args.toList.map (xo loc))
    | .value f=>.cl (xo loc f) (c.args.toList.map (xo loc))
    | .builtin .len=>match c.args.toList,c.argTypes.toList with
      | [x],[t]=>match tb.ud t,tb.el t with
        | some .string,_=>.lens (xo loc x)
        | _,some _=>.lenr (xo loc x)
        | _,_=>.gen (.call c)
      | _,_=>.gen (.call c)
    | _=>.gen (.call c)
  | .slice t x lo hi mx=>match mx,tb.ud t with
    | none,some .string=>.sls (xo loc x) (lo.map (xo loc)) (hi.map (xo loc))
    | _,_=>.gen (.slice t x lo hi mx)
  | op=>.gen op
def eqU:List UInt8 → List UInt8 → Bool
  | [],[]=>true
  | a :: l,b :: m=>Nat.beq a.toNat b.toNat && eqU l m
  | _,_=>false
theorem jm7:∀ l m:List UInt8,eqU l m = decide (l = m)
  | [],[]=>rfl
  | [],b :: m=>by simp [eqU]
  | a :: l,[]=>by simp [eqU]
  | a :: l,b :: m=>by
    have:Nat.beq a.toNat b.toNat = decide (a = b):=by
      by_cases h:a = b
      · subst h;simp
      · rw [decide_eq_false h,Bool.eq_false_iff]
        intro e
        exact h (UInt8.toNat_inj.1 (Nat.eq_of_beq_eq_true e))
    rw [eqU,this,jm7 l m]
    by_cases h1:a = b <;> by_cases h2:l = m <;> simp [h1,h2]
def eqS (a b:ByteArray):Bool:=eqU a.data.toList b.data.toList
theorem jjp (a b:ByteArray):eqS a b = decide (a = b):=by
  rw [eqS,jm7]
  by_cases h:a = b
  · subst h;simp
  · rw [decide_eq_false h,decide_eq_false]
    intro e
    apply h
    cases a;cases b
    congr
    exact Array.ext' e
def jtf (a b:ByteArray):ByteArray:=⟨(a.data.toList ++ b.data.toList).toArray⟩
def jtg (s:ByteArray) (l h:Nat):ByteArray:=⟨((s.data.toList.drop l).take (h - l)).toArray⟩
def jkq (s:ByteArray):Nat:=s.data.toList.length
theorem jo2 (a b:ByteArray):jtf a b = a ++ b:=by
  apply ByteArray.ext
  simp [jtf]
theorem jo3 (s:ByteArray) (l h:Nat):jtg s l h = s.extract l h:=by
  apply ByteArray.ext
  apply Array.ext'
  simp [jtg]
theorem ja9 (s:ByteArray):jkq s = s.size:=rfl
def jba:IntKind → Nat
  | .i64=>1
  | .u8=>2
  | .i32=>3
  | _=>0
def jxh:Value → Option (Nat × Nat)
  | .int k (.ofNat n)=>some (jba k,n)
  | _=>none
def jbb:BV → Option (Nat × Nat)
  | .d (.flat v)=>jxh v
  | _=>none
def jxi:Value → Option ByteArray
  | .string s=>some s
  | _=>none
def zd:BV → Option ByteArray
  | .d (.flat v)=>jxi v
  | _=>none
def jru:Value → Option Bool
  | .bool t=>some t
  | _=>none
def p7:BV → Option Bool
  | .d (.flat v)=>jru v
  | _=>none
def yr:BV → Option (Nat × Nat)
  | .ptr id off=>some (id,off)
  | _=>none
def tw:BV → Option (List DV)
  | .eptr cs=>some cs
  | _=>none
def jkr:BV → Option (List BV)
  | .tup l=>some l
  | _=>none
def fnB:BV → Option (Nat × List BV)
  | .fn f l=>some (f,l)
  | _=>none
theorem yt {b:BV} {c n:Nat} (h:jbb b = some (c,n)):∃ k,b = .d (.flat (.int k (.ofNat n))) ∧ jba k = c:=by
  unfold jbb at h
  split at h
  · unfold jxh at h
    split at h
    · simp only [Option.some.injEq,Prod.mk.injEq] at h
      obtain ⟨rfl,rfl⟩:=h
      exact ⟨_,rfl,rfl⟩
    · cases h
  · cases h
theorem ur {b:BV} {s:ByteArray} (h:zd b = some s):b = .d (.flat (.string s)):=by
  unfold zd at h
  split at h
  · unfold jxi at h
    split at h
    · obtain rfl:=Option.some.inj h;rfl
    · cases h
  · cases h
theorem jbc {b:BV} {t:Bool} (h:p7 b = some t):b = .d (.flat (.bool t)):=by
  unfold p7 at h
  split at h
  · unfold jru at h
    split at h
    · obtain rfl:=Option.some.inj h;rfl
    · cases h
  · cases h
theorem jbd {b:BV} {id off:Nat} (h:yr b = some (id,off)):b = .ptr id off:=by
  unfold yr at h
  split at h
  · simp only [Option.some.injEq,Prod.mk.injEq] at h
    obtain ⟨rfl,rfl⟩:=h;rfl
  · cases h
theorem jbe {b:BV} {cs:List DV} (h:tw b = some cs):b = .eptr cs:=by
  unfold tw at h
  split at h
  · obtain rfl:=Option.some.inj h;rfl
  · cases h
theorem jo4 {b:BV} {l:List BV} (h:jkr b = some l):b = .tup l:=by
  unfold jkr at h
  split at h
  · obtain rfl:=Option.some.inj h;rfl
  · cases h
theorem jm8 {b:BV} {f:Nat} {l:List BV} (h:fnB b = some (f,l)):b = .fn f l:=by
  unfold fnB at h
  split at h
  · simp only [Option.some.injEq,Prod.mk.injEq] at h
    obtain ⟨rfl,rfl⟩:=h;rfl
  · cases h
theorem jjq {j k:IntKind} (h:jba j = jba k) (hn:jba j ≠ 0):j = k:=by
  cases j <;> cases k <;> first|rfl|(simp [jba] at h hn)
def vBo (t:Bool):Option BV:=some (.d (.flat (.bool t)))
def jyx (c a b:Nat):Option BV:=cond (Nat.beq c 1 && Nat.blt (a + b) 9223372036854775807) (some (.d (.flat (.int .i64 (.ofNat (a + b)))))) none
def jyy (c a b:Nat):Option BV:=cond (Nat.beq c 1 && (Nat.ble b a && Nat.blt a 9223372036854775807)) (some (.d (.flat (.int .i64 (.ofNat (a - b)))))) none
def jyz (c a b:Nat):Option BV:=vBo (Nat.ble (a + 1) b)
def jy0 (c a b:Nat):Option BV:=vBo (Nat.ble a b)
def jy1 (c a b:Nat):Option BV:=vBo (Nat.ble (b + 1) a)
def jy2 (c a b:Nat):Option BV:=vBo (Nat.ble b a)
def jy3 (c a b:Nat):Option BV:=vBo (Nat.beq a b)
def jy4 (c a b:Nat):Option BV:=vBo (!(Nat.beq a b))
def noX (c a b:Nat):Option BV:=none
def jv3:BinOp → Nat → Nat → Nat → Option BV
  | .add=>jyx
  | .sub=>jyy
  | .lss=>jyz
  | .leq=>jy0
  | .gtr=>jy1
  | .geq=>jy2
  | .eql=>jy3
  | .neq=>jy4
  | _=>noX
def jxj (a b:ByteArray):Option BV:=vBo (eqS a b)
def jxk (a b:ByteArray):Option BV:=vBo (!(eqS a b))
def jrv (a b:ByteArray):Option BV:=cond (Nat.ble (jkq a + jkq b) 9223372036854775807) (some (.d (.flat (.string (jtf a b))))) none
def jxl (a b:ByteArray):Option BV:=none
def jqb:BinOp → ByteArray → ByteArray → Option BV
  | .eql=>jxj
  | .neq=>jxk
  | .add=>jrv
  | _=>jxl
def jqc (f:BinOp) (a b:BV):Option BV :=
  match jbb a with
  | some (c,m)=>match jbb b with
    | some (d,n)=>cond (Nat.beq c d && !(Nat.beq c 0)) (jv3 f c m n) none
    | none=>none
  | none=>match zd a with
    | some s=>match zd b with
      | some t=>jqb f s t
      | none=>none
    | none=>none
def jrw (a b:BV):Option BV :=
  match zd a with
  | some s=>match jbb b with
    | some (_,i)=>match s.data.toList[i]? with
      | some u=>some (.d (.flat (.int .u8 (.ofNat u.toNat))))
      | none=>none
    | none=>none
  | none=>none
def jlt (r:RT) (d:Nat):Option XO → Option Nat
  | none=>some d
  | some o=>match evX r o with
    | some b=>match jbb b with
      | some (_,n)=>some n
      | none=>none
    | none=>none
def jth (s:ByteArray) (l h:Nat):Option BV:=cond (Nat.ble l h && Nat.ble h (jkq s)) (some (.d (.flat (.string (jtg s l h))))) none
def jhu (ag:Bool) (sz off:Nat) (cs:List BV):Option BV:=cond (!ag && Nat.beq sz 1) (cs[off]?) (part ag sz off cs)
def stV (P:Program) (st:St) (r:RT):XI → Option BV
  | .mv x=>evX r x
  | .pick c a b=>match evX r c with
    | some v=>match p7 v with
      | some t=>cond t (evX r a) (evX r b)
      | none=>none
    | none=>none
  | .bin f x y op=>match evX r x with
    | some a=>match evX r y with
      | some b=>match jqc f a b with
        | some v=>some v
        | none=>bn P st (rgx loc r) op
      | none=>none
    | none=>none
  | .not x=>match evX r x with
    | some b=>match p7 b with
      | some t=>some (.d (.flat (.bool (!t))))
      | none=>none
    | none=>none
  | .idx x i op=>match evX r x with
    | some a=>match evX r i with
      | some b=>match jrw a b with
        | some v=>some v
        | none=>bn P st (rgx loc r) op
      | none=>none
    | none=>none
  | .fa o x=>match evX r x with
    | some b=>match yr b with
      | some (id,off)=>some (.ptr id (off + o))
      | none=>match tw b with
        | some cs=>some (.eptr (cs.drop o))
        | none=>none
    | none=>none
  | .ia sz x i=>match evX r x with
    | some a=>match evX r i with
      | some b=>match mg a with
        | some (cs,n)=>match jbb b with
          | some (_,j)=>cond (Nat.ble (j + 1) n) (some (.eptr ((cs.drop (j * sz)).take sz))) none
          | none=>none
        | none=>none
      | none=>none
    | none=>none
  | .ld ag sz x=>match evX r x with
    | some b=>match yr b with
      | some (id,off)=>match st.S[id]? with
        | some (cs,_)=>jhu ag sz off cs
        | none=>none
      | none=>match tw b with
        | some cs=>jhu ag sz 0 (cs.map .d)
        | none=>none
    | none=>none
  | .nc x=>match evX r x with
    | some b=>match yr b with
      | some _=>some b
      | none=>match tw b with
        | some _=>some b
        | none=>match fnB b with
          | some _=>some b
          | none=>none
    | none=>none
  | .ex x i=>match evX r x with
    | some b=>match jkr b with
      | some l=>l[i]?
      | none=>none
    | none=>none
  | .lens x=>match evX r x with
    | some b=>match zd b with
      | some s=>some (.d (.flat (.int .i64 (.ofNat (jkq s)))))
      | none=>none
    | none=>none
  | .lenr x=>match evX r x with
    | some b=>match mg b with
      | some (_,n)=>some (.d (.flat (.int .i64 (.ofNat n))))
      | none=>none
    | none=>none
  | .sls x lo hi=>match evX r x with
    | some b=>match zd b with
      | some s=>match jlt r 0 lo with
        | some l=>match jlt r (jkq s) hi with
          | some h=>jth s l h
          | none=>none
        | none=>none
      | none=>none
    | none=>none
  | .gen op=>bn P st (rgx loc r) op
  | .st _ _ _=>none
  | .cs _ _ _=>none
  | .cl _ _=>none
theorem jjr {ag:Bool} {sz off:Nat} {cs:List BV} {b:BV} (h:jhu ag sz off cs = some b):part ag sz off cs = some b:=by
  unfold jhu at h
  cases ag
  · rcases qq sz 1 with ⟨h1,rfl⟩|⟨h1,_⟩
    · rw [h1] at h
      simp only [Bool.not_false,Bool.and_self,cond_true] at h
      have hlt:=(List.getElem?_eq_some_iff.1 h).1
      unfold part
      rw [if_pos (by omega),if_neg (by decide)]
      have:(cs.drop off).take 1 = [b]:=by
        rw [List.drop_eq_getElem_cons hlt]
        simp only [List.take_succ_cons,List.take_zero]
        rw [(List.getElem?_eq_some_iff.1 h).2]
      rw [this]
    · rw [h1] at h
      exact h
  · exact h
theorem ut {ρ:Rg} {o:Operand} {v:Value} (h:evB ρ o = some (.d (.flat v))):fl ρ o = some v:=by
  rw [fl,h];rfl
theorem jr (n:Nat):Int.ofNat n =(n:Int):=rfl
theorem pd {c:Bool} {x:Option BV} {v:BV} (h:cond c x none = some v):c = true ∧ x = some v:=by
  cases c
  · cases h
  · exact ⟨rfl,h⟩
theorem jlu {P:Program} {st:St} {ρ:Rg} {f:BinOp} {t ty:Nat} {x y:Operand} {a b v:BV} (hx:evB ρ x = some a) (hy:evB ρ y = some b) (h:jqc f a b = some v):bn P st ρ (.binOp f t x y ty) = some v:=by
  unfold jqc at h
  split at h
  · rename_i c m ha
    split at h
    · rename_i d n hb
      obtain ⟨hcd,h⟩:=pd h
      rw [Bool.and_eq_true,Bool.not_eq_true'] at hcd
      obtain ⟨k,rfl,hk⟩:=yt ha
      obtain ⟨k',rfl,hk'⟩:=yt hb
      have e:=Nat.eq_of_beq_eq_true hcd.1
      have hne:jba k ≠ 0:=by
        rw [hk]
        intro e0
        rw [e0] at hcd
        exact absurd hcd.2 (by decide)
      obtain rfl:=jjq (hk.trans (e.trans hk'.symm)) hne
      have g1:=ut hx
      have g2:=ut hy
      have one:∀ {c:Nat} {q:Bool},jba k = c →(Nat.beq c 1 && q) = true → k = .i64 ∧ q = true:=fun {c q} hc hq=>by
        rw [Bool.and_eq_true] at hq
        have:=Nat.eq_of_beq_eq_true hq.1
        refine ⟨?_,hq.2⟩
        subst hc
        revert this
        cases k <;> simp [jba]
      unfold jv3 at h
      split at h
      · obtain ⟨h1,h⟩:=pd h
        obtain ⟨rfl,h1⟩:=one hk h1
        obtain rfl:=Option.some.inj h
        have:=Nat.le_of_ble_eq_true h1
        exact az g1 g2 rfl ⟨by simp only [jr];omega,by simp only [jr];omega⟩
      · obtain ⟨h1,h⟩:=pd h
        obtain ⟨rfl,h1⟩:=one hk h1
        obtain rfl:=Option.some.inj h
        rw [Bool.and_eq_true] at h1
        have e1:=Nat.le_of_ble_eq_true h1.1
        have e2:=Nat.le_of_ble_eq_true h1.2
        exact ei g1 g2 (by simp only [jr];omega) ⟨by simp only [jr];omega,by simp only [jr];omega⟩
      · obtain rfl:=Option.some.inj h
        rw [cu g1 g2];congr;rw [Bool.eq_iff_iff];simp [Nat.lt_iff_add_one_le]
      · obtain rfl:=Option.some.inj h
        rw [mj g1 g2];congr;rw [Bool.eq_iff_iff];simp
      · obtain rfl:=Option.some.inj h
        rw [gj g1 g2];congr;rw [Bool.eq_iff_iff];simp [Nat.lt_iff_add_one_le]
      · obtain rfl:=Option.some.inj h
        rw [ep g1 g2];congr;rw [Bool.eq_iff_iff];simp
      · obtain rfl:=Option.some.inj h
        rw [dq g1 g2];congr;rw [Bool.eq_iff_iff];simp only [decide_eq_true_eq,Nat.beq_eq,jr,beq_iff_eq];omega
      · obtain rfl:=Option.some.inj h
        rw [fb g1 g2];congr
        rcases qq m n with ⟨h1,rfl⟩|⟨h1,hne⟩
        · rw [h1];simp
        · rw [h1]
          simp only [jr,Bool.not_false,decide_eq_true_eq]
          omega
      · cases h
    · cases h
  · split at h
    · rename_i s ha
      split at h
      · rename_i u hb
        obtain rfl:=ur ha
        obtain rfl:=ur hb
        unfold jqb at h
        split at h
        · obtain rfl:=Option.some.inj h
          rw [du (ut hx) (ut hy),jjp]
        · obtain rfl:=Option.some.inj h
          rw [fy (ut hx) (ut hy),jjp]
          congr 6
          simp
        · obtain ⟨hlt,h⟩:=pd h
          obtain rfl:=Option.some.inj h
          have:=Nat.le_of_ble_eq_true hlt
          rw [ja9,ja9] at this
          rw [kr (ut hx) (ut hy) this,jo2]
        · cases h
      · cases h
    · cases h
def jti (ok:Nat → Bool) (st:St) (sz id off:Nat) (b:BV):Option (St × Option BV) :=
  match st.S[id]? with
  | some (cs,ty)=>cond (ok id && (f6 b && (Nat.beq (dh b).length sz && Nat.ble (off + sz) cs.length))) (some (⟨st.S.set id (mi off (dh b) cs,ty),st.T,st.M⟩,none)) none
  | none=>none
def stW (P:Program) (ok:Nat → Bool) (st:St) (r:RT):XI → Option (St × Option BV)
  | .st sz x v=>match evX r x with
    | some a=>match yr a with
      | some (id,off)=>match evX r v with
        | some b=>jti ok st sz id off b
        | none=>none
      | none=>none
    | none=>none
  | .gen op=>match bn P st (rgx loc r) op with
    | some b=>some (st,some b)
    | none=>db P ok st (rgx loc r) op
  | i=>match stV loc P st r i with
    | some b=>some (st,some b)
    | none=>none
theorem jm9 {ρ:Rg} {r:RT} (hρ:rgx loc r = ρ) {d k:Nat} {o:Option Operand} (h:jlt r d (o.map (xo loc)) = some k):∃ v,flO ρ o = some v ∧((v = none ∧ k = d) ∨ ∃ kd n,v = some (.int kd n) ∧ 0 ≤ n ∧ k = n.toNat):=by
  cases o with
  | none =>
    obtain rfl:=Option.some.inj h
    exact ⟨none,rfl,.inl ⟨rfl,rfl⟩⟩
  | some o =>
    simp only [Option.map_some,jlt,gq,hρ] at h
    split at h
    · rename_i b hb
      split at h
      · rename_i c n hn
        obtain rfl:=Option.some.inj h
        obtain ⟨kd,rfl,_⟩:=yt hn
        exact ⟨some (.int kd (.ofNat n)),by simp only [flO,ut hb,Option.map_some],.inr ⟨kd,_,rfl,by simp only [jr];omega,by simp⟩⟩
      · cases h
    · cases h
theorem jbf {P:Program} (tb:Tabs P) {st:St} {r:RT} {op:Op} {b:BV} (h:stV loc P st r (fj loc tb op) = some b):bn P st (rgx loc r) op = some b:=by
  have gen:∀ op,stV loc P st r (.gen op) = some b → bn P st (rgx loc r) op = some b:=fun op h=>h
  cases op with
  | move x=>exact bl (by simpa only [fj,stV,gq] using h)
  | assign x=>exact bg (by simpa only [fj,stV,gq] using h)
  | pick c a d =>
    simp only [fj,stV,gq] at h
    split at h
    · rename_i v hc
      split at h
      · rename_i t ht
        obtain rfl:=jbc ht
        cases t
        · rw [bu hc h]
        · rw [ca hc h]
      · cases h
    · cases h
  | binOp f t x y ty =>
    simp only [fj,stV,gq] at h
    split at h
    · rename_i a ha
      split at h
      · rename_i c hc
        split at h
        · rename_i v hv
          obtain rfl:=Option.some.inj h
          exact jlu ha hc hv
        · exact h
      · cases h
    · cases h
  | unOp f t x =>
    cases f with
    | not =>
      simp only [fj,stV,gq] at h
      split at h
      · rename_i v hv
        split at h
        · rename_i c hc
          obtain rfl:=Option.some.inj h
          obtain rfl:=jbc hc
          exact cg (ut hv)
        · cases h
      · cases h
    | _=>exact gen _ h
  | index t x i =>
    simp only [fj] at h
    split at h
    · rename_i hu
      simp only [stV,gq] at h
      split at h
      · rename_i a ha
        split at h
        · rename_i c hc
          split at h
          · rename_i v hv
            obtain rfl:=Option.some.inj h
            unfold jrw at hv
            split at hv
            · rename_i s hs
              split at hv
              · rename_i d i hi
                split at hv
                · rename_i u hu'
                  obtain rfl:=Option.some.inj hv
                  obtain rfl:=ur hs
                  obtain ⟨k,rfl,_⟩:=yt hi
                  exact jmp (tb.udH hu) (ut ha) (ut hc) (by simp only [jr];omega) (by simpa using hu')
                · cases hv
              · cases hv
            · cases hv
          · exact h
        · cases h
      · cases h
    · exact gen _ h
  | fieldAddr s x f =>
    simp only [fj] at h
    split at h
    · rename_i pl z hp
      split at h
      · rename_i o sz hf
        split at h
        · exact gen _ h
        · rename_i hz
          simp only [stV,gq] at h
          split at h
          · rename_i v hx
            split at h
            · rename_i id off hv
              obtain rfl:=jbd hv
              obtain rfl:=Option.some.inj h
              exact cb (tb.plH hp) hx hf hz
            · split at h
              · rename_i cs hv
                obtain rfl:=jbe hv
                obtain rfl:=Option.some.inj h
                exact fz (tb.plH hp) hx hf hz
              · cases h
          · cases h
      · exact gen _ h
    · exact gen _ h
  | indexAddr t x i =>
    simp only [fj] at h
    split at h
    · rename_i e sz he
      simp only [stV,gq] at h
      split at h
      · rename_i c hx
        split at h
        · rename_i v hi
          split at h
          · rename_i cs n hr
            split at h
            · rename_i d j hj
              obtain ⟨k,rfl,_⟩:=yt hj
              obtain ⟨hlt,h⟩:=pd h
              obtain rfl:=Option.some.inj h
              have:=Nat.le_of_ble_eq_true hlt
              exact jtx (tb.elH he) hx hr (ut hi) ⟨by simp only [jr];omega,by simp only [jr];omega⟩
            · cases h
          · cases h
        · cases h
      · cases h
    · exact gen _ h
  | load t x =>
    simp only [fj] at h
    split at h
    · rename_i ag sz z ht
      simp only [stV,gq] at h
      split at h
      · rename_i v hx
        split at h
        · rename_i id off hv
          obtain rfl:=jbd hv
          split at h
          · rename_i cs ty hs
            exact bz (tb.tyH ht) hx hs (jjr h)
          · cases h
        · split at h
          · rename_i cs hv
            obtain rfl:=jbe hv
            exact ef (tb.tyH ht) hx (jjr h)
          · cases h
      · cases h
    · exact gen _ h
  | nilCheck x =>
    simp only [fj,stV,gq] at h
    split at h
    · rename_i v hx
      split at h
      · rename_i q hv
        obtain ⟨id,off⟩:=q
        obtain rfl:=jbd hv
        obtain rfl:=Option.some.inj h
        exact ck hx
      · split at h
        · rename_i cs hv
          obtain rfl:=jbe hv
          obtain rfl:=Option.some.inj h
          exact jeb hx
        · split at h
          · rename_i q hv
            obtain ⟨f,l⟩:=q
            obtain rfl:=jm8 hv
            obtain rfl:=Option.some.inj h
            exact jec hx
          · cases h
    · cases h
  | extract x i =>
    simp only [fj,stV,gq] at h
    split at h
    · rename_i v hx
      split at h
      · rename_i l hv
        obtain rfl:=jo4 hv
        exact eu hx h
      · cases h
    · cases h
  | store t x v =>
    simp only [fj] at h
    split at h
    · cases h
    · exact gen _ h
  | call c =>
    simp only [fj] at h
    split at h
    · cases h
    · cases h
    · rename_i hce
      split at h
      · rename_i x t ha ht
        have hc:c = { callee:=.builtin .len,args:=#[x],argTypes:=#[t] }:=by
          obtain ⟨ce,ar,at'⟩:=c
          simp only at hce ha ht
          subst hce
          congr
          · exact Array.ext' ha
          · exact Array.ext' ht
        rw [hc]
        split at h
        · rename_i hu
          simp only [stV,gq] at h
          split at h
          · rename_i v hv
            split at h
            · rename_i s hs
              obtain rfl:=ur hs
              obtain rfl:=Option.some.inj h
              exact fx (tb.udH hu) hv
            · cases h
          · cases h
        · rename_i el he _
          obtain ⟨e,sz⟩:=el
          simp only [stV,gq] at h
          split at h
          · rename_i b hb
            split at h
            · rename_i cs n hr
              obtain rfl:=Option.some.inj h
              exact bq (tb.elH he) hb hr
            · cases h
          · cases h
        · rw [← hc];exact gen _ h
      · exact gen _ h
    · exact gen _ h
  | slice t x lo hi mx =>
    simp only [fj] at h
    split at h
    · rename_i hu
      simp only [stV,gq] at h
      split at h
      · rename_i v hv
        split at h
        · rename_i s hs
          obtain rfl:=ur hs
          split at h
          · rename_i l hl
            split at h
            · rename_i hh hhh
              unfold jth at h
              obtain ⟨hc,h⟩:=pd h
              obtain rfl:=Option.some.inj h
              rw [Bool.and_eq_true] at hc
              have h1:=Nat.le_of_ble_eq_true hc.1
              have h2:=Nat.le_of_ble_eq_true hc.2
              rw [ja9] at h2
              obtain ⟨v1,e1,g1⟩:=jm9 loc rfl hl
              obtain ⟨v2,e2,g2⟩:=jm9 loc rfl hhh
              rw [ja9] at g2
              rw [jo3]
              exact ug (tb.udH hu) hv e1 e2 g1 g2 h1 h2
            · cases h
          · cases h
        · cases h
      · cases h
    · exact gen _ h
  | _=>exact gen _ h
theorem jjs {P:Program} (tb:Tabs P) {ok:Nat → Bool} {st st':St} {r:RT} {op:Op} {b:Option BV} (h:stW loc P ok st r (fj loc tb op) = some (st',b)) :
    (∃ v,b = some v ∧ st' = st ∧ bn P st (rgx loc r) op = some v) ∨ db P ok st (rgx loc r) op = some (st',b):=by
  have gen:∀ op,stW loc P ok st r (.gen op) = some (st',b) →(∃ v,b = some v ∧ st' = st ∧ bn P st (rgx loc r) op = some v) ∨ db P ok st (rgx loc r) op = some (st',b):=fun op h=>by
    simp only [stW] at h
    split at h
    · rename_i v hv
      simp only [Option.some.injEq,Prod.mk.injEq] at h
      exact .inl ⟨v,h.2.symm,h.1.symm,hv⟩
    · exact .inr h
  have vv:∀ i,i = fj loc tb op →(∀ a c d,i ≠ .st a c d) →(∀ o,i ≠ .gen o) → stW loc P ok st r i = some (st',b) →(∃ v,b = some v ∧ st' = st ∧ bn P st (rgx loc r) op = some v) ∨ db P ok st (rgx loc r) op = some (st',b):=fun i hi h1 h2 h=>by
    have h3:(match stV loc P st r i with|some b=>some (st,some b)|none=>none) = some (st',b):=by
      cases i with
      | st a c d=>exact absurd rfl (h1 a c d)
      | gen o=>exact absurd rfl (h2 o)
      | _=>exact h
    split at h3
    · rename_i v hv
      simp only [Option.some.injEq,Prod.mk.injEq] at h3
      exact .inl ⟨v,h3.2.symm,h3.1.symm,jbf loc tb (hi ▸ hv)⟩
    · cases h3
  by_cases hst:∃ t x v,op = .store t x v
  · obtain ⟨t,x,v,rfl⟩:=hst
    simp only [fj] at h
    split at h
    · rename_i ag sz z ht
      simp only [stW,gq] at h
      split at h
      · rename_i a hx
        split at h
        · rename_i id off ha
          obtain rfl:=jbd ha
          split at h
          · rename_i c hv
            unfold jti at h
            split at h
            · rename_i cs ty hs
              cases hok:(ok id && (f6 c && (Nat.beq (dh c).length sz && Nat.ble (off + sz) cs.length)))
              · rw [hok] at h;cases h
              · rw [hok] at h
                simp only [Bool.and_eq_true] at hok
                obtain ⟨k1,k2,k3,k4⟩:=hok
                refine .inr ?_
                have k3:=Nat.eq_of_beq_eq_true k3
                have k4:=Nat.le_of_ble_eq_true k4
                simp only [db,hx,hv,tb.tyH ht,hs]
                rw [if_pos ⟨k1,k2,k3,k4⟩]
                exact h
            · cases h
          · cases h
        · cases h
      · cases h
    · exact gen _ h
  · by_cases hg:∃ o,fj loc tb op = .gen o
    · obtain ⟨o,ho⟩:=hg
      have:o = op:=by
        cases op <;> simp only [fj] at ho <;> first|(cases ho;done)|(injection ho with e;exact e.symm)|skip
        all_goals
          repeat' split at ho
          all_goals first|(cases ho;done)|(injection ho with e;exact e.symm)
      subst this
      rw [ho] at h
      exact gen _ h
    · refine vv _ rfl (fun a c d e=>?_) (fun o e=>hg ⟨o,e⟩) h
      apply hst
      cases op <;> simp only [fj] at e <;> first|(cases e;done)|(exact ⟨_,_,_,rfl⟩)|skip
      all_goals
        repeat' split at e
        all_goals cases e
end Go.Proofs.YtinffhimfoicdaaGreat.Calc
namespace Go.Proofs.YtinffhimfoicdaaGreat.Calc
open Go Go.RowKit
set_option linter.unusedVariables false
set_option linter.unusedSimpArgs false
variable (loc:Nat → Bool)
inductive XG where
  | yes
  | g (x:XO) (t:Bool)
  | bad
structure XP where
  d:XT
  g:XG
  i:XI
def jlv (ops:Array Oper):Option (Nat × Bool) → XG
  | none=>.yes
  | some (j,t)=>match (ops[j]?).bind (fun o:Oper=>o.dst) with
    | some d=>.g (xo loc (.tmp d)) t
    | none=>.bad
def gX (r:RT):XG → Option Bool
  | .yes=>some true
  | .g x t=>match evX r x with
    | some v=>match p7 v with
      | some b=>some (b == t)
      | none=>match jkr v with
        | some []=>some false
        | _=>none
    | none=>none
  | .bad=>none
theorem jo5 (ops:Array Oper) (r:RT) (g:Option (Nat × Bool)):gX r (jlv loc ops g) = gB ops (rgx loc r) g:=by
  cases g with
  | none=>rfl
  | some g =>
    obtain ⟨j,t⟩:=g
    simp only [jlv,gB]
    split
    · rename_i d hd
      rw [hd]
      simp only [gX,gq]
      show (match rgx loc r d with
        | some v=>_
        | none=>none) = _
      cases rgx loc r d with
      | none=>rfl
      | some v =>
        cases v with
        | d y=>cases y with
          | flat u=>cases u <;> rfl
          | _=>rfl
        | tup l=>cases l <;> rfl
        | _=>rfl
    · rename_i hd
      rw [hd]
      rfl
def jw {P:Program} (tb:Tabs P) (ops:Array Oper) (o:Oper):XP:=⟨xt loc o.dst,jlv loc ops o.guard,fj loc tb o.op⟩
def jo6:List BV → List Nat
  | []=>[]
  | .ptr id _ :: l=>id :: jo6 l
  | _ :: l=>jo6 l
def ky:List BV → List Nat
  | []=>[]
  | .ptr id _ :: l=>id :: ky l
  | .fn _ cap :: l=>jo6 cap ++ ky l
  | _ :: l=>ky l
abbrev e9:=Nat → List Bool → List BV → St → Option (BV × St)
def pw (P:Program) (call:e9):Prop:=∀ g ars st b st',call g (bits g) ars st = some (b,st') → ci P (ky ars) [] g ars st (fun r s=>r = b ∧ s = st') ∧ jdz P g = true ∧ st'.S.length = st.S.length ∧ st'.M.length = st.M.length
def jhv (ok:Nat → Bool) (call:e9) (st:St) (g:Nat) (p:List Bool) (vs:List BV):Option (St × Option BV) :=
  if (ky vs).all ok = true then (match call g p vs st with
    | some (b,st')=>some (st',some b)
    | none=>none) else none
def tz (P:Program) (ok:Nat → Bool) (call:e9) (r:RT) (st:St) (x:XI):Option (St × Option BV) :=
  match x with
  | .cs g p ars=>match je0 r ars with
    | some vs=>jhv ok call st g p (vs ++ [])
    | none=>none
  | .cl f ars=>match evX r f with
    | some v=>match fnB v with
      | some (g,cap)=>match je0 r ars with
        | some vs=>jhv ok call st g (bits g) (vs ++ cap)
        | none=>none
      | none=>none
    | none=>none
  | i=>stW loc P ok st r i
def putW (r:RT) (d:XT):Option BV → RT
  | some b=>qr r d b
  | none=>qr r d (.tup [])
def jd2 (P:Program) (ok:Nat → Bool) (call:e9) (x:XP) (r:RT) (st:St):Option (RT × St) :=
  match gX r x.g with
  | some true=>match tz loc P ok call r st x.i with
    | some (st',b)=>some (putW r x.d b,st')
    | none=>none
  | some false=>some (qr r x.d (.tup []),st)
  | none=>none
def jlw (P:Program) (ok:Nat → Bool) (call:e9):List XP → RT → St → Option (RT × St)
  | [],r,st=>some (r,st)
  | x :: l,r,st=>match jd2 loc P ok call x r st with
    | some (r',st')=>jlw P ok call l r' st'
    | none=>none
def jgr:XI → Bool
  | .cs _ _ _=>true
  | .cl _ _=>true
  | _=>false
theorem jgs {ok:Nat → Bool} {call:e9} {st st':St} {g:Nat} {p:List Bool} {vs:List BV} {b:Option BV} (h:jhv ok call st g p vs = some (st',b)):(ky vs).all ok = true ∧ ∃ v,b = some v ∧ call g p vs st = some (v,st'):=by
  unfold jhv at h
  split at h
  · rename_i hids
    split at h
    · rename_i v s hcall
      simp only [Option.some.injEq,Prod.mk.injEq] at h
      obtain ⟨rfl,rfl⟩:=h
      exact ⟨hids,v,rfl,hcall⟩
    · cases h
  · cases h
theorem jjt {ρ:Rg} {g:Nat}:evB ρ (.func g) = some (.fn g []):=rfl
theorem jju {P:Program} (tb:Tabs P) {ok:Nat → Bool} {call:e9} {op:Op} {r:RT} {st st':St} {b:Option BV} (hi:jgr (fj loc tb op) = true) (h:tz loc P ok call r st (fj loc tb op) = some (st',b)) :
    ∃ c g vs v,op = .call c ∧ np (rgx loc r) c = some (g,vs) ∧(ky vs).all ok = true ∧ b = some v ∧ call g (bits g) vs st = some (v,st'):=by
  cases op with
  | call c =>
    simp only [fj] at h hi
    split at h
    · rename_i g hce
      simp only [tz,pv] at h
      split at h
      · rename_i vs has
        obtain ⟨h1,v,h2,h3⟩:=jgs h
        exact ⟨c,g,vs ++ [],v,rfl,by simp only [np,hce,jjt,has],h1,h2,h3⟩
      · cases h
    · rename_i f _ hce
      simp only [tz,gq,pv] at h
      split at h
      · rename_i u hf
        split at h
        · rename_i g cap hu
          obtain rfl:=jm8 hu
          split at h
          · rename_i vs has
            obtain ⟨h1,v,h2,h3⟩:=jgs h
            exact ⟨c,g,vs ++ cap,v,rfl,by simp only [np,hce,hf,has],h1,h2,h3⟩
          · cases h
        · cases h
      · cases h
    · rename_i hce
      exfalso
      simp only [hce] at hi
      repeat' split at hi
      all_goals cases hi
    · rename_i h1 h2 h3
      exfalso
      split at hi
      · rename_i g hce;exact h1 g hce
      · rename_i f _ hce;exact h2 f hce
      · rename_i hce;exact h3 hce
      · cases hi
  | _ =>
    exfalso
    simp only [fj] at hi
    repeat' split at hi
    all_goals cases hi
theorem uu {P:Program} (tb:Tabs P) {ok okm:Nat → Bool} {call:e9} (hc:pw P call) {ops:Array Oper} {o:Oper} {r r':RT} {st st':St} (h:jd2 loc P ok call (jw loc tb ops o) r st = some (r',st')) :
    OpG P ok okm ops o (rgx loc r) st (fun ρ s=>ρ = rgx loc r' ∧ s = st'):=by
  unfold jd2 at h
  simp only [jw,jo5] at h
  split at h
  · rename_i hg
    split at h
    · rename_i s b hs
      simp only [Option.some.injEq,Prod.mk.injEq] at h
      obtain ⟨rfl,rfl⟩:=h
      refine .inl ⟨hg,?_⟩
      have norm:stW loc P ok st r (fj loc tb o.op) = some (s,b) → OpR P ok okm o (rgx loc r) st (fun ρ s'=>ρ = rgx loc (putW r (xt loc o.dst) b) ∧ s' = s):=fun hs=>by
        rcases jjs loc tb hs with ⟨v,rfl,rfl,hv⟩|hw
        · exact jnr v hv ⟨(gy loc _ _ _).symm,rfl⟩
        · cases b with
          | some v=>exact jkx s v hw ⟨(gy loc _ _ _).symm,rfl⟩
          | none=>exact jns s hw ⟨(gy loc _ _ _).symm,rfl⟩
      cases hcl:jgr (fj loc tb o.op)
      · have:tz loc P ok call r st (fj loc tb o.op) = stW loc P ok st r (fj loc tb o.op):=by
          cases hi:fj loc tb o.op with
          | cl f ars=>rw [hi] at hcl;cases hcl
          | cs f p ars=>rw [hi] at hcl;cases hcl
          | _=>rfl
        exact norm (this ▸ hs)
      · obtain ⟨c,g,vs,v,ho,hcb,hids,rfl,hcall⟩:=jju loc tb hcl hs
        obtain ⟨k1,k2,_⟩:=hc _ _ _ _ _ hcall
        refine v8 c g vs _ [] _ ho hcb k2 k1 (fun i hi _=>List.all_eq_true.1 hids i hi) (by simp) (fun r0 s0 ⟨e1,e2⟩=>?_)
        subst e1 e2
        exact ⟨(gy loc _ _ _).symm,rfl⟩
    · cases h
  · rename_i hg
    simp only [Option.some.injEq,Prod.mk.injEq] at h
    obtain ⟨rfl,rfl⟩:=h
    exact .inr ⟨hg,(gy loc _ _ _).symm,rfl⟩
  · cases h
theorem jbg {P:Program} {ok okm:Nat → Bool} {ops:Array Oper} {o:Oper} {ρ:Rg} {st:St} {Q Q':Rg → St → Prop} (h:OpG P ok okm ops o ρ st Q) (hq:∀ ρ st,Q ρ st → Q' ρ st):OpG P ok okm ops o ρ st Q':=by
  rcases h with ⟨h1,h2⟩|⟨h1,h2⟩
  · exact .inl ⟨h1,jky h2 hq⟩
  · exact .inr ⟨h1,hq _ _ h2⟩
theorem jjv {C:Cx} {ops:Array Oper} {l:List Oper} {ρ:Rg} {st:St} {Q Q':Rg → St → Prop} (h:ew C ops l ρ st Q) (hq:∀ ρ st,Q ρ st → Q' ρ st):ew C ops l ρ st Q' :=
  fun d1 d2 x y a g1 g2 g3 g4 g5 g6 K hK=>h d1 d2 x y a g1 g2 g3 g4 g5 g6 K (fun ρ' z a' hq'=>hK ρ' z a' (hq _ _ hq'))
theorem z8 {C:Cx} (tb:Tabs C.P) {call:e9} (hc:pw C.P call) {ops:Array Oper}:∀(l:List Oper) {r r':RT} {st st':St},jlw loc C.P (okC C) call (l.map (jw loc tb ops)) r st = some (r',st') →
    ew C ops l (rgx loc r) st (fun ρ s=>ρ = rgx loc r' ∧ s = st')
  | [],r,r',st,st',h=>by
    simp only [List.map_nil,jlw,Option.some.injEq,Prod.mk.injEq] at h
    obtain ⟨rfl,rfl⟩:=h
    exact ab ⟨rfl,rfl⟩
  | o :: l,r,r',st,st',h=>by
    simp only [List.map_cons,jlw] at h
    split at h
    · rename_i r1 st1 h1
      refine rk (jbg (uu loc tb hc h1) fun ρ s ⟨e1,e2⟩=>?_)
      subst e1 e2
      exact z8 tb hc l h
    · cases h
inductive MP where
  | nil
  | take (i:Nat) (p:MP)
  | one (i:Nat) (p:MP)
  | fl (A:List (Bool × Nat)) (j:Nat) (p:MP)
def z9:List (Bool × Nat) → Plan → Plan
  | [],q=>q
  |(true,a) :: A,q=>.take a (z9 A q)
  |(false,a) :: A,q=>.one a (z9 A q)
def vn (j:Nat):List (Bool × Nat) → Plan → Plan
  | [],q=>.one j q
  |(true,a) :: A,q=>.take a (vn j A q)
  |(false,a) :: A,q=>if a < j then .fork a (vn j A q) j (.one a (z9 A q)) else .fork j (.one a (z9 A q)) a (vn j A q)
def MP.toP:MP → Plan
  | .nil=>.nil
  | .take i p=>.take i p.toP
  | .one i p=>.one i p.toP
  | .fl A j p=>vn j A p.toP
structure XA where
  take:Bool
  wr:Bool
  x:XP
inductive XD where
  | st (a:XA)
  | fl (A:List XA) (j:XP)
def jbh (Wr:List Nat) (r:RT):XI → Bool
  | .ld _ _ x=>match evX r x with
    | some b=>match yr b with
      | some (id,_)=>!Wr.contains id
      | none=>true
    | none=>true
  | .gen op=>wl Wr (rgx loc r) op
  | _=>true
theorem jbi {P:Program} (tb:Tabs P) {Wr:List Nat} {r:RT} {op:Op} (h:jbh loc Wr r (fj loc tb op) = true):wl Wr (rgx loc r) op = true:=by
  cases op with
  | load t x =>
    simp only [fj] at h
    split at h
    · simp only [jbh,gq] at h
      show (match evB (rgx loc r) x with
        | some (.ptr id _)=>!Wr.contains id
        | _=>true) = true
      generalize evB (rgx loc r) x = q at h
      cases q with
      | none=>rfl
      | some v =>
        cases v with
        | ptr id off=>exact h
        | _=>rfl
    · exact h
  | _=>rfl
def yu (r:RT) (st:St):XI → Bool
  | .cs _ _ ars=>match je0 r ars with
    | some vs=>q9 st.S.length st.T.length (vs ++ [])
    | none=>false
  | .cl f ars=>match evX r f,je0 r ars with
    | some (.fn g cap),some vs=>q9 st.S.length st.T.length (vs ++ cap)
    | _,_=>false
  | _=>false
def jbj (P:Program) (ok:Nat → Bool) (Wr:List Nat) (call:e9):List XA → RT → St → Option (RT × St)
  | [],r,st=>some (r,st)
  | ⟨true,_,x⟩ :: l,r,st=>match stV loc P st r x.i with
    | some b=>jbj P ok Wr call l (qr r x.d b) st
    | none=>none
  | ⟨false,w,x⟩ :: l,r,st=>match jrt st && yu r st x.i,jd2 loc P (fun i=>ok i && (w || Wr.contains i)) call x r st with
    | true,some (r',st')=>if Nat.beq st'.T.length st.T.length = true then jbj P ok Wr call l r' st' else none
    | _,_=>none
def je1 (P:Program) (ok:Nat → Bool) (Wr:List Nat) (call:e9):List XD → RT → St → Option (RT × St)
  | [],r,st=>some (r,st)
  | .st ⟨true,_,x⟩ :: l,r,st=>match gX r x.g with
    | some true=>if jbh loc Wr r x.i = true then (match stV loc P st r x.i with
      | some b=>je1 P ok Wr call l (qr r x.d b) st
      | none=>none) else none
    | some false=>je1 P ok Wr call l (qr r x.d (.tup [])) st
    | none=>none
  | .st ⟨false,w,x⟩ :: l,r,st=>match jd2 loc P (fun i=>ok i && (w || Wr.contains i)) call x r st with
    | some (r',st')=>je1 P ok Wr call l r' st'
    | none=>none
  | .fl A j :: l,r,st=>match jbj loc P ok Wr call A r st with
    | some (r1,st1)=>match stW loc P ok st1 r1 j.i with
      | some (st2,some b)=>je1 P ok Wr call l (qr r1 j.d b) st2
      | _=>none
    | none=>none
def noR (dj:Nat):XO → Bool
  | .l n=>!(n == dj)
  | .t n=>!(n == dj)
  | _=>true
def jqd:XT → Option Nat
  | .no=>none
  | .l n=>some n
  | .t n=>some n
def rx (dj:Nat) (rd:List Nat) (a:XA):Bool :=
  (match a.x.g with
  | .yes=>true
  | _=>false) && (match jqd a.x.d with
  | some p=>!(p == dj) && !(rd.contains p)
  | none=>true) && (match a.take,a.x.i with
  | true,.mv o=>noR dj o
  | true,.ex o _=>noR dj o
  | false,.cs _ _ ars=>ars.all (noR dj)
  | false,.cl f ars=>noR dj f && ars.all (noR dj)
  | _,_=>false)
def jhw (o:Oper):Bool:=o.guard.isNone && (match o.op with
  | .alloc _=>true
  | .buildSlice _ _ _=>true
  | _=>false)
def jxm (op:Op):List Nat:=op.operands.toList.filterMap fun o=>match o with
  | .tmp t=>some t
  | _=>none
def jdj {P:Program} (tb:Tabs P) (ops:Array Oper) (ds:List Nat):List (Bool × Nat) → Option (List XA)
  | []=>some []
  |(t,a) :: A=>match ops[a]?,jdj tb ops ds A with
    | some o,some l=>some (⟨t,ds.contains a,jw loc tb ops o⟩ :: l)
    | _,_=>none
def jdk {P:Program} (tb:Tabs P) (ops:Array Oper) (ds:List Nat):MP → Option (List XD)
  | .nil=>some []
  | .take i p=>match ops[i]?,jdk tb ops ds p with
    | some o,some l=>some (.st ⟨true,ds.contains i,jw loc tb ops o⟩ :: l)
    | _,_=>none
  | .one i p=>match ops[i]?,jdk tb ops ds p with
    | some o,some l=>some (.st ⟨false,ds.contains i,jw loc tb ops o⟩ :: l)
    | _,_=>none
  | .fl A j p=>match ops[j]?,jdj loc tb ops ds A,jdk tb ops ds p with
    | some o,some a,some l=>match o.dst with
      | some d=>if (jhw o && a.all (rx d (jxm o.op))) = true then some (.fl a (jw loc tb ops o) :: l) else none
      | none=>none
    | _,_,_=>none
theorem je2 {nb nt:Nat}:∀ {l:List BV},q9 nb nt l = true → ∀ i ∈ jo6 l,i < nb
  | [],h,i,hi=>by simp [jo6] at hi
  | b :: l,h,i,hi=>by
    rw [q9,Bool.and_eq_true] at h
    cases b <;> simp only [jo6,List.mem_cons] at hi <;> first
      | exact je2 h.2 i hi
      | (rcases hi with rfl | hi
         · have:=h.1;rw [okB] at this;exact tv this
         · exact je2 h.2 i hi)
theorem jbk {nb nt:Nat}:∀ {l:List BV},q9 nb nt l = true → ∀ i ∈ ky l,i < nb
  | [],h,i,hi=>by simp [ky] at hi
  | b :: l,h,i,hi=>by
    rw [q9,Bool.and_eq_true] at h
    cases b <;> simp only [ky,List.mem_cons,List.mem_append] at hi <;> first
      | exact jbk h.2 i hi
      | (rcases hi with rfl | hi
         · have:=h.1;rw [okB] at this;exact tv this
         · exact jbk h.2 i hi)
      | (rcases hi with hi | hi
         · have:=h.1;rw [okB] at this;exact je2 this i hi
         · exact jbk h.2 i hi)
theorem jbl {r:RT} {d:XT} {b:BV} {o:XO} {dj:Nat} (hd:∀ n,jqd d = some n → n = dj) (h:noR dj o = true):evX (qr r d b) o = evX r o:=by
  cases d with
  | no=>rfl
  | l n =>
    obtain rfl:=hd n rfl
    cases o with
    | l m =>
      simp only [noR,Bool.not_eq_true',beq_eq_false_iff_ne] at h
      simp only [evX,qr,ja8,if_neg h]
    | _=>rfl
  | t n =>
    obtain rfl:=hd n rfl
    cases o with
    | t m =>
      simp only [noR,Bool.not_eq_true',beq_eq_false_iff_ne] at h
      simp only [evX,qr,f5,if_neg h]
    | _=>rfl
theorem jbm {r:RT} {d:XT} {b:BV} {dj:Nat} (hd:∀ n,jqd d = some n → n = dj):∀ {l:List XO},l.all (noR dj) = true → je0 (qr r d b) l = je0 r l
  | [],h=>rfl
  | o :: l,h=>by
    simp only [List.all_cons,Bool.and_eq_true] at h
    simp only [je0,jbl hd h.1,jbm hd h.2]
theorem jgt {d:Option Nat}:jqd (xt loc d) = d:=by
  cases d with
  | none=>rfl
  | some d=>simp only [xt];cases loc d <;> rfl
theorem jgu {r:RT} {d:Option Nat} {dj:Nat} {b c:BV} (h:d ≠ some dj):rgx loc (qr (qr r (xt loc (some dj)) c) (xt loc d) b) = rgx loc (qr (qr r (xt loc d) b) (xt loc (some dj)) c):=by
  rw [gy,gy,gy,gy]
  cases d with
  | none=>rfl
  | some d =>
    funext t
    simp only [ke,upd]
    by_cases h1:t = d
    · subst h1
      rw [if_pos rfl,if_neg (fun e=>h (by rw [e])),if_pos rfl]
    · rw [if_neg h1]
      by_cases h2:t = dj
      · rw [if_pos h2,if_pos h2]
      · rw [if_neg h2,if_neg h2,if_neg h1]
theorem jgv {P:Program} (tb:Tabs P) {ok:Nat → Bool} {call:e9} {ops:Array Oper} {o:Oper} {r r':RT} {st st':St} (hg:(jw loc tb ops o).g = .yes) (hi:jgr (fj loc tb o.op) = true) (h:jd2 loc P ok call (jw loc tb ops o) r st = some (r',st')) :
    ∃ c g vs v,o.op = .call c ∧ np (rgx loc r) c = some (g,vs) ∧(ky vs).all ok = true ∧ call g (bits g) vs st = some (v,st') ∧ r' = qr r (xt loc o.dst) v:=by
  unfold jd2 at h
  rw [hg] at h
  simp only [gX] at h
  split at h
  · rename_i s b hs
    simp only [Option.some.injEq,Prod.mk.injEq] at h
    obtain ⟨rfl,rfl⟩:=h
    obtain ⟨c,g,vs,v,h1,h2,h3,rfl,h4⟩:=jju loc tb hi hs
    exact ⟨c,g,vs,v,h1,h2,h3,h4,rfl⟩
  · cases h
theorem jdl {dj:Nat} {rd:List Nat} {w:Bool} {x:XP} (h:rx dj rd ⟨false,w,x⟩ = true):jgr x.i = true:=by
  simp only [rx,Bool.and_eq_true] at h
  have:=h.2
  split at this
  · rename_i e _;cases e
  · rename_i e _;cases e
  · rename_i e;rw [e];rfl
  · rename_i e;rw [e];rfl
  · cases this
theorem jbn {dj:Nat} {rd:List Nat} {a:XA} (h:rx dj rd a = true):a.x.g = .yes:=by
  simp only [rx,Bool.and_eq_true] at h
  have:=h.1.1
  split at this
  · assumption
  · cases this
theorem uv {P:Program} (tb:Tabs P) {ok:Nat → Bool} {Wr:List Nat} {call:e9} (hc:pw P call) {ops:Array Oper} {ds:List Nat} {dj:Nat} {rd:List Nat}:∀ {A:List (Bool × Nat)} {l:List XA} {r r1:RT} {st st1:St},jdj loc tb ops ds A = some l → l.all (rx dj rd) = true → jbj loc P ok Wr call l r st = some (r1,st1) →
    st1.S.length = st.S.length ∧ st1.T.length = st.T.length ∧ ∀ t ∈ rd,rgx loc r1 t = rgx loc r t
  | [],l,r,r1,st,st1,hA,hn,h=>by
    obtain rfl:=Option.some.inj hA
    simp only [jbj,Option.some.injEq,Prod.mk.injEq] at h
    obtain ⟨rfl,rfl⟩:=h
    exact ⟨rfl,rfl,fun _ _=>rfl⟩
  |(t,a) :: A,l,r,r1,st,st1,hA,hn,h=>by
    rw [jdj] at hA
    split at hA
    case h_2=>cases hA
    rename_i o l' ho hl
    obtain rfl:=Option.some.inj hA
    simp only [List.all_cons,Bool.and_eq_true] at hn
    obtain ⟨hx,hn⟩:=hn
    have hput:∀ b t,t ∈ rd → rgx loc (qr r (xt loc o.dst) b) t = rgx loc r t:=fun b t ht=>by
      simp only [rx,Bool.and_eq_true,jw,jgt] at hx
      rw [gy]
      cases hd:o.dst with
      | none=>rfl
      | some q =>
        rw [hd] at hx
        simp only [ke,upd]
        rw [if_neg]
        rintro rfl
        have:=hx.1.2
        simp [ht] at this
    cases t with
    | true =>
      simp only [jbj] at h
      split at h
      · rename_i b hb
        obtain ⟨h1,h2,h3⟩:=uv tb hc hl hn h
        exact ⟨h1,h2,fun p hp=>(h3 p hp).trans (hput b p hp)⟩
      · cases h
    | false =>
      simp only [jbj] at h
      split at h
      · rename_i r' st' hin hone
        split at h
        case isFalse=>cases h
        rename_i hT
        have hT:=Nat.eq_of_beq_eq_true hT
        obtain ⟨h1,h2,h3⟩:=uv tb hc hl hn h
        obtain ⟨c,g,vs,b,_,_,_,hcall,rfl⟩:=jgv loc tb (jbn hx) (jdl hx) hone
        obtain ⟨_,_,k1,_⟩:=hc _ _ _ _ _ hcall
        exact ⟨h1.trans k1,h2.trans hT,fun p hp=>(h3 p hp).trans (hput b p hp)⟩
      · cases h
theorem jaa {ρ ρ':Rg} {place:Nat → Option (Nat × Nat)}:∀ {parts:List (Nat × Operand)} {cs:List BV},(∀ o ∈ parts,evB ρ' o.2 = evB ρ o.2) → nf ρ' place parts cs = nf ρ place parts cs
  | [],cs,h=>rfl
  |(i,o) :: parts,cs,h=>by
    simp only [nf,h (i,o) (List.mem_cons_self ..)]
    have ih:∀ cs,nf ρ' place parts cs = nf ρ place parts cs:=fun cs=>jaa fun o ho=>h o (List.mem_cons_of_mem _ ho)
    simp only [ih]
theorem jrx {P:Program} {ok:Nat → Bool} {st st':St} {ρ:Rg} {o:Oper} {b:Option BV} (hj:jhw o = true) (h:db P ok st ρ o.op = some (st',b)):∃ B U pj,st' = jex st B U [] ∧ b = some pj ∧
    ∀ ok' s ρ',s.S.length = st.S.length → s.T.length = st.T.length →(∀ q ∈ o.op.operands.toList,evB ρ' q = evB ρ q) → db P ok' s ρ' o.op = some (jex s B U [],some pj):=by
  simp only [jhw,Bool.and_eq_true] at hj
  have hj:=hj.2
  split at hj
  · rename_i e he
    rw [he] at h ⊢
    simp only [db] at h ⊢
    split at h
    · rename_i ag sz z ht
      simp only [Option.some.injEq,Prod.mk.injEq] at h
      obtain ⟨rfl,rfl⟩:=h
      refine ⟨[(z,e)],[],_,by simp [jex],rfl,fun ok' s ρ' h1 h2 h3=>?_⟩
      simp only [jex,List.append_nil,h1]
    · cases h
  · rename_i t len ps he
    rw [he] at h ⊢
    simp only [db] at h ⊢
    split at h
    · rename_i e sz hel
      split at h
      · rename_i ag sz' z ht
        split at h
        · rename_i hc
          split at h
          · rename_i ds hf
            split at h
            · rename_i h1
              simp only [Option.some.injEq,Prod.mk.injEq] at h
              obtain ⟨rfl,rfl⟩:=h
              refine ⟨[],[ds.length],_,by simp [jex],rfl,fun ok' s ρ' g1 g2 g3=>?_⟩
              have hfc:nf ρ' (fun i=>some (i * sz,sz)) ps.toList (jak len z) = nf ρ (fun i=>some (i * sz,sz)) ps.toList (jak len z):=jaa fun o ho=>g3 o.2 (by
                simp only [Op.operands]
                exact List.mem_map.2 ⟨o,ho,rfl⟩)
              rw [if_pos hc,hfc,hf]
              simp only [if_pos h1,jex,List.append_nil,g2]
            · cases h
          · cases h
        · cases h
      · cases h
    · cases h
  · cases hj
theorem jdm {P:Program} (tb:Tabs P) {c:Call} {r:RT} {dj:Nat} {pj:BV} {f:XO} {ars:List XO}
    (h:(∃ g,fj loc tb (.call c) = .cs g (bits g) ars ∧ c.callee = .value (.func g) ∧ ars = c.args.toList.map (xo loc) ∧ ars.all (noR dj) = true) ∨(∃ f',fj loc tb (.call c) = .cl f ars ∧ c.callee = .value f' ∧ f = xo loc f' ∧ ars = c.args.toList.map (xo loc) ∧(noR dj f && ars.all (noR dj)) = true)) :
    np (rgx loc (qr r (xt loc (some dj)) pj)) c = np (rgx loc r) c:=by
  have hd:∀ n,jqd (xt loc (some dj)) = some n → n = dj:=fun n hn=>by
    rw [jgt] at hn
    exact (Option.some.inj hn).symm
  rcases h with ⟨g,_,h1,h2,h3⟩|⟨f',_,h1,h2,h3,h4⟩
  · have e:jh4 (rgx loc (qr r (xt loc (some dj)) pj)) c.args.toList = jh4 (rgx loc r) c.args.toList:=by
      rw [← pv,← pv,← h2,jbm hd h3]
    simp only [np,h1,e,jjt]
  · rw [Bool.and_eq_true] at h4
    have e:jh4 (rgx loc (qr r (xt loc (some dj)) pj)) c.args.toList = jh4 (rgx loc r) c.args.toList:=by
      rw [← pv,← pv,← h3,jbm hd h4.2]
    have e2:evB (rgx loc (qr r (xt loc (some dj)) pj)) f' = evB (rgx loc r) f':=by
      rw [← gq,← gq,← h2,jbl hd h4.1]
    simp only [np,h1,e,e2]
theorem jlx {P:Program} (tb:Tabs P) {dj:Nat} {rd:List Nat} {w:Bool} {ops:Array Oper} {o:Oper} (h:rx dj rd ⟨false,w,jw loc tb ops o⟩ = true) {c:Call} (hop:o.op = .call c) {r:RT} {pj:BV} :
    np (rgx loc (qr r (xt loc (some dj)) pj)) c = np (rgx loc r) c:=by
  simp only [rx,Bool.and_eq_true] at h
  have h3:=h.2
  simp only [jw,hop] at h3
  simp only [fj] at h3
  split at h3
  · rename_i e _;cases e
  · rename_i e _;cases e
  · rename_i g p ars _ e
    split at e
    · rename_i g' hce
      injection e with e1 e2 e3
      subst e1 e3
      exact jdm loc tb (f:=.no) (ars:=c.args.toList.map (xo loc)) (.inl ⟨g',by simp only [fj,hce],hce,rfl,h3⟩)
    all_goals
      repeat' split at e
      all_goals cases e
  · rename_i f ars _ e
    split at e
    · cases e
    · rename_i f' hnf hce
      injection e with e1 e2
      subst e1 e2
      refine jdm loc tb (f:=xo loc f') (ars:=c.args.toList.map (xo loc)) (.inr ⟨f',?_,hce,rfl,rfl,h3⟩)
      simp only [fj,hce]
    all_goals
      repeat' split at e
      all_goals cases e
  · cases h3
theorem jo7 {P:Program} (tb:Tabs P) {c:Call} {r:RT} {st:St} {g:Nat} {vs:List BV} (hin:yu r st (fj loc tb (.call c)) = true) (hc:np (rgx loc r) c = some (g,vs)):q9 st.S.length st.T.length vs = true:=by
  simp only [fj] at hin
  split at hin
  · rename_i g' hce
    simp only [yu,pv] at hin
    simp only [np,hce,jjt] at hc
    split at hin
    · rename_i vs' has
      rw [has] at hc
      simp only [Option.some.injEq,Prod.mk.injEq] at hc
      rw [← hc.2]
      exact hin
    · cases hin
  · rename_i f _ hce
    simp only [yu,gq,pv] at hin
    simp only [np,hce] at hc
    split at hin
    · rename_i g' cap vs' hf has
      rw [hf,has] at hc
      simp only [Option.some.injEq,Prod.mk.injEq] at hc
      rw [← hc.2]
      exact hin
    · cases hin
  · exfalso
    repeat' split at hin
    all_goals cases hin
  · cases hin
theorem jdn {P:Program} (tb:Tabs P) {dj:Nat} {rd:List Nat} {w:Bool} {ops:Array Oper} {o:Oper} (h:rx dj rd ⟨true,w,jw loc tb ops o⟩ = true) {Wr:List Nat} {r:RT} {st st':St} {pj b:BV} (hb:stV loc P st r (fj loc tb o.op) = some b) :
    stV loc P st' (qr r (xt loc (some dj)) pj) (fj loc tb o.op) = some b ∧ ∀ r',jbh loc Wr r' (fj loc tb o.op) = true:=by
  have hd:∀ n,jqd (xt loc (some dj)) = some n → n = dj:=fun n hn=>by
    rw [jgt] at hn
    exact (Option.some.inj hn).symm
  simp only [rx,Bool.and_eq_true] at h
  have h3:=h.2
  split at h3
  · rename_i o' _ e
    have e':fj loc tb o.op = .mv o':=e
    rw [e'] at hb ⊢
    exact ⟨by simpa only [stV,jbl hd h3] using hb,fun _=>rfl⟩
  · rename_i o' i' _ e
    have e':fj loc tb o.op = .ex o' i':=e
    rw [e'] at hb ⊢
    exact ⟨by simpa only [stV,jbl hd h3] using hb,fun _=>rfl⟩
  · rename_i e _;cases e
  · rename_i e _;cases e
  · cases h3
theorem jly {P:Program} (tb:Tabs P) {dj:Nat} {rd:List Nat} {t w:Bool} {ops:Array Oper} {o:Oper} (h:rx dj rd ⟨t,w,jw loc tb ops o⟩ = true):o.dst ≠ some dj:=by
  simp only [rx,Bool.and_eq_true,jw,jgt] at h
  intro e
  rw [e] at h
  simp at h
theorem uw {P:Program} (tb:Tabs P) {ops:Array Oper} {o:Oper} (hg:(jw loc tb ops o).g = .yes) (r:RT):gB ops (rgx loc r) o.guard = some true:=by
  rw [← jo5,show jlv loc ops o.guard = .yes from hg]
  rfl
theorem yv {C:Cx} (tb:Tabs C.P) {call:e9} (hc:pw C.P call) {ops:Array Oper} {Wr ds:List Nat} {dj:Nat} {rd:List Nat} {pj:BV} {B:List (List BV × Nat)} {U:List Nat} {q:Plan} {Q:Rg → St → Prop} :
    ∀(A:List (Bool × Nat)) {l:List XA} {r r1:RT} {st st1:St},jdj loc tb ops ds A = some l → l.all (rx dj rd) = true → jbj loc C.P (okC C) Wr call l r st = some (r1,st1) →
    er C ops Wr ds q (rgx loc (qr r1 (xt loc (some dj)) pj)) (jex st1 B U []) Q → er C ops Wr ds (z9 A q) (rgx loc (qr r (xt loc (some dj)) pj)) (jex st B U []) Q
  | [],l,r,r1,st,st1,hA,hn,h,hq=>by
    obtain rfl:=Option.some.inj hA
    simp only [jbj,Option.some.injEq,Prod.mk.injEq] at h
    obtain ⟨rfl,rfl⟩:=h
    exact hq
  |(t,a) :: A,l,r,r1,st,st1,hA,hn,h,hq=>by
    rw [jdj] at hA
    split at hA
    case h_2=>cases hA
    rename_i o l' ho hl
    obtain rfl:=Option.some.inj hA
    simp only [List.all_cons,Bool.and_eq_true] at hn
    obtain ⟨hx,hn⟩:=hn
    have hg:=jbn hx
    have hd:=jly loc tb hx
    cases t with
    | true =>
      simp only [jbj] at h
      split at h
      · rename_i b hb
        obtain ⟨g1,g2⟩:=jdn loc tb hx (Wr:=Wr) (st':=jex st B U []) (pj:=pj) hb
        refine ⟨o,ho,.inl ⟨uw loc tb hg _,b,jbf loc tb g1,jbi loc tb (g2 _),?_⟩⟩
        rw [← gy loc,jgu loc hd]
        exact yv tb hc A hl hn h hq
      · cases h
    | false =>
      simp only [jbj] at h
      split at h
      · rename_i r' st' hin hone
        split at h
        case isFalse=>cases h
        rename_i hT
        have k4:=Nat.eq_of_beq_eq_true hT
        rw [Bool.and_eq_true] at hin
        obtain ⟨c,g,vs,b,hop,hcb,hids,hcall,rfl⟩:=jgv loc tb hg (jdl hx) hone
        obtain ⟨k1,k2,k3,k5⟩:=hc _ _ _ _ _ hcall
        have hargs:q9 st.S.length st.T.length vs = true:=by
          have h2:=hin.2
          simp only [jw,hop] at h2
          exact jo7 loc tb h2 hcb
        have k1':ci C.P (ky vs) [] g vs st (fun r s=>s.S.length = st.S.length ∧ s.T.length = st.T.length ∧ s.M.length = st.M.length ∧ r = b ∧ s = st') :=
          dz k1 fun r s ⟨e1,e2⟩=>⟨e2 ▸ k3,e2 ▸ k4,e2 ▸ k5,e1,e2⟩
        have hfr:=z7 B U [] k1' hin.1 hargs (.inl rfl) (jbk hargs)
        refine ⟨o,ho,.inl ⟨uw loc tb hg _,v8 c g vs _ [] _ hop ((jlx loc tb hx hop).trans hcb) k2 hfr (fun i hi' _=>?_) (by simp) (fun r0 s0 ⟨s',e0,e1,e2⟩=>?_)⟩⟩
        · exact List.all_eq_true.1 hids i hi'
        · subst e1 e2 e0
          rw [← gy loc,jgu loc hd]
          exact yv tb hc A hl hn h hq
      · cases h
theorem yw {C:Cx} (tb:Tabs C.P) {call:e9} (hc:pw C.P call) {ops:Array Oper} {Wr ds:List Nat} {j d:Nat} {oj:Oper} (hoj:ops[j]? = some oj) (hjn:jhw oj = true) (hdj:oj.dst = some d) {q:Plan} {Q:Rg → St → Prop} :
    ∀(A:List (Bool × Nat)) {l:List XA} {r r1:RT} {st st1 st2:St} {b:BV} {ok:Nat → Bool},jdj loc tb ops ds A = some l → l.all (rx d (jxm oj.op)) = true → jbj loc C.P (okC C) Wr call l r st = some (r1,st1) → db C.P ok st1 (rgx loc r1) oj.op = some (st2,some b) →
    er C ops Wr ds q (rgx loc (qr r1 (xt loc (some d)) b)) st2 Q → er C ops Wr ds (vn j A q) (rgx loc r) st Q
  | A,l,r,r1,st,st1,st2,b,ok,hA,hn,h,hj,hq=>by
    have hgj:∀ ρ,gB ops ρ oj.guard = some true:=fun ρ=>by
      simp only [jhw,Bool.and_eq_true,Option.isNone_iff_eq_none] at hjn
      rw [hjn.1]
      rfl
    obtain ⟨B,U,pj,e1,e2,hJ⟩:=jrx hjn hj
    obtain rfl:=Option.some.inj e2
    subst e1
    obtain ⟨q1,q2,q3⟩:=uv loc tb hc hA hn h
    have hops:∀ o ∈ oj.op.operands.toList,evB (rgx loc r) o = evB (rgx loc r1) o:=fun o ho=>by
      cases o with
      | tmp t=>exact (q3 t (List.mem_filterMap.2 ⟨_,ho,rfl⟩)).symm
      | _=>rfl
    have hfirst:∀ {T:Rg → St → Prop},T (rgx loc (qr r (xt loc (some d)) b)) (jex st B U []) → OpG C.P (okD C Wr ds j) (okM C) ops oj (rgx loc r) st T:=fun {T} hT=>by
      refine .inl ⟨hgj _,jkx (jex st B U []) b (hJ _ st (rgx loc r) q1.symm q2.symm hops) ?_⟩
      rw [hdj,← gy loc]
      exact hT
    cases A with
    | nil =>
      obtain rfl:=Option.some.inj hA
      simp only [jbj,Option.some.injEq,Prod.mk.injEq] at h
      obtain ⟨rfl,rfl⟩:=h
      exact ⟨oj,hoj,hfirst hq⟩
    | cons a A =>
      obtain ⟨t,a⟩:=a
      have hA0:=hA
      have hn0:=hn
      have h0:=h
      rw [jdj] at hA
      split at hA
      case h_2=>cases hA
      rename_i o l' ho hl
      obtain rfl:=Option.some.inj hA
      simp only [List.all_cons,Bool.and_eq_true] at hn
      obtain ⟨hx,hn⟩:=hn
      have hg:=jbn hx
      cases t with
      | true =>
        simp only [jbj] at h
        split at h
        · rename_i c hb
          obtain ⟨_,g2⟩:=jdn loc tb hx (Wr:=Wr) (st':=st) (pj:=c) hb
          refine ⟨o,ho,.inl ⟨uw loc tb hg _,c,jbf loc tb hb,jbi loc tb (g2 _),?_⟩⟩
          rw [← gy loc]
          exact yw tb hc hoj hjn hdj A hl hn h hj hq
        · cases h
      | false =>
        have hplain:er C ops Wr ds (z9 ((false,a) :: A) q) (rgx loc (qr r (xt loc (some d)) b)) (jex st B U []) Q:=yv loc tb hc _ hA0 hn0 h0 hq
        simp only [jbj] at h
        split at h
        · rename_i r' st' hin hone
          split at h
          case isFalse=>cases h
          have h2:jd2 loc C.P (okD C Wr ds a) call (jw loc tb ops o) r st = some (r',st'):=hone
          have hcall:OpG C.P (okD C Wr ds a) (okM C) ops o (rgx loc r) st (fun ρ st=>er C ops Wr ds (vn j A q) ρ st Q) :=
            jbg (Q':=fun ρ st=>er C ops Wr ds (vn j A q) ρ st Q) (uu loc (okm:=okM C) tb hc h2) fun ρ s e=>by
              obtain ⟨e1,e2⟩:=e
              subst e1 e2
              exact yw tb hc hoj hjn hdj A hl hn h hj hq
          rw [vn]
          split
          · exact ⟨⟨o,ho,hcall⟩,⟨oj,hoj,hfirst hplain⟩⟩
          · exact ⟨⟨oj,hoj,hfirst hplain⟩,⟨o,ho,hcall⟩⟩
        · cases h
termination_by A=>A.length
theorem pe {C:Cx} (tb:Tabs C.P) {call:e9} (hc:pw C.P call) {ops:Array Oper} {Wr ds:List Nat}:∀(p:MP) {l:List XD} {r r':RT} {st st':St},jdk loc tb ops ds p = some l → je1 loc C.P (okC C) Wr call l r st = some (r',st') →
    ∀ {Q:Rg → St → Prop},Q (rgx loc r') st' → er C ops Wr ds p.toP (rgx loc r) st Q
  | .nil,l,r,r',st,st',hp,h,Q,hq=>by
    obtain rfl:=Option.some.inj hp
    simp only [je1,Option.some.injEq,Prod.mk.injEq] at h
    obtain ⟨rfl,rfl⟩:=h
    exact hq
  | .take i p,l,r,r',st,st',hp,h,Q,hq=>by
    rw [jdk] at hp
    split at hp
    · rename_i o l' ho hl
      obtain rfl:=Option.some.inj hp
      simp only [je1,jw,jo5] at h
      split at h
      · rename_i hg
        by_cases hs:jbh loc Wr r (fj loc tb o.op) = true
        · simp only [hs,if_true] at h
          split at h
          · rename_i b hb
            refine ⟨o,ho,.inl ⟨hg,b,jbf loc tb hb,jbi loc tb hs,?_⟩⟩
            rw [← gy loc]
            exact pe tb hc p hl h hq
          · cases h
        · simp only [hs] at h
          cases h
      · rename_i hg
        refine ⟨o,ho,.inr ⟨hg,?_⟩⟩
        rw [← gy loc]
        exact pe tb hc p hl h hq
      · cases h
    · cases hp
  | .one i p,l,r,r',st,st',hp,h,Q,hq=>by
    rw [jdk] at hp
    split at hp
    · rename_i o l' ho hl
      obtain rfl:=Option.some.inj hp
      simp only [je1] at h
      split at h
      · rename_i r1 st1 h1
        have h2:jd2 loc C.P (okD C Wr ds i) call (jw loc tb ops o) r st = some (r1,st1):=h1
        refine ⟨o,ho,jbg (Q':=fun ρ st=>er C ops Wr ds p.toP ρ st Q) (uu loc (okm:=okM C) tb hc h2) fun ρ s e=>?_⟩
        obtain ⟨e1,e2⟩:=e
        subst e1 e2
        exact pe tb hc p hl h hq
      · cases h
    · cases hp
  | .fl A j p,l,r,r',st,st',hp,h,Q,hq=>by
    rw [jdk] at hp
    split at hp
    case h_2=>cases hp
    rename_i o a l' ho ha hl
    split at hp
    case h_2=>cases hp
    rename_i d hd
    split at hp
    case isFalse=>cases hp
    rename_i hn
    rw [Bool.and_eq_true] at hn
    obtain rfl:=Option.some.inj hp
    simp only [je1] at h
    split at h
    case h_2=>cases h
    rename_i r1 st1 h1
    split at h
    case h_2=>cases h
    rename_i st2 b hj
    have hw:db C.P (okC C) st1 (rgx loc r1) o.op = some (st2,some b):=by
      rcases jjs loc tb (show stW loc C.P (okC C) st1 r1 (fj loc tb o.op) = some (st2,some b) from hj) with ⟨v,_,_,hv⟩|hw
      · exfalso
        have hj:=hn.1
        simp only [jhw,Bool.and_eq_true] at hj
        have hj:=hj.2
        split at hj
        · rename_i e he;rw [he] at hv;cases hv
        · rename_i e he;rw [he] at hv;cases hv
        · cases hj
      · exact hw
    refine yw loc tb hc ho hn.1 hd A ha hn.2 h1 hw ?_
    have hd':(jw loc tb ops o).d = xt loc (some d):=by simp only [jw,hd]
    rw [hd'] at h
    exact pe tb hc p hl h hq
def wrX (r:RT) (nx:Nat):List XO → List Nat
  | []=>[]
  | .no :: l=>nx :: wrX r (nx + 1) l
  | o :: l=>match evX r o with
    | some (.ptr id _)=>id :: wrX r nx l
    | _=>wrX r nx l
inductive XQ where
  | mt (n:Nat) (x:XO)
  | g (p:XP)
def jo8:XQ → XP
  | .mt n x=>⟨.t n,.yes,.mv x⟩
  | .g p=>p
def jry (p:XP):XQ:=match p with
  | ⟨.t n,.yes,.mv x⟩=>.mt n x
  | p=>.g p
theorem jjw (p:XP):jo8 (jry p) = p:=by
  unfold jry
  split <;> rfl
theorem jgw {α:Type} (f:α → XP):∀ l:List α,(l.map fun o=>jry (f o)).map jo8 = l.map f
  | []=>rfl
  | a :: l=>by simp only [List.map_cons,jjw,jgw f l]
inductive XC where
  | skip
  | ret
  | exit (id:Nat)
  | reg (l:List XQ)
  | drw (wr:List XO) (l:List XD)
  | seq (a b:XC)
  | cond (c:XO) (a b:XC)
  | block (id:Nat) (c:XC)
  | loop (keep:Option (List Nat)) (c:XC)
def pf:Code → Option Nat
  | .seq a b=>match pf a with
    | some i=>some i
    | none=>pf b
  | .block id _=>some id
  | _=>none
def p8 {P:Program} (tb:Tabs P) (pl:Nat → Option (MP × List Nat × List XO)) (kp:Nat → Option (List Nat)) (nt:Nat):Code → Option XC
  | .skip=>some .skip
  | .ret=>some .ret
  | .exit id=>some (.exit id)
  | .region id ops false=>if jck nt ops = true then some (.reg (ops.toList.map fun o=>jry (jw loc tb ops o))) else none
  | .region id ops true=>match pl id with
    | some (p,ds,wr)=>if p.toP.goodB nt ops ds = true then (jdk loc tb ops ds p).map (.drw wr) else none
    | none=>none
  | .seq a b=>match p8 tb pl kp nt a,p8 tb pl kp nt b with
    | some x,some y=>some (.seq x y)
    | _,_=>none
  | .cond c a b=>match p8 tb pl kp nt a,p8 tb pl kp nt b with
    | some x,some y=>some (.cond (xo loc c) x y)
    | _,_=>none
  | .block id c=>(p8 tb pl kp nt c).map (.block id)
  | .loop c=>(p8 tb pl kp nt c).map (.loop ((pf c).bind kp))
  | _=>none
def okX (Wr:List Nat) (nb:Nat) (i:Nat):Bool:=Wr.contains i || Nat.ble nb i
theorem jrz (C:Cx):okX C.Wr C.nb = okC C:=by
  funext i
  simp only [okX,okC]
  congr 1
  rw [Bool.eq_iff_iff]
  simp
def jbo (C:Cx) (nT:Nat) (c:Code) (ρ:Rg) (st:St) (Q:nl):Prop :=
  ∀(x y:Full) (a:Act),x.st.S.length = C.nb → x.st.T.length = nT → x.st.M.length = C.nm → Step C.Wr C.Wm x y → y.st = st → Good y → Regs C.nt y ρ a → ∀ K:Exit → Act → World → Prop,
    (∀ ex ρ' z a',Q ex ρ' z.st → Step C.Wr C.Wm x z → Good z → Regs C.nt z ρ' a' → K ex.to a' z.w) → c.wp C.P K a y.w
section
variable {C:Cx} {nT:Nat}
theorem jr0 {c:Code} {ρ:Rg} {st:St} {Q:nl} (h:Tri C c ρ st Q):jbo C nT c ρ st Q:=fun x y a h1 _ h1m h2 h3 h4 h5 K hK=>h x y a h1 h1m h2 h3 h4 h5 K hK
theorem ja {c:Code} {ρ:Rg} {st:St} {Q Q':nl} (h:jbo C nT c ρ st Q) (hq:∀ ex ρ st,Q ex ρ st → Q' ex ρ st):jbo C nT c ρ st Q' :=
  fun x y a h1 h1t h1m h2 h3 h4 h5 K hK=>h x y a h1 h1t h1m h2 h3 h4 h5 K (fun ex ρ' z a' hq'=>hK ex ρ' z a' (hq _ _ _ hq'))
theorem yx {c:Code} {ρ ρ':Rg} {st:St} {Q:nl} (hr:∀ t v,ρ' t = some v → ρ t = some v) (h:jbo C nT c ρ' st Q):jbo C nT c ρ st Q :=
  fun x y a h1 h1t h1m h2 h3 h4 h5 K hK=>h x y a h1 h1t h1m h2 h3 h4 ⟨h5.defers,h5.size,fun t v hv=>h5.reg t v (hr t v hv)⟩ K hK
theorem jlz {c d:Code} {ρ:Rg} {st:St} {Q:nl} (h:jbo C nT c ρ st (d7 (fun ρ st=>jbo C nT d ρ st Q) Q)):jbo C nT (.seq c d) ρ st Q:=by
  intro x y a h1 h1t h1m h2 h3 h4 h5 K hK
  refine wp_seq (h x y a h1 h1t h1m h2 h3 h4 h5 _ (fun ex ρ' z a' hq hs hg hr=>?_))
  cases ex with
  | normal=>exact hq x z a' h1 h1t h1m hs rfl hg hr K hK
  | exit id=>exact hK (.exit id) ρ' z a' hq hs hg hr
  | ret=>exact hK .ret ρ' z a' hq hs hg hr
theorem jdo {o:Operand} {c d:Code} {ρ:Rg} {st:St} {Q:nl} (t:Bool) (ho:evB ρ o = some (.d (.flat (.bool t)))) (h1:t = true → jbo C nT c ρ st Q) (h2:t = false → jbo C nT d ρ st Q):jbo C nT (.cond o c d) ρ st Q:=by
  intro x y a q1 q1t q1m q2 q3 q4 q5 K hK
  have hv:=q5.ev ho
  have hb:a.eval o = .bool t:=j7 hv
  refine wp_cond_split hb (fun e=>h1 e x y a q1 q1t q1m q2 q3 q4 q5 K hK) (fun e=>h2 e x y a q1 q1t q1m q2 q3 q4 q5 K hK)
theorem jhx {id:Nat} {c:Code} {ρ:Rg} {st:St} {Q:nl} (h:jbo C nT c ρ st (inQ id Q)):jbo C nT (.block id c) ρ st Q:=by
  intro x y a h1 h1t h1m h2 h3 h4 h5 K hK
  refine wp_block (h x y a h1 h1t h1m h2 h3 h4 h5 _ (fun ex ρ' z a' hq hs hg hr=>?_))
  cases ex with
  | normal=>exact hK .normal ρ' z a' hq hs hg hr
  | exit i =>
    simp only [inQ] at hq
    simp only [AX.to,Exit.inBlock]
    split at hq
    · rename_i e;rw [if_pos e];exact hK .normal ρ' z a' hq hs hg hr
    · rename_i e;rw [if_neg e];exact hK (.exit i) ρ' z a' hq hs hg hr
  | ret=>exact hK .ret ρ' z a' hq hs hg hr
def jl0 (C:Cx) (nT nt:Nat) (ρ:Rg) (st:St) (ρ2:Rg) (st2:St):Prop :=
  ∀(x z:Full) (a:Act),x.st.S.length = C.nb → x.st.T.length = nT → x.st.M.length = C.nm → Step C.Wr C.Wm x z → z.st = st → Good z → Regs nt z ρ a → ∃ z2:Full,z2.w = z.w ∧ z2.st = st2 ∧ Step C.Wr C.Wm x z2 ∧ Good z2 ∧ Regs nt z2 ρ2 a
theorem jjx {c:Code} {ρ:Rg} {st:St} {Q:nl} (I:Nat → Rg → St → Prop) (n:Nat) (h0:I n ρ st) (hr:∀ n ρ st,I n ρ st → jbo C nT c ρ st (d7 (fun ρ' st'=>∃ m ρ2 st2,m < n ∧ I m ρ2 st2 ∧ jl0 C nT C.nt ρ' st' ρ2 st2) Q)):jbo C nT (.loop c) ρ st Q:=by
  intro x y a h1 h1t h1m h2 h3 h4 h5 K hK
  let J:Nat → Act → World → Prop:=fun n a w=>∃ ρ z,I n ρ z.st ∧ Step C.Wr C.Wm x z ∧ Good z ∧ Regs C.nt z ρ a ∧ z.w = w
  have hμ:∀(a:Act) (w:World),∃ m,(∃ n,J n a w) → J m a w ∧ ∀ k,k < m → ¬ J k a w:=fun a w=>by
    by_cases q:∃ n,J n a w
    · obtain ⟨m,hm⟩:=jnl q
      exact ⟨m,fun _=>hm⟩
    · exact ⟨0,fun h=>absurd h q⟩
  obtain ⟨μ,hμ⟩:=Classical.axiomOfChoice (fun p:Act × World=>hμ p.1 p.2)
  refine wp_loop (fun a w=>∃ n,J n a w) (fun a w=>μ (a,w)) ⟨n,ρ,y,h3 ▸ h0,h2,h4,h5,rfl⟩ (fun a w hI=>?_)
  obtain ⟨⟨ρ1,z,i1,i2,i3,i4,rfl⟩,hmin⟩:=hμ (a,w) hI
  refine hr _ ρ1 z.st i1 x z a h1 h1t h1m i2 rfl i3 i4 _ (fun ex ρ' z' a' hq hs hg hrr=>?_)
  cases ex with
  | normal =>
    obtain ⟨m,ρ2,st2,hm,hi,hd⟩:=hq
    obtain ⟨z2,e1,e2,e3,e4,e5⟩:=hd x z' a' h1 h1t h1m hs rfl hg hrr
    have hJ:J m a' z'.w:=⟨ρ2,z2,e2 ▸ hi,e3,e4,e5,e1⟩
    refine ⟨⟨m,hJ⟩,?_⟩
    obtain ⟨_,hmin'⟩:=hμ (a',z'.w) ⟨m,hJ⟩
    refine Nat.lt_of_le_of_lt (Nat.le_of_not_lt (fun hlt=>hmin' m hlt hJ)) hm
  | exit id=>exact hK (.exit id) ρ' z' a' hq hs hg hrr
  | ret=>exact hK .ret ρ' z' a' hq hs hg hrr
theorem jo9 {nt:Nat} {ρ ρ':Rg} {st:St} (n m:Nat) (hn:C.nb ≤ n) (hm:nT ≤ m) (hr:∀ t v,ρ' t = some v → ρ t = some v ∧ okB n m v = true) (hS:∀ c ∈ st.S.take n,q9 n m c.1 = true) (hnl:n ≤ st.S.length) (hml:m ≤ st.T.length) :
    jl0 C nT nt ρ st ρ' ⟨st.S.take n,st.T.take m,st.M⟩:=by
  intro x z a h1 h1t h1m hs hz hg hregs
  subst hz
  let y:Full:=⟨⟨z.st.S.take n,z.st.T.take m,z.st.M⟩,z.pb,z.pt,z.pm,z.F,z.w⟩
  have lS:y.st.S.length = n:=by show (z.st.S.take n).length = n;rw [List.length_take];omega
  have lT:y.st.T.length = m:=by show (z.st.T.take m).length = m;rw [List.length_take];omega
  have gS:∀ i,i < n → y.st.S[i]? = z.st.S[i]?:=fun i hi=>by
    show (z.st.S.take n)[i]? = _
    rw [List.getElem?_take,if_pos hi]
  have gT:∀ i,i < m → y.st.T[i]? = z.st.T[i]?:=fun i hi=>by
    show (z.st.T.take m)[i]? = _
    rw [List.getElem?_take,if_pos hi]
  have hf:Fewer z y n m z.st.M.length:=⟨rfl,rfl,fun _ _=>rfl,fun _ _=>rfl,fun _ _=>rfl,Nat.le_of_eq lS.symm,fun t k ht hk=>(gT t ht).trans hk,Nat.le_refl _⟩
  refine ⟨y,rfl,rfl,?_,?_,⟨hregs.defers,hregs.size,fun t v hv=>jew hf (hregs.reg t v (hr t v hv).1) (jrs (hr t v hv).2 (jey (hregs.reg t v (hr t v hv).1)))⟩⟩
  · refine ⟨hs.os,hs.tape,hs.output,hs.size,hs.frame,hs.keep,by omega,hs.ids,fun i q1 q2=>hs.fresh i q1 (by omega),hs.mlen,hs.mids,hs.mfresh,fun t k ht=>?_,fun t b q1 q2 q3=>hs.tfresh t b q1 (by omega) q3,hs.fro⟩
    obtain ⟨k',g1,g2⟩:=hs.tags t k ht
    have:=(List.getElem?_eq_some_iff.1 ht).1
    exact ⟨k',(gT t (by omega)).trans g1,g2⟩
  · constructor
    · intro id cs t hid
      have hlt:=(List.getElem?_eq_some_iff.1 hid).1
      obtain ⟨us,k1,k2,k3⟩:=hg.box id cs t ((gS id (by omega)).symm.trans hid)
      exact ⟨us,k1,m8 hf k2 (yp (hS _ (List.mem_of_getElem? hid)) (m9 k2)),k3⟩
    · exact fun i j q1 q2 e=>hg.inj i j (by omega) (by omega) e
    · intro t k b ht hb
      have hlt:=(List.getElem?_eq_some_iff.1 ht).1
      obtain ⟨k1,k2,k3,k4⟩:=hg.tag t k b ((gT t (by omega)).symm.trans ht) hb
      exact ⟨k1,k2,fun i hi=>k3 i (by omega),fun u hu he=>k4 u (by omega) he⟩
    · intro id es hid
      exact (hg.map id es hid).of rfl (fun p hp v h5=>m7 hf h5 (qp h5))
    · exact hg.mapinj
    · exact fun t b i q1 q2 q3=>hg.tmap t b i (by omega) q2 q3
    · exact fun i q1=>⟨(hg.mp i q1).1,fun j q2=>(hg.mp i q1).2 j (by omega)⟩
theorem yy {nt:Nat} {ρ ρ':Rg} {st:St} (hr:∀ t v,ρ' t = some v → ρ t = some v):jl0 C nT nt ρ st ρ' st:=fun x z a _ _ _ hs hz hg hregs =>
  ⟨z,rfl,hz,hs,hg,hregs.defers,hregs.size,fun t v hv=>hregs.reg t v (hr t v hv)⟩
theorem je3 {P:Program} {f:Nat} {fn:Func} {c:Code} {args:List BV} {st:St} {Q:BV → St → Prop} (Wr Wm:List Nat) (hf:P.funcs[f]? = some fn) (hb:fn.body = some c)
    (h:jbo ⟨P,fn.ntmps,Wr,Wm,st.S.length,st.M.length⟩ st.T.length c (zo args) st (jb P fn.results.toList Wr st Q)):ci P Wr Wm f args st Q :=
  wu Wr Wm hf hb fun x a hx hg hr K hK=>h x x a (by rw [hx]) (by rw [hx]) (by rw [hx]) (Step.refl _ _ _) hx hg hr K hK
end
def qs:List BV → Nat → Nat
  | [],n=>n
  | .ptr id _ :: l,n=>qs l (max n (id + 1))
  | _ :: l,n=>qs l n
def vw:List BV → Nat → Nat
  | [],m=>m
  | .own _ _ t _ _ :: l,m=>vw l (max m (t + 1))
  | _ :: l,m=>vw l m
def t1:List (List BV × Nat) → Nat → Nat
  | [],m=>m
  | c :: l,m=>t1 l (vw c.1 m)
def nk:RL → List BV
  | []=>[]
  | e :: l=>e.2 :: nk l
def ze:List Nat → Nat → Bool
  | [],_=>false
  | a :: l,t=>cond (Nat.beq a t) true (ze l t)
def qt (ks:List Nat):RL → RL
  | []=>[]
  | e :: l=>cond (ze ks e.1) (e :: qt ks l) (qt ks l)
def je4 (nb nT:Nat) (keep:Option (List Nat)) (st0:St) (r:RL) (st:St):RL × St :=
  match keep with
  | none=>(r,st)
  | some ks=>cond (Nat.beq st.S.length st0.S.length && Nat.beq st.T.length st0.T.length) (r,st)
    (let r':=qt ks r
     let vs:=nk r'
     let n:=qs vs nb
     let S':=st.S.take n
     let m:=t1 S' (vw vs nT)
     cond (q9 n m vs && (S'.all (fun c=>q9 n m c.1) && (Nat.ble n st.S.length && Nat.ble m st.T.length))) (r',⟨S',st.T.take m,st.M⟩) (r',st))
abbrev pg:=(Nat → Bool) → List Nat → Nat → Nat → XC → RL → St → Option (AX × RL × St)
inductive XR where
  | t (n:Nat)
  | c (n:Nat) (ag:Bool) (sz:Nat)
structure XF where
  loc:List Nat
  ps:List Nat
  body:XC
  res:List XR
inductive XE where
  | fn (x:XF)
  | law (F:List BV → St → Option (BV × St))
def je5 {P:Program} (tb:Tabs P):List ResultVar → Option (List XR)
  | []=>some []
  | .tmp t :: l=>if loc t = true then (je5 tb l).map (.t t :: ·) else none
  | .cell t ty :: l=>if loc t = true then (match tb.ty ty,je5 tb l with
    | some (ag,sz,_),some l=>some (.c t ag sz :: l)
    | _,_=>none) else none
def je6 (r:RL) (st:St):List XR → Option (List BV)
  | []=>some []
  | .t p :: l=>match yq r p,je6 r st l with
    | some b,some bs=>some (b :: bs)
    | _,_=>none
  | .c p ag sz :: l=>match yq r p,je6 r st l with
    | some (.ptr id off),some bs=>match st.S[id]? with
      | some (cs,_)=>match part ag sz off cs with
        | some b=>some (b :: bs)
        | none=>none
      | none=>none
    | _,_=>none
theorem je7 {P:Program} (tb:Tabs P) {r:RL} {st:St} {ρ:Rg} (hρ:∀ t v,rgx loc (r,[]) t = some v → ρ t = some v):∀ {rs:List ResultVar} {xs:List XR} {l:List BV},je5 loc tb rs = some xs → je6 r st xs = some l → sh P ρ st rs = some l
  | [],xs,l,h,hr=>by
    obtain rfl:=Option.some.inj h
    simpa [je6,sh] using hr
  | .tmp t :: rs,xs,l,h,hr=>by
    rw [je5] at h
    split at h
    case isFalse=>cases h
    rename_i hloc
    obtain ⟨xs',h',rfl⟩:=Option.map_eq_some_iff.1 h
    simp only [je6] at hr
    split at hr
    · rename_i b bs hb hbs
      obtain rfl:=Option.some.inj hr
      have hb':ρ t = some b:=hρ t b (by simp only [rgx,hloc,cond_true];exact hb)
      simp only [sh,hb',je7 tb hρ h' hbs]
    · cases hr
  | .cell t ty :: rs,xs,l,h,hr=>by
    rw [je5] at h
    split at h
    case isFalse=>cases h
    rename_i hloc
    split at h
    · rename_i ag sz z xs' ht h'
      obtain rfl:=Option.some.inj h
      simp only [je6] at hr
      split at hr
      · rename_i id off bs hb hbs
        have hb':ρ t = some (.ptr id off):=hρ t _ (by simp only [rgx,hloc,cond_true];exact hb)
        split at hr
        · rename_i cs ty' hs
          split at hr
          · rename_i b hpt
            obtain rfl:=Option.some.inj hr
            simp only [sh,hb',tb.tyH ht,je7 tb hρ h' hbs,hs,hpt]
          · cases hr
        · cases hr
      · cases hr
    · cases h
def jy5:AX → Bool
  | .normal=>true
  | .ret=>true
  | .exit _=>false
def jpa (nt:Nat):List BV → Bool
  | []=>false
  | .own _ _ t _ _ :: l=>Nat.ble nt t || jpa nt l
  | _ :: l=>jpa nt l
def je8 (nt:Nat) (S:List (List BV × Nat)):List Nat → Bool
  | []=>false
  | i :: l=>match S[i]? with
    | some (cs,_)=>jpa nt cs || je8 nt S l
    | none=>je8 nt S l
def jl1 (nt:Nat) (Wr:List Nat) (s:St):List Nat:=cond (je8 nt s.S Wr) s.T (s.T.take nt)
def jtj (st s:St) (ids:List Nat) (l:List BV) (T':List Nat):Option (BV × St) :=
  match my st.S.length T'.length l,jhh st.S.length T'.length ids st.S s.S with
  | some l',some S'=>if (Nat.ble st.T.length T'.length && Nat.beq s.M.length st.M.length) = true then some (jb5 l',⟨S',T',s.M⟩) else none
  | _,_=>none
def jbp (tab:Tr XE) (rn:pg):e9:=fun _ p vs st =>
  match tab.get p with
  | some (.fn x)=>match rn (ze x.loc) (ky vs) st.S.length st.T.length x.body (jht x.ps vs) st with
    | some (ex,r,s)=>match jy5 ex,je6 r s x.res with
      | true,some l=>jtj st s (ky vs) l (jl1 st.T.length (ky vs) s)
      | _,_=>none
    | none=>none
  | some (.law F)=>F vs st
  | none=>none
def gn (P:Program) (tab:Tr XE) (rn:pg):pg:=fun loc Wr nb nT x r st =>
  match x with
  | .skip=>some (.normal,r,st)
  | .ret=>some (.ret,r,st)
  | .exit id=>some (.exit id,r,st)
  | .reg l=>match jlw loc P (okX Wr nb) (jbp tab rn) (l.map jo8) (r,[]) st with
    | some (r',st')=>some (.normal,r'.1,st')
    | none=>none
  | .drw wr l=>match je1 loc P (okX Wr nb) (wrX (r,[]) st.S.length wr) (jbp tab rn) l (r,[]) st with
    | some (r',st')=>some (.normal,r'.1,st')
    | none=>none
  | .seq a b=>match rn loc Wr nb nT a r st with
    | some (.normal,r',st')=>rn loc Wr nb nT b r' st'
    | some (.exit i,r',st')=>some (.exit i,r',st')
    | some (.ret,r',st')=>some (.ret,r',st')
    | none=>none
  | .cond c a b=>match evX (r,[]) c with
    | some v=>match p7 v with
      | some t=>cond t (rn loc Wr nb nT a r st) (rn loc Wr nb nT b r st)
      | none=>none
    | none=>none
  | .block id c=>match rn loc Wr nb nT c r st with
    | some (.normal,r',st')=>some (.normal,r',st')
    | some (.exit i,r',st')=>if Nat.beq i id = true then some (.normal,r',st') else some (.exit i,r',st')
    | some (.ret,r',st')=>some (.ret,r',st')
    | none=>none
  | .loop kp c=>match rn loc Wr nb nT c r st with
    | some (.normal,r',st')=>match je4 nb nT kp st r' st' with
      |(r2,st2)=>rn loc Wr nb nT (.loop kp c) r2 st2
    | some (.exit i,r',st')=>some (.exit i,r',st')
    | some (.ret,r',st')=>some (.ret,r',st')
    | none=>none
def run (P:Program) (tab:Tr XE):Nat → pg
  | 0=>fun _ _ _ _ _ _ _=>none
  | n + 1=>gn P tab (run P tab n)
def ux (P:Program) (tb:Tabs P) (f:Nat):XE → Prop
  | .fn x=>jdz P f = true ∧ ∃ fn pl kp n,P.funcs[f]? = some fn ∧ x.ps = List.range' 0 n ∧(fn.body.bind fun c=>p8 (ze x.loc) tb pl kp fn.ntmps c) = some x.body ∧ je5 (ze x.loc) tb fn.results.toList = some x.res
  | .law F=>jdz P f = true ∧ ∀ ars st b st',F ars st = some (b,st') → ci P (ky ars) [] f ars st (fun r s=>r = b ∧ s = st') ∧ st'.S.length = st.S.length ∧ st'.M.length = st.M.length
def yz (P:Program) (tb:Tabs P) (tab:Tr XE):Prop:=∀ f x,tab.get (bits f) = some x → ux P tb f x
theorem jv4 {P:Program} (tb:Tabs P):yz P tb .e:=fun f x h=>by cases h
theorem jjy {P:Program} {tb:Tabs P} {tab:Tr XE} (h:yz P tb tab) {f:Nat} {x:XE} (hx:ux P tb f x):yz P tb (tab.set (bits f) x):=fun g y hy=>by
  rw [Tr.get_set] at hy
  split at hy
  · rename_i e
    obtain rfl:=jls e
    obtain rfl:=Option.some.inj hy
    exact hx
  · exact h g y hy
def isQ (ex:AX) (r:RL) (st:St):nl:=fun e ρ s=>e = ex ∧(∀ t v,rgx loc (r,[]) t = some v → ρ t = some v) ∧ s = st
def jr1 (P:Program) (tb:Tabs P) (rn:pg):Prop:=∀(loc:Nat → Bool) (nt:Nat) (Wr:List Nat) (nb nT nm:Nat) (pl:Nat → Option (MP × List Nat × List XO)) (kp:Nat → Option (List Nat)) (c:Code) (x:XC) (r r':RL) (st st':St) (ex:AX),p8 loc tb pl kp nt c = some x → rn loc Wr nb nT x r st = some (ex,r',st') → jbo ⟨P,nt,Wr,[],nb,nm⟩ nT c (rgx loc (r,[])) st (isQ loc ex r' st')
theorem jab {P:Program} {tb:Tabs P} {tab:Tr XE} (ht:yz P tb tab) {rn:pg} (hrn:jr1 P tb rn):pw P (jbp tab rn):=by
  intro g ars st b st' h
  unfold jbp at h
  split at h
  · rename_i x hx
    obtain ⟨hok,fn,pl,kp,n,h1,hps,h2,h4⟩:=ht g _ hx
    obtain ⟨c,h2,h3⟩:=Option.bind_eq_some_iff.1 h2
    split at h
    · rename_i ex r s hrun
      split at h
      · rename_i l he hl
        unfold jtj at h
        split at h
        · rename_i l' S' hl' hS'
          split at h
          · rename_i hT
            simp only [Option.some.injEq,Prod.mk.injEq] at h
            obtain ⟨rfl,rfl⟩:=h
            rw [Bool.and_eq_true] at hT
            have hM:=Nat.eq_of_beq_eq_true hT.2
            have hT:=Nat.le_of_ble_eq_true hT.1
            refine ⟨?_,hok,rl hS',hM⟩
            have key:=hrn (ze x.loc) fn.ntmps (ky ars) st.S.length st.T.length st.M.length pl kp c x.body _ r st s ex h3 hrun
            refine je3 _ [] h1 h2 (yx (fun t v hv=>?_) (ja key fun e ρ s' hq=>?_))
            · simp only [rgx] at hv
              cases hl:ze x.loc t <;> rw [hl] at hv
              · cases hv
              · rw [hps] at hv
                exact (jgq n 0 ars t v hv).2
            · obtain ⟨rfl,hρ,rfl⟩:=hq
              refine ⟨?_,l,l',S',_,.inl (je7 (ze x.loc) tb hρ h4 hl),hl',hS',?_,hT,rfl,rfl⟩
              · cases e with
                | normal=>exact .inl rfl
                | ret=>exact .inr rfl
                | exit i=>cases he
              · unfold jl1
                cases je8 st.T.length s'.S (ky ars)
                · exact List.take_prefix _ _
                · exact List.prefix_refl _
          · cases h
        · cases h
      · cases h
    · cases h
  · rename_i F hF
    obtain ⟨hok,hF⟩:=ht g _ hF
    exact ⟨(hF _ _ _ _ h).1,hok,(hF _ _ _ _ h).2⟩
  · cases h
theorem jjz (r:RT):∀ t v,rgx loc (r.1,[]) t = some v → rgx loc r t = some v:=fun t v h=>by
  simp only [rgx] at h ⊢
  cases hl:loc t <;> rw [hl] at h
  · cases h
  · exact h
theorem jbq (ex:AX) (r:RL) (st:St):isQ loc ex r st ex (rgx loc (r,[])) st:=⟨rfl,fun _ _ h=>h,rfl⟩
theorem jbr:∀(l:List BV) (n:Nat),n ≤ qs l n
  | [],n=>Nat.le_refl _
  | b :: l,n=>by
    cases b <;> simp only [qs] <;> first|exact jbr l n|exact Nat.le_trans (by omega) (jbr l _)
theorem wg:∀(l:List BV) (n:Nat),n ≤ vw l n
  | [],n=>Nat.le_refl _
  | b :: l,n=>by
    cases b <;> simp only [vw] <;> first|exact wg l n|exact Nat.le_trans (by omega) (wg l _)
theorem jdp:∀(l:List (List BV × Nat)) (n:Nat),n ≤ t1 l n
  | [],n=>Nat.le_refl _
  | c :: l,n=>by
    rw [t1]
    exact Nat.le_trans (wg c.1 n) (jdp l _)
theorem jgx {nb nt:Nat}:∀ {r:RL},q9 nb nt (nk r) = true → ∀ t v,yq r t = some v → okB nb nt v = true
  | [],h,t,v,hv=>by cases hv
  |(d,b) :: r,h,t,v,hv=>by
    rw [nk,q9,Bool.and_eq_true] at h
    rw [f5] at hv
    split at hv
    · obtain rfl:=Option.some.inj hv
      exact h.1
    · exact jgx h.2 t v hv
theorem jdq (ks:List Nat):∀(r:RL) (t:Nat) (v:BV),yq (qt ks r) t = some v →(∀ c,r = c → True) ∧(ze ks t = true → yq r t = some v) ∧(ze ks t = false → False)
  | [],t,v,h=>by cases h
  |(d,b) :: r,t,v,h=>by
    rw [qt] at h
    have ih:=jdq ks r t v
    cases hm:ze ks d <;> rw [hm] at h
    · obtain ⟨_,h1,h2⟩:=ih h
      refine ⟨fun _ _=>trivial,fun ht=>?_,h2⟩
      rw [f5,if_neg]
      · exact h1 ht
      · rintro rfl
        rw [hm] at ht
        cases ht
    · have h':yq ((d,b) :: qt ks r) t = some v:=h
      rw [f5] at h'
      by_cases e:t = d
      · subst e
        rw [if_pos rfl] at h'
        refine ⟨fun _ _=>trivial,fun _=>?_,fun e=>?_⟩
        · rw [f5,if_pos rfl];exact h'
        · rw [hm] at e;cases e
      · rw [if_neg e] at h'
        obtain ⟨_,h1,h2⟩:=ih h'
        refine ⟨fun _ _=>trivial,fun ht=>?_,h2⟩
        rw [f5,if_neg e]
        exact h1 ht
theorem jl2 (ks:List Nat) (r:RL):∀ t v,rgx loc (qt ks r,[]) t = some v → rgx loc (r,[]) t = some v:=fun t v h=>by
  simp only [rgx] at h ⊢
  cases hl:loc t <;> rw [hl] at h
  · cases h
  · obtain ⟨_,h1,h2⟩:=jdq ks r t v h
    cases hm:ze ks t
    · exact (h2 hm).elim
    · exact h1 hm
theorem jl3 {C:Cx} {nt nT:Nat} {ρ:Rg} {st0 st st2:St} {r r2:RL} {keep:Option (List Nat)} (hd:je4 C.nb nT keep st0 r st =(r2,st2)) (hρ:∀ t v,rgx loc (r,[]) t = some v → ρ t = some v):jl0 C nT nt ρ st (rgx loc (r2,[])) st2:=by
  unfold je4 at hd
  cases keep with
  | none =>
    simp only [Prod.mk.injEq] at hd
    obtain ⟨rfl,rfl⟩:=hd
    exact yy hρ
  | some ks =>
    dsimp only at hd
    cases hb:Nat.beq st.S.length st0.S.length && Nat.beq st.T.length st0.T.length
    · rw [hb,cond_false] at hd
      have hρ':∀ t v,rgx loc (qt ks r,[]) t = some v → ρ t = some v:=fun t v h=>hρ t v (jl2 loc ks r t v h)
      generalize qt ks r = r' at hd hρ'
      cases hc:q9 (qs (nk r') C.nb) (t1 (st.S.take (qs (nk r') C.nb)) (vw (nk r') nT)) (nk r') && ((st.S.take (qs (nk r') C.nb)).all (fun c=>q9 (qs (nk r') C.nb) (t1 (st.S.take (qs (nk r') C.nb)) (vw (nk r') nT)) c.1) && (Nat.ble (qs (nk r') C.nb) st.S.length && Nat.ble (t1 (st.S.take (qs (nk r') C.nb)) (vw (nk r') nT)) st.T.length))
      · rw [hc,cond_false] at hd
        simp only [Prod.mk.injEq] at hd
        obtain ⟨rfl,rfl⟩:=hd
        exact yy hρ'
      · rw [hc,cond_true] at hd
        simp only [Prod.mk.injEq] at hd
        obtain ⟨rfl,rfl⟩:=hd
        simp only [Bool.and_eq_true] at hc
        obtain ⟨h1,h2,h3,h4⟩:=hc
        refine jo9 _ _ (jbr _ _) (Nat.le_trans (wg _ _) (jdp _ _)) (fun t v hv=>⟨hρ' t v hv,?_⟩) (fun c hc=>List.all_eq_true.1 h2 c hc) (Nat.le_of_ble_eq_true h3) (Nat.le_of_ble_eq_true h4)
        simp only [rgx] at hv
        cases hl:loc t <;> rw [hl] at hv
        · cases hv
        · exact jgx h1 t v hv
    · rw [hb,cond_true] at hd
      simp only [Prod.mk.injEq] at hd
      obtain ⟨rfl,rfl⟩:=hd
      exact yy hρ
theorem jj0 {P:Program} {tb:Tabs P} {tab:Tr XE} (hm:P.follows .mixedOrders = true) (ht:yz P tb tab):∀(n:Nat),jr1 P tb (run P tab n):=by
  intro n
  induction n using Nat.strongRecOn with
  | _ n ih0=>?_
  cases n with
  | zero=>intro loc nt Wr nb nT nm pl kp c x r r' st st' ex hx h;cases h
  | succ n =>
    intro loc nt Wr nb nT nm pl kp c x r r' st st' ex hx h
    have hcall:=jab ht (ih0 n (Nat.lt_succ_self n))
    have ih':∀(c:Code) (x:XC) (r r':RL) (st st':St) (ex:AX),p8 loc tb pl kp nt c = some x → run P tab n loc Wr nb nT x r st = some (ex,r',st') → jbo ⟨P,nt,Wr,[],nb,nm⟩ nT c (rgx loc (r,[])) st (isQ loc ex r' st') :=
      fun c x r r' st st' ex h1 h2=>ih0 n (Nat.lt_succ_self n) loc nt Wr nb nT nm pl kp c x r r' st st' ex h1 h2
    have hok:okX Wr nb = okC ⟨P,nt,Wr,[],nb,nm⟩:=jrz ⟨P,nt,Wr,[],nb,nm⟩
    cases c with
    | skip =>
      obtain rfl:=Option.some.inj hx
      simp only [run,gn,Option.some.injEq,Prod.mk.injEq] at h
      obtain ⟨rfl,rfl,rfl⟩:=h
      exact jr0 (ah (jbq loc _ _ _))
    | ret =>
      obtain rfl:=Option.some.inj hx
      simp only [run,gn,Option.some.injEq,Prod.mk.injEq] at h
      obtain ⟨rfl,rfl,rfl⟩:=h
      exact jr0 (ai (jbq loc _ _ _))
    | exit id =>
      obtain rfl:=Option.some.inj hx
      simp only [run,gn,Option.some.injEq,Prod.mk.injEq] at h
      obtain ⟨rfl,rfl,rfl⟩:=h
      exact jr0 (bd (jbq loc _ _ _))
    | region id ops dr =>
      cases dr with
      | false =>
        rw [p8] at hx
        split at hx
        · rename_i hd
          obtain rfl:=Option.some.inj hx
          simp only [run,gn,hok] at h
          split at h
          · rename_i r1 s1 h1
            simp only [Option.some.injEq,Prod.mk.injEq] at h
            obtain ⟨rfl,rfl,rfl⟩:=h
            rw [jgw] at h1
            exact jr0 (al hd (jjv (z8 loc (C:=⟨P,nt,Wr,[],nb,nm⟩) tb hcall _ h1) fun ρ s e=>⟨rfl,fun t v hv=>e.1 ▸ jjz loc r1 t v hv,e.2⟩))
          · cases h
        · cases hx
      | true =>
        rw [p8] at hx
        split at hx
        · rename_i p ds wr hp
          split at hx
          · rename_i hg
            obtain ⟨l,hl,rfl⟩:=Option.map_eq_some_iff.1 hx
            simp only [run,gn,hok] at h
            split at h
            · rename_i r1 s1 h1
              simp only [Option.some.injEq,Prod.mk.injEq] at h
              obtain ⟨rfl,rfl,rfl⟩:=h
              exact jr0 (wx p.toP (wrX (r,[]) st.S.length wr) ds hm hg (pe loc (C:=⟨P,nt,Wr,[],nb,nm⟩) tb hcall p hl h1 ⟨rfl,jjz loc r1,rfl⟩))
            · cases h
          · cases hx
        · cases hx
    | seq a b =>
      rw [p8] at hx
      split at hx
      · rename_i xa xb ha hb
        obtain rfl:=Option.some.inj hx
        simp only [run,gn] at h
        refine jlz ?_
        split at h
        · rename_i r1 s1 h1
          refine ja (ih' a xa _ _ _ _ _ ha h1) fun e ρ s ⟨e1,e2,e3⟩=>?_
          subst e1 e3
          exact yx e2 (ih' b xb _ _ _ _ _ hb h)
        · rename_i i r1 s1 h1
          simp only [Option.some.injEq,Prod.mk.injEq] at h
          obtain ⟨rfl,rfl,rfl⟩:=h
          refine ja (ih' a xa _ _ _ _ _ ha h1) fun e ρ s ⟨e1,e2,e3⟩=>?_
          subst e1 e3
          exact ⟨rfl,e2,rfl⟩
        · rename_i r1 s1 h1
          simp only [Option.some.injEq,Prod.mk.injEq] at h
          obtain ⟨rfl,rfl,rfl⟩:=h
          refine ja (ih' a xa _ _ _ _ _ ha h1) fun e ρ s ⟨e1,e2,e3⟩=>?_
          subst e1 e3
          exact ⟨rfl,e2,rfl⟩
        · cases h
      · cases hx
    | cond o a b =>
      rw [p8] at hx
      split at hx
      · rename_i xa xb ha hb
        obtain rfl:=Option.some.inj hx
        simp only [run,gn,gq] at h
        split at h
        · rename_i v hv
          split at h
          · rename_i t ht
            obtain rfl:=jbc ht
            cases t
            · exact jdo false hv (fun e=>by cases e) (fun _=>ih' b xb _ _ _ _ _ hb h)
            · exact jdo true hv (fun _=>ih' a xa _ _ _ _ _ ha h) (fun e=>by cases e)
          · cases h
        · cases h
      · cases hx
    | block id a =>
      rw [p8] at hx
      obtain ⟨xa,ha,rfl⟩:=Option.map_eq_some_iff.1 hx
      simp only [run,gn] at h
      refine jhx ?_
      split at h
      · rename_i r1 s1 h1
        simp only [Option.some.injEq,Prod.mk.injEq] at h
        obtain ⟨rfl,rfl,rfl⟩:=h
        refine ja (ih' a xa _ _ _ _ _ ha h1) fun e ρ s ⟨e1,e2,e3⟩=>?_
        subst e1 e3
        exact ⟨rfl,e2,rfl⟩
      · rename_i i r1 s1 h1
        refine ja (ih' a xa _ _ _ _ _ ha h1) fun e ρ s ⟨e1,e2,e3⟩=>?_
        subst e1 e3
        split at h
        · rename_i hi
          obtain rfl:=Nat.eq_of_beq_eq_true hi
          simp only [Option.some.injEq,Prod.mk.injEq] at h
          obtain ⟨rfl,rfl,rfl⟩:=h
          exact ey ⟨rfl,e2,rfl⟩
        · rename_i hi
          simp only [Option.some.injEq,Prod.mk.injEq] at h
          obtain ⟨rfl,rfl,rfl⟩:=h
          refine jp3 ?_ ⟨rfl,e2,rfl⟩
          rw [Bool.eq_false_iff]
          intro e
          exact hi (by simpa using e)
      · rename_i r1 s1 h1
        simp only [Option.some.injEq,Prod.mk.injEq] at h
        obtain ⟨rfl,rfl,rfl⟩:=h
        refine ja (ih' a xa _ _ _ _ _ ha h1) fun e ρ s ⟨e1,e2,e3⟩=>?_
        subst e1 e3
        exact ⟨rfl,e2,rfl⟩
      · cases h
    | loop a =>
      have hx0:=hx
      rw [p8] at hx
      obtain ⟨xa,ha,rfl⟩:=Option.map_eq_some_iff.1 hx
      have hj:∀ j,j < n + 1 → ∀(c:Code) (x:XC) (r r':RL) (st st':St) (ex:AX),p8 loc tb pl kp nt c = some x → run P tab j loc Wr nb nT x r st = some (ex,r',st') → jbo ⟨P,nt,Wr,[],nb,nm⟩ nT c (rgx loc (r,[])) st (isQ loc ex r' st'):=fun j hj c x r r' st st' ex h1 h2=>ih0 j hj loc nt Wr nb nT nm pl kp c x r r' st st' ex h1 h2
      refine jjx (fun k ρ s=>∃ r1,(∀ t v,rgx loc (r1,[]) t = some v → ρ t = some v) ∧ k ≤ n + 1 ∧ run P tab k loc Wr nb nT (.loop ((pf a).bind kp) xa) r1 s = some (ex,r',st')) (n + 1) ⟨r,fun _ _ h=>h,Nat.le_refl _,h⟩ ?_
      rintro k ρ s ⟨r1,hρ,hk,hrun⟩
      refine yx hρ ?_
      cases k with
      | zero=>cases hrun
      | succ k =>
        simp only [run,gn] at hrun
        split at hrun
        · rename_i r2 s2 h1
          refine ja (hj k (by omega) a xa _ _ _ _ _ ha h1) fun e ρ s' ⟨e1,e2,e3⟩=>?_
          subst e1 e3
          generalize hd:je4 nb nT ((pf a).bind kp) s r2 s' = q at hrun
          obtain ⟨r3,s3⟩:=q
          exact ⟨k,rgx loc (r3,[]),_,by omega,⟨r3,fun _ _ h=>h,by omega,hrun⟩,jl3 loc (C:=⟨P,nt,Wr,[],nb,nm⟩) hd e2⟩
        · rename_i i r2 s2 h1
          simp only [Option.some.injEq,Prod.mk.injEq] at hrun
          obtain ⟨rfl,rfl,rfl⟩:=hrun
          refine ja (hj k (by omega) a xa _ _ _ _ _ ha h1) fun e ρ s ⟨e1,e2,e3⟩=>?_
          subst e1 e3
          exact ⟨rfl,e2,rfl⟩
        · rename_i r2 s2 h1
          simp only [Option.some.injEq,Prod.mk.injEq] at hrun
          obtain ⟨rfl,rfl,rfl⟩:=hrun
          refine ja (hj k (by omega) a xa _ _ _ _ _ ha h1) fun e ρ s ⟨e1,e2,e3⟩=>?_
          subst e1 e3
          exact ⟨rfl,e2,rfl⟩
        · cases hrun
    | _=>simp [p8] at hx
theorem je9 {P:Program} {tb:Tabs P} {tab:Tr XE} (hm:P.follows .mixedOrders = true) (ht:yz P tb tab) {n f:Nat} {ars:List BV} {st st':St} {b:BV} (h:jbp tab (run P tab n) f (bits f) ars st = some (b,st')):ci P (ky ars) [] f ars st (fun r s=>r = b ∧ s = st') :=
  (jab ht (jj0 hm ht n) f ars st b st' h).1
end Go.Proofs.YtinffhimfoicdaaGreat.Calc
namespace Go.Proofs.YtinffhimfoicdaaGreat
open Go Go.Proofs.YtinffhimfoicdaaGreat.Calc
set_option maxRecDepth 100000
set_option linter.unusedVariables false
def p0:List Bool:=[]
def p1:List Bool:=[false]
def p2:List Bool:=[true]
def p3:List Bool:=[false,false]
def p4:List Bool:=[true,false]
def p24:List Bool:=[true,false,false,true]
def p25:List Bool:=[false,true,false,true]
def p26:List Bool:=[true,true,false,true]
def p44:List Bool:=[true,false,true,true,false]
def jpb:Nat → Nat → Option (MP × List Nat × List XO)
  | 23,10=>some ((.take 0 (.take 1 (.take 2 (.take 3 (.take 4 (.take 5 (.take 6 (.take 7 (.take 8 (.take 9 (.take 10 (.take 11 (.take 13 (.one 12 (.take 14 .nil))))))))))))))),[],[])
  | 23,15=>some ((.take 0 (.take 1 (.take 2 (.take 3 (.take 4 (.take 5 (.one 6 (.take 7 .nil)))))))),[6],[])
  | 24,6=>some ((.take 0 (.take 1 (.take 2 (.take 3 (.take 4 (.take 5 (.take 6 (.take 7 (.take 8 (.take 9 (.take 10 (.take 11 (.take 12 (.take 13 (.take 14 (.take 15 (.take 16 .nil))))))))))))))))),[],[])
  | 24,17=>some ((.take 0 (.take 1 (.take 2 (.take 3 (.take 4 (.take 5 (.take 6 (.take 7 (.take 8 (.one 9 (.take 10 (.take 11 .nil)))))))))))),[],[(.l 2)])
  | 24,19=>some ((.take 0 (.take 1 (.take 2 (.take 3 (.take 4 (.one 5 (.take 6 (.take 7 .nil)))))))),[],[(.l 2)])
  | 49,1=>some ((.take 0 (.take 1 (.take 2 (.take 3 (.one 4 (.take 5 (.take 6 (.take 7 (.one 8 (.take 9 (.take 10 (.take 11 (.take 12 (.take 13 (.take 14 (.take 15 (.take 16 (.take 17 (.take 18 (.take 19 (.take 20 (.take 21 (.take 22 (.take 23 (.take 24 (.take 25 (.take 26 (.take 27 .nil)))))))))))))))))))))))))))),[4,8],[])
  | 49,5=>some ((.take 0 (.take 1 (.take 2 (.take 3 (.take 4 (.take 5 (.one 6 (.one 7 (.take 8 (.take 9 (.one 10 .nil))))))))))),[10],[])
  | 49,10=>some ((.take 0 (.take 1 (.take 2 (.take 3 (.take 4 (.take 5 (.one 6 (.one 7 (.take 8 (.take 9 (.one 10 .nil))))))))))),[10],[])
  | 49,16=>some ((.take 0 (.take 1 (.take 2 (.take 3 (.take 4 (.take 5 (.one 6 (.one 7 (.take 8 (.take 9 (.one 10 .nil))))))))))),[10],[])
  | 49,21=>some ((.take 0 (.take 1 (.take 2 (.take 3 (.take 4 (.take 5 (.one 6 (.one 7 (.take 8 (.take 9 (.one 10 .nil))))))))))),[10],[])
  | 56,5=>some ((.take 0 (.take 1 (.take 2 (.take 3 (.take 4 (.take 5 (.take 6 (.take 7 (.one 8 (.take 9 (.take 10 .nil))))))))))),[],[(.l 2)])
  | 56,8=>some ((.take 0 (.take 1 (.take 2 (.take 3 (.take 4 (.take 5 (.take 6 (.take 7 (.one 8 (.take 9 (.take 10 .nil))))))))))),[],[(.l 2)])
  | 56,11=>some ((.take 0 (.take 1 (.take 2 (.take 3 (.take 4 (.take 5 (.take 6 (.take 7 (.one 8 (.take 9 (.take 10 .nil))))))))))),[],[(.l 2)])
  | 56,16=>some ((.take 0 (.take 1 (.take 2 (.take 3 (.take 4 (.take 5 (.fl [(false,6),(true,7),(true,8),(true,9),(true,10)] 11 (.one 12 (.take 13 (.take 14 .nil)))))))))),[6],[.no])
  | 69,15=>some ((.take 0 (.take 1 (.take 2 (.take 3 (.take 4 (.take 5 (.take 6 (.one 7 (.take 8 .nil))))))))),[7],[])
  | 73,1=>some ((.take 0 (.take 1 (.one 2 (.take 3 (.take 4 (.take 5 (.take 6 (.take 7 (.take 8 (.take 9 (.take 10 (.take 11 (.take 12 (.take 13 (.take 14 (.take 15 (.take 16 (.one 17 (.take 18 (.take 19 .nil)))))))))))))))))))),[2,17],[])
  | 74,1=>some ((.take 0 (.take 1 (.take 2 (.take 3 (.take 4 (.take 5 (.take 6 (.take 7 (.take 8 (.take 9 (.take 10 (.take 11 .nil)))))))))))),[],[])
  | 86,20=>some ((.take 0 (.take 1 (.take 3 (.take 4 (.one 2 (.one 5 (.take 6 (.take 7 .nil)))))))),[5],[])
  | 86,22=>some ((.take 0 (.take 1 (.take 3 (.take 4 (.take 5 (.take 6 (.one 2 (.take 7 (.take 8 .nil))))))))),[],[])
  | 86,25=>some ((.take 0 (.take 1 (.take 3 (.take 4 (.take 5 (.one 2 (.take 6 (.take 7 .nil)))))))),[],[])
  | 86,27=>some ((.take 0 (.take 1 (.take 3 (.take 4 (.take 6 (.take 7 (.take 8 (.one 2 (.one 5 (.take 9 (.take 10 (.take 11 .nil)))))))))))),[],[])
  | 86,29=>some ((.take 0 (.take 1 (.take 3 (.take 4 (.take 5 (.one 2 (.take 6 (.take 7 .nil)))))))),[],[])
  | 88,9=>some ((.take 0 (.take 1 (.take 2 (.take 3 (.take 4 (.take 5 (.take 6 (.one 7 (.take 8 .nil))))))))),[7],[])
  | 89,7=>some ((.take 0 (.take 1 (.take 2 (.take 3 (.take 4 (.take 5 (.take 6 (.take 7 (.take 8 (.take 9 (.fl [(false,10),(true,11),(true,12),(true,13),(true,14)] 15 (.one 16 (.take 17 (.take 18 .nil)))))))))))))),[10],[.no])
  | 89,11=>some ((.take 0 (.take 1 (.take 2 (.take 3 (.take 4 (.take 5 (.take 6 (.take 7 (.one 8 (.take 9 (.take 10 .nil))))))))))),[],[(.l 4)])
  | 89,24=>some ((.take 0 (.take 1 (.take 2 (.take 3 (.take 4 (.take 5 (.take 6 (.one 7 (.take 8 (.take 9 .nil)))))))))),[],[(.l 4)])
  | 89,30=>some ((.take 0 (.take 1 (.take 2 (.take 3 (.take 4 (.one 5 (.take 6 (.take 7 .nil)))))))),[],[(.l 4)])
  | 102,1=>some ((.take 0 (.take 1 (.take 2 (.take 3 (.take 4 (.take 5 (.take 6 (.take 7 (.take 8 (.take 9 .nil)))))))))),[],[])
  | 102,2=>some ((.take 0 (.take 1 (.take 2 (.take 3 (.take 4 (.take 5 (.take 6 (.take 7 (.take 8 (.take 9 (.take 10 (.take 11 .nil)))))))))))),[],[])
  | 105,5=>some ((.take 0 (.take 1 (.one 2 (.one 3 (.take 4 (.one 5 .nil)))))),[5],[(.l 0)])
  | 106,1=>some ((.take 0 (.take 1 (.one 2 (.take 3 (.take 4 (.take 5 (.take 6 (.take 7 (.take 8 (.take 9 (.take 10 (.take 11 (.take 12 (.take 13 (.take 14 (.take 15 (.take 16 (.one 17 (.take 18 (.take 19 .nil)))))))))))))))))))),[2,17],[])
  | 108,4=>some ((.take 0 (.one 1 (.take 2 (.take 3 (.take 4 (.take 5 (.take 6 (.take 7 (.take 8 (.take 9 (.take 10 (.take 11 (.take 12 (.take 13 (.take 15 (.one 14 (.take 16 (.take 17 .nil)))))))))))))))))),[1],[])
  | 108,5=>some ((.take 0 (.take 1 (.take 2 (.take 3 (.take 4 (.take 5 (.take 6 (.take 7 (.take 8 (.take 9 (.take 10 (.take 11 .nil)))))))))))),[],[])
  | 110,5=>some ((.take 0 (.take 1 (.take 2 (.take 3 (.take 4 (.take 5 (.take 6 (.take 9 (.take 10 (.take 11 (.take 12 (.take 13 (.take 16 (.take 17 (.take 18 (.take 19 (.take 20 (.take 23 (.take 24 (.take 25 (.take 26 (.take 27 (.one 7 (.take 8 (.one 14 (.take 15 (.one 21 (.take 22 (.one 28 (.take 29 (.take 30 .nil))))))))))))))))))))))))))))))),[],[])
  | 120,5=>some ((.take 0 (.take 1 (.take 2 (.take 3 (.take 4 (.take 5 (.take 6 (.take 7 (.take 8 (.take 9 (.take 10 (.take 11 (.take 12 (.take 13 (.take 14 (.take 15 (.one 16 (.take 17 .nil)))))))))))))))))),[16],[])
  | 120,13=>some ((.take 0 (.take 1 (.take 2 (.take 3 (.take 4 (.take 5 (.take 6 (.take 7 (.take 8 (.take 9 (.take 10 (.take 11 (.take 12 .nil))))))))))))),[],[])
  | 120,20=>some ((.take 0 (.take 1 (.take 2 (.take 3 (.take 4 (.take 5 (.take 6 (.one 7 (.take 8 .nil))))))))),[7],[])
  | 121,6=>some ((.take 0 (.take 1 (.take 2 (.take 3 (.take 4 (.take 5 (.take 6 (.fl [(false,7),(true,8),(true,9),(true,10),(true,11)] 12 (.one 13 (.take 14 (.take 15 .nil))))))))))),[7],[.no])
  | 121,39=>some ((.take 0 (.take 1 (.take 2 (.take 3 (.take 4 (.one 5 (.take 6 (.take 7 (.take 8 (.take 9 (.take 10 .nil))))))))))),[5],[])
  | 121,41=>some ((.take 0 (.take 1 (.take 2 (.take 3 (.take 4 (.take 5 (.take 6 (.take 7 (.take 8 (.one 9 (.take 10 (.take 11 (.take 12 (.take 13 (.take 14 .nil))))))))))))))),[9],[])
  | 121,13=>some ((.take 0 (.take 1 (.take 2 (.take 3 (.take 4 (.one 5 (.take 6 (.take 7 (.take 8 (.take 9 (.take 10 .nil))))))))))),[5],[])
  | 121,44=>some ((.take 0 (.take 1 (.take 2 (.take 3 (.take 4 (.one 5 (.take 6 (.one 7 .nil)))))))),[7],[(.l 5)])
  | 124,3=>some ((.take 0 (.take 1 (.take 2 (.take 4 (.one 3 (.one 5 (.take 6 (.take 7 (.one 8 (.take 9 .nil)))))))))),[5,8],[(.l 1)])
  | 130,4=>some ((.take 0 (.take 1 (.take 2 (.take 3 (.take 4 (.take 5 (.take 6 (.take 7 (.take 8 (.take 9 (.take 10 (.take 11 .nil)))))))))))),[],[])
  | 136,2=>some ((.take 0 (.take 1 (.take 2 (.take 3 (.take 4 (.take 5 (.take 6 (.take 7 (.take 8 (.take 9 (.take 10 (.take 11 .nil)))))))))))),[],[])
  | 139,1=>some ((.take 0 (.take 1 (.take 2 (.take 3 (.take 4 (.take 5 (.take 6 (.take 7 (.take 8 (.take 9 (.take 10 (.take 11 (.take 12 (.take 13 (.take 14 (.take 15 (.take 16 (.take 17 (.take 18 .nil))))))))))))))))))),[],[])
  | 141,8=>some ((.take 0 (.take 1 (.take 2 (.take 3 (.take 4 (.take 5 (.one 6 (.take 7 .nil)))))))),[6],[])
  | 143,26=>some ((.take 0 (.take 1 (.take 2 (.take 3 (.one 4 (.take 5 .nil)))))),[4],[])
  | 144,4=>some ((.take 0 (.take 1 (.take 2 (.take 3 (.take 4 (.take 5 (.take 6 .nil))))))),[],[])
  | 144,22=>some ((.take 0 (.take 1 (.take 2 (.take 3 (.one 4 (.take 5 .nil)))))),[],[(.l 9)])
  | 144,29=>some ((.take 0 (.take 1 (.take 2 (.take 3 (.one 4 (.take 5 .nil)))))),[4],[])
  | 150,5=>some ((.take 0 (.take 1 (.take 2 (.take 3 (.take 4 (.fl [(false,5),(true,6),(true,7),(true,8)] 9 (.one 10 (.take 11 .nil)))))))),[5],[.no])
  | 150,11=>some ((.take 0 (.take 1 (.take 2 (.take 3 (.take 4 (.fl [(false,5),(true,6),(true,7),(true,8)] 9 (.one 10 (.take 11 .nil)))))))),[5],[.no])
  | 150,16=>some ((.take 0 (.take 1 (.take 2 (.take 3 (.take 4 (.fl [(false,5),(true,6),(true,7),(true,8)] 9 (.one 10 (.take 11 .nil)))))))),[5],[.no])
  | 152,6=>some ((.take 0 (.take 1 (.take 3 (.fl [(false,4)] 2 (.one 5 (.take 6 (.one 7 .nil))))))),[7],[(.l 0)])
  | 152,9=>some ((.take 0 (.take 2 (.fl [(false,1)] 3 (.take 4 (.one 5 .nil))))),[5],[(.l 0)])
  | 152,11=>some ((.take 0 (.take 2 (.fl [(false,1)] 3 (.take 4 (.one 5 .nil))))),[5],[(.l 0)])
  | 153,3=>some ((.take 0 (.one 1 (.take 2 (.take 3 (.take 4 (.take 5 (.take 6 (.take 7 (.take 8 (.take 9 (.take 10 (.take 11 (.take 12 (.take 13 (.take 14 (.take 15 (.take 16 (.take 17 (.take 18 (.take 19 (.take 20 (.take 21 (.take 22 (.take 23 (.take 24 (.take 25 (.take 26 (.take 27 (.take 28 (.take 29 (.take 30 (.take 31 (.take 32 (.take 33 (.take 34 (.take 35 .nil)))))))))))))))))))))))))))))))))))),[1],[])
  | 153,5=>some ((.take 0 (.take 1 (.take 2 (.take 3 (.take 4 (.take 5 (.take 6 (.take 7 (.take 8 (.take 9 (.take 10 (.take 11 (.take 12 (.one 13 .nil)))))))))))))),[13],[])
  | 154,6=>some ((.take 0 (.take 1 (.take 2 (.take 3 (.take 4 (.take 5 (.take 6 (.take 7 (.take 8 (.take 9 (.take 10 .nil))))))))))),[],[])
  | 155,5=>some ((.take 0 (.take 1 (.take 2 (.take 3 (.take 4 (.take 5 (.take 6 (.take 7 (.take 8 (.take 9 (.take 10 (.take 11 (.take 12 (.take 13 (.one 14 (.take 15 .nil)))))))))))))))),[14],[])
  | 157,5=>some ((.take 0 (.take 1 (.take 2 (.take 3 (.take 4 (.take 5 (.one 6 (.take 7 .nil)))))))),[6],[])
  | 158,1=>some ((.take 0 (.take 1 (.take 2 (.take 3 (.take 5 (.one 4 (.one 6 (.take 7 (.take 8 (.one 9 (.take 10 .nil))))))))))),[6,9],[(.l 1),(.l 2)])
  | 160,7=>some ((.take 0 (.take 1 (.take 2 (.take 3 (.take 4 (.take 5 (.one 6 (.take 7 .nil)))))))),[6],[])
  | 160,9=>some ((.take 0 (.take 1 (.take 2 (.take 3 (.take 4 (.take 5 (.one 6 (.take 7 .nil)))))))),[6],[])
  | 160,11=>some ((.take 0 (.take 1 (.take 2 (.take 3 (.take 4 (.take 5 (.take 6 (.one 7 (.take 8 (.take 9 (.take 10 (.one 11 (.take 12 .nil))))))))))))),[7],[(.l 6)])
  | 160,12=>some ((.take 0 (.take 1 (.take 2 (.take 3 (.take 4 (.take 5 (.take 6 (.take 7 (.take 8 (.take 9 (.take 10 (.take 11 (.take 12 (.take 13 (.take 14 (.take 15 (.take 16 (.take 17 (.take 18 (.take 19 (.take 20 (.take 21 (.take 22 (.take 23 (.one 24 (.one 25 (.take 26 (.take 27 (.take 28 (.one 29 .nil)))))))))))))))))))))))))))))),[29],[])
  | 162,6=>some ((.take 0 (.take 1 (.take 2 (.take 3 (.take 4 (.take 5 (.take 6 (.take 7 (.take 8 (.take 9 (.take 10 (.one 11 (.take 12 .nil))))))))))))),[11],[])
  | 163,6=>some ((.take 0 (.take 1 (.take 2 (.take 3 (.take 4 (.take 5 (.take 6 (.take 7 (.take 8 (.take 9 (.take 10 (.take 11 (.take 12 (.one 13 (.take 14 .nil))))))))))))))),[13],[])
  | 164,6=>some ((.take 0 (.take 1 (.take 2 (.take 3 (.take 4 (.one 5 (.take 6 (.take 7 .nil)))))))),[5],[])
  | 164,15=>some ((.take 0 (.take 1 (.take 2 (.take 3 (.take 4 (.fl [(false,5),(true,6),(true,7),(true,8)] 9 (.one 10 (.take 11 .nil)))))))),[5],[.no])
  | 164,16=>some ((.take 0 (.take 1 (.take 2 (.take 3 (.take 4 (.take 5 (.take 6 (.one 7 (.take 8 (.take 9 .nil)))))))))),[7],[])
  | 166,1=>some ((.take 0 (.take 1 (.take 2 (.take 3 (.take 4 (.take 5 (.take 6 (.take 7 (.take 8 (.one 9 (.take 10 (.take 11 (.take 12 (.one 13 (.take 14 (.take 15 .nil)))))))))))))))),[9,13],[])
  | 168,7=>some ((.take 0 (.take 1 (.take 2 (.take 3 (.take 4 (.take 5 (.take 6 (.take 7 (.take 8 (.take 9 (.take 10 (.take 11 (.take 12 (.take 13 (.take 14 (.one 15 (.take 16 (.take 17 (.take 18 .nil))))))))))))))))))),[15],[])
  | 170,1=>some ((.take 0 (.take 1 (.take 2 (.take 3 (.take 4 (.take 5 (.take 6 (.take 7 (.take 8 (.one 9 (.take 10 .nil))))))))))),[9],[])
  | 170,11=>some ((.take 0 (.take 1 (.take 2 (.take 3 (.take 4 (.take 5 (.take 6 (.take 7 (.take 8 (.take 9 (.fl [(false,10),(true,11),(true,12),(true,13),(true,14)] 15 (.one 16 (.take 17 (.take 18 .nil)))))))))))))),[10],[.no])
  | 170,18=>some ((.take 0 (.take 1 (.take 2 (.take 3 (.one 4 (.take 5 (.one 6 .nil))))))),[6],[(.l 3)])
  | _,_=>none
def jpc:Nat → Nat → Option (List Nat)
  | 23,1=>some [1,4]
  | 23,3=>some [1,4,5,6]
  | 23,5=>some [1,4,5,7]
  | 24,1=>some [2,8,9]
  | 24,3=>some [2,8,9,10]
  | 42,1=>some [2,7,8]
  | 44,1=>some [0,5,6,7]
  | 50,1=>some [1,3]
  | 50,3=>some [1,3,4,5]
  | 50,5=>some [1,3,4,7]
  | 51,1=>some [0,1,7,8,9]
  | 55,1=>some [0,3,4,5]
  | 56,1=>some [1,2,11,12]
  | 66,1=>some [1,2,5]
  | 67,1=>some [1,2,5]
  | 69,1=>some [1,4]
  | 69,3=>some [1,6]
  | 70,1=>some [0,3]
  | 71,2=>some [0,1,4,7]
  | 71,4=>some [0,1,4,7]
  | 71,6=>some [0,1,4,7]
  | 77,1=>some [0,3]
  | 78,1=>some [0,1,5]
  | 82,1=>some [1,3,4]
  | 82,3=>some [1,3,4,5,6]
  | 82,5=>some [1,3,4,5,7]
  | 86,2=>some [1,2,10]
  | 87,1=>some [1,3]
  | 88,1=>some [1,4]
  | 88,3=>some [1,4,5]
  | 89,1=>some [2,3,4,7,8]
  | 89,3=>some [2,3,4,7,13,14]
  | 95,1=>some [0,1,5]
  | 97,2=>some [0,1,4,6,7,8,9,10]
  | 100,1=>some [0,1,5]
  | 101,1=>some [0,4,5]
  | 108,1=>some [0,1,4,5]
  | 109,1=>some [0,3,4]
  | 110,1=>some [0,3,4]
  | 111,1=>some [0,1,5]
  | 119,1=>some [0,1,2,7]
  | 119,3=>some [0,1,2,7,8,9]
  | 120,1=>some [2,3,4,7,8]
  | 120,3=>some [2,3,4,7,9]
  | 120,5=>some [2,3,4,7,9,10]
  | 120,7=>some [2,3,4,7,11]
  | 121,1=>some [3,4,5,6,9,10,11]
  | 130,1=>some [0,1,5,6,7]
  | 131,1=>some [0,3]
  | 141,1=>some [2,4,6,8,9]
  | 148,1=>some [0,1,6,7,8]
  | 150,1=>some [1,2,3,6,8,9]
  | 150,3=>some [3,6,8,12]
  | 150,5=>some [3,6,8,12,13,15,16]
  | 151,1=>some [1,5,6,7]
  | 152,1=>some [0,3,4]
  | 154,1=>some [0,1,5]
  | 155,1=>some [5,7,8]
  | 156,1=>some [1,2,5]
  | 157,1=>some [2,3,6,8,9]
  | 161,1=>some [0,3]
  | 162,1=>some [2,3,4,7]
  | 163,1=>some [3,4,5,7]
  | 164,1=>some [2,3,7,8,9]
  | 164,3=>some [2,3,7,8,9,10,11]
  | 164,5=>some [2,3,7,8,9,10,11,12,13]
  | 170,1=>some [0,3,4,6,7,8,9,10]
  | _,_=>none
def vy:Tabs Tryz.prog:=⟨jny,jnz,jn0,jn1,tyT,plT,elT,udT⟩
end Go.Proofs.YtinffhimfoicdaaGreat
