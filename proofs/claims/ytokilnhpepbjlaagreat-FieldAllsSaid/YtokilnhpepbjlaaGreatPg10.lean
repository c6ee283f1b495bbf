/- Texts of the claim, merged: Calc13, Calc14, Plans. No conditions. -/
import Derived.Test.YtokilnhpepbjlaaGreatPg3
import Derived.Test.YtokilnhpepbjlaaGreatPg1
namespace Go.Proofs.YtokilnhpepbjlaaGreat.Calc
open Go Go.RowKit
set_option linter.unusedVariables false
set_option linter.unusedSimpArgs false
def bitsF : Nat → Nat → List Bool
  | 0,_ => []
  | _ + 1,0 => []
  | f + 1,n + 1 => (n % 2 == 1) :: bitsF f (n / 2)
def bits (n : Nat) : List Bool := bitsF n n
def unbits : List Bool → Nat
  | [] => 0
  | b :: p => if b = true then 2 * unbits p + 2 else 2 * unbits p + 1
theorem unbitsF : ∀ f n,n ≤ f → unbits (bitsF f n) = n
  | 0,n,h => by
    obtain rfl : n = 0 := by omega
    rfl
  | f + 1,0,h => rfl
  | f + 1,n + 1,h => by
    rw [bitsF,unbits,unbitsF f (n / 2) (by omega)]
    have := Nat.mod_two_eq_zero_or_one n
    rcases this with e | e
    · rw [e]
      simp only [Nat.reduceBEq,Bool.false_eq_true,if_false]
      omega
    · rw [e]
      simp only [BEq.rfl,if_true]
      omega
theorem bits_inj {n m : Nat} (h : bits n = bits m) : n = m := by
  have := congrArg unbits h
  rwa [bits,bits,unbitsF n n (Nat.le_refl _),unbitsF m m (Nat.le_refl _)] at this
inductive Tr (α : Type) where
  | e
  | n (v : Option α) (l r : Tr α)
def Tr.get {α : Type} : Tr α → List Bool → Option α
  | .e,_ => none
  | .n v _ _,[] => v
  | .n _ l r,b :: p => cond b (r.get p) (l.get p)
def Tr.one {α : Type} : List Bool → α → Tr α
  | [],x => .n (some x) .e .e
  | b :: p,x => cond b (.n none .e (Tr.one p x)) (.n none (Tr.one p x) .e)
def Tr.set {α : Type} : Tr α → List Bool → α → Tr α
  | .e,p,x => Tr.one p x
  | .n _ l r,[],x => .n (some x) l r
  | .n v l r,b :: p,x => cond b (.n v l (r.set p x)) (.n v (l.set p x) r)
theorem Tr.get_one {α : Type} (x : α) : ∀ p q : List Bool,(Tr.one p x).get q = if q = p then some x else none
  | [],[] => rfl
  | [],b :: q => by cases b <;> simp [Tr.one,Tr.get]
  | b :: p,[] => by cases b <;> simp [Tr.one,Tr.get]
  | b :: p,c :: q => by
    cases b <;> cases c <;> simp [Tr.one,Tr.get,Tr.get_one x p q]
theorem Tr.get_set {α : Type} (x : α) : ∀ (t : Tr α) (p q : List Bool),(t.set p x).get q = if q = p then some x else t.get q
  | .e,p,q => by
    simp only [Tr.set,Tr.get_one]
    cases q <;> rfl
  | .n v l r,[],[] => by simp [Tr.set,Tr.get]
  | .n v l r,[],b :: q => by simp [Tr.set,Tr.get]
  | .n v l r,b :: p,[] => by cases b <;> simp [Tr.set,Tr.get]
  | .n v l r,b :: p,c :: q => by
    cases b <;> cases c <;> simp [Tr.set,Tr.get,Tr.get_set x l p q,Tr.get_set x r p q]
abbrev RL := List (Nat × BV)
def getL : RL → Nat → Option BV
  | [],_ => none
  | (d,b) :: r,t => cond (Nat.beq d t) (some b) (getL r t)
def setL : RL → Nat → BV → RL
  | [],d,b => [(d,b)]
  | (c,x) :: r,d,b => cond (Nat.beq c d) ((d,b) :: r) ((c,x) :: setL r d b)
theorem beq_cases (a b : Nat) : (Nat.beq a b = true ∧ a = b) ∨ (Nat.beq a b = false ∧ a ≠ b) := by
  by_cases h : a = b
  · subst h;exact .inl ⟨by simp,rfl⟩
  · refine .inr ⟨?_,h⟩
    rw [Bool.eq_false_iff]
    exact fun e => h (Nat.eq_of_beq_eq_true e)
theorem getL_cons (d : Nat) (b : BV) (r : RL) (t : Nat) : getL ((d,b) :: r) t = if t = d then some b else getL r t := by
  rw [getL]
  rcases beq_cases d t with ⟨h,e⟩ | ⟨h,e⟩
  · rw [h,if_pos e.symm];rfl
  · rw [h,if_neg (fun x => e x.symm)];rfl
theorem getL_set : ∀ (r : RL) (d : Nat) (b : BV) (t : Nat),getL (setL r d b) t = if t = d then some b else getL r t
  | [],d,b,t => getL_cons d b [] t
  | (c,x) :: r,d,b,t => by
    rw [setL]
    rcases beq_cases c d with ⟨h,e⟩ | ⟨h,e⟩
    · subst e
      rw [h]
      show getL ((c,b) :: r) t = _
      rw [getL_cons,getL_cons]
      split <;> rfl
    · rw [h]
      show getL ((c,x) :: setL r d b) t = _
      rw [getL_cons,getL_cons,getL_set r d b t]
      by_cases h1 : t = c
      · rw [if_pos h1,if_neg (fun e' => e (h1.symm.trans e'))]
        rw [if_pos h1]
      · rw [if_neg h1,if_neg h1]
abbrev RT := RL × RL
variable (loc : Nat → Bool)
def rgx (r : RT) : Rg := fun t => cond (loc t) (getL r.1 t) (getL r.2 t)
inductive XT where
  | no
  | l (n : Nat)
  | t (n : Nat)
def xt : Option Nat → XT
  | none => .no
  | some d => cond (loc d) (.l d) (.t d)
def putX (r : RT) (d : XT) (b : BV) : RT := match d with
  | .no => r
  | .l n => (setL r.1 n b,r.2)
  | .t n => (r.1,(n,b) :: r.2)
theorem rgx_put (r : RT) (d : Option Nat) (b : BV) : rgx loc (putX r (xt loc d) b) = updO (rgx loc r) d b := by
  cases d with
  | none => rfl
  | some d =>
    funext t
    simp only [xt,updO,upd,rgx]
    cases hd : loc d
    · simp only [cond_false,putX,getL_cons]
      by_cases h : t = d
      · subst h;rw [hd,if_pos rfl,if_pos rfl];rfl
      · rw [if_neg h,if_neg h]
    · simp only [cond_true,putX,getL_set]
      by_cases h : t = d
      · subst h;rw [hd,if_pos rfl,if_pos rfl];rfl
      · rw [if_neg h,if_neg h]
def initX : List Nat → List BV → RL
  | i :: is,b :: l => (i,b) :: initX is l
  | _,_ => []
theorem init_get : ∀ (n k : Nat) (l : List BV) (t : Nat) (v : BV),getL (initX (List.range' k n) l) t = some v → k ≤ t ∧ l[t - k]? = some v
  | 0,k,l,t,v,h => by cases h
  | n + 1,k,[],t,v,h => by cases h
  | n + 1,k,b :: l,t,v,h => by
    rw [List.range'_succ,initX,getL_cons] at h
    split at h
    · rename_i e
      subst e
      obtain rfl := Option.some.inj h
      exact ⟨Nat.le_refl _,by simp⟩
    · obtain ⟨h1,h2⟩ := init_get n (k + 1) l t v h
      refine ⟨by omega,?_⟩
      rw [show t - k = (t - (k + 1)) + 1 by omega,List.getElem?_cons_succ]
      exact h2
inductive XO where
  | l (n : Nat)
  | t (n : Nat)
  | c (b : BV)
  | no
def xo : Operand → XO
  | .tmp t => cond (loc t) (.l t) (.t t)
  | .const v => match constB v with
    | some b => .c b
    | none => .no
  | .func f => .c (.fn f [])
  | .global _ => .no
def evX (r : RT) : XO → Option BV
  | .l n => getL r.1 n
  | .t n => getL r.2 n
  | .c b => some b
  | .no => none
theorem evX_eq (r : RT) (o : Operand) : evX r (xo loc o) = evB (rgx loc r) o := by
  cases o with
  | tmp t => simp only [xo,evB,rgx];cases loc t <;> rfl
  | const v => simp only [xo,evB];cases constB v <;> rfl
  | func f => rfl
  | global g => rfl
def evXs (r : RT) : List XO → Option (List BV)
  | [] => some []
  | o :: l => match evX r o,evXs r l with
    | some b,some bs => some (b :: bs)
    | _,_ => none
theorem evXs_eq (r : RT) : ∀ l : List Operand,evXs r (l.map (xo loc)) = evBs (rgx loc r) l
  | [] => rfl
  | o :: l => by
    simp only [List.map_cons,evXs,evBs,evX_eq,evXs_eq r l]
    rfl
inductive XI where
  | mv (x : XO)
  | pick (c a b : XO)
  | bin (f : BinOp) (x y : XO) (op : Op)
  | not (x : XO)
  | idx (x i : XO) (op : Op)
  | fa (o : Nat) (x : XO)
  | ia (sz : Nat) (x i : XO)
  | ld (ag : Bool) (sz : Nat) (x : XO)
  | nc (x : XO)
  | ex (x : XO) (i : Nat)
  | st (sz : Nat) (x v : XO)
  | lens (x : XO)
  | lenr (x : XO)
  | sls (x : XO) (lo hi : Option XO)
  | cs (f : Nat) (p : List Bool) (ars : List XO)
  | cl (f : XO) (ars : List XO)
  | gen (op : Op)
structure Tabs (P : Program) where
  ty : Nat → Option (Bool × Nat × List BV)
  pl : Nat → Option (List (Nat × Nat) × List BV)
  el : Nat → Option (Nat × Nat)
  ud : Nat → Option TypeDesc
  tyH : ∀ {t r},ty t = some r → tyOf P t = some r
  plH : ∀ {t r},pl t = some r → plOf P t = some r
  elH : ∀ {t r},el t = some r → elOf P t = some r
  udH : ∀ {t r},ud t = some r → P.underlying t = some r
def compI {P : Program} (tb : Tabs P) : Op → XI
  | .move x => .mv (xo loc x)
  | .assign x => .mv (xo loc x)
  | .pick c a b => .pick (xo loc c) (xo loc a) (xo loc b)
  | .binOp f t x y ty => .bin f (xo loc x) (xo loc y) (.binOp f t x y ty)
  | .unOp f t x => match f with
    | .not => .not (xo loc x)
    | _ => .gen (.unOp f t x)
  | .index t x i => match tb.ud t with
    | some .string => .idx (xo loc x) (xo loc i) (.index t x i)
    | _ => .gen (.index t x i)
  | .fieldAddr s x f => match tb.pl s with
    | some (pl,_) => match pl[f]? with
      | some (o,sz) => if sz = 0 then .gen (.fieldAddr s x f) else .fa o (xo loc x)
      | none => .gen (.fieldAddr s x f)
    | none => .gen (.fieldAddr s x f)
  | .indexAddr t x i => match tb.el t with
    | some (_,sz) => .ia sz (xo loc x) (xo loc i)
    | none => .gen (.indexAddr t x i)
  | .load t x => match tb.ty t with
    | some (ag,sz,_) => .ld ag sz (xo loc x)
    | none => .gen (.load t x)
  | .nilCheck x => .nc (xo loc x)
  | .extract x i => .ex (xo loc x) i
  | .store t x v => match tb.ty t with
    | some (_,sz,_) => .st sz (xo loc x) (xo loc v)
    | none => .gen (.store t x v)
  | .call c => match c.callee with
    | .value (.func f) => .cs f (bits f) (c.args.toList.map (xo loc))
    | .value f => .cl (xo loc f) (c.args.toList.map (xo loc))
    | .builtin .len => match c.args.toList,c.argTypes.toList with
      | [x],[t] => match tb.ud t,tb.el t with
        | some .string,_ => .lens (xo loc x)
        | _,some _ => .lenr (xo loc x)
        | _,_ => .gen (.call c)
      | _,_ => .gen (.call c)
    | _ => .gen (.call c)
  | .slice t x lo hi mx => match mx,tb.ud t with
    | none,some .string => .sls (xo loc x) (lo.map (xo loc)) (hi.map (xo loc))
    | _,_ => .gen (.slice t x lo hi mx)
  | op => .gen op
def eqU : List UInt8 → List UInt8 → Bool
  | [],[] => true
  | a :: l,b :: m => Nat.beq a.toNat b.toNat && eqU l m
  | _,_ => false
theorem eqU_eq : ∀ l m : List UInt8,eqU l m = decide (l = m)
  | [],[] => rfl
  | [],b :: m => by simp [eqU]
  | a :: l,[] => by simp [eqU]
  | a :: l,b :: m => by
    have : Nat.beq a.toNat b.toNat = decide (a = b) := by
      by_cases h : a = b
      · subst h;simp
      · rw [decide_eq_false h,Bool.eq_false_iff]
        intro e
        exact h (UInt8.toNat_inj.1 (Nat.eq_of_beq_eq_true e))
    rw [eqU,this,eqU_eq l m]
    by_cases h1 : a = b <;> by_cases h2 : l = m <;> simp [h1,h2]
def eqS (a b : ByteArray) : Bool := eqU a.data.toList b.data.toList
theorem eqS_eq (a b : ByteArray) : eqS a b = decide (a = b) := by
  rw [eqS,eqU_eq]
  by_cases h : a = b
  · subst h;simp
  · rw [decide_eq_false h,decide_eq_false]
    intro e
    apply h
    cases a;cases b
    congr
    exact Array.ext' e
def catS (a b : ByteArray) : ByteArray := ⟨(a.data.toList ++ b.data.toList).toArray⟩
def subS (s : ByteArray) (l h : Nat) : ByteArray := ⟨((s.data.toList.drop l).take (h - l)).toArray⟩
def lenS (s : ByteArray) : Nat := s.data.toList.length
theorem catS_eq (a b : ByteArray) : catS a b = a ++ b := by
  apply ByteArray.ext
  simp [catS]
theorem subS_eq (s : ByteArray) (l h : Nat) : subS s l h = s.extract l h := by
  apply ByteArray.ext
  apply Array.ext'
  simp [subS]
theorem lenS_eq (s : ByteArray) : lenS s = s.size := rfl
-- What a value is.
def codeK : IntKind → Nat
  | .i64 => 1
  | .u8 => 2
  | .i32 => 3
  | _ => 0
def numV : Value → Option (Nat × Nat)
  | .int k (.ofNat n) => some (codeK k,n)
  | _ => none
def numB : BV → Option (Nat × Nat)
  | .d (.flat v) => numV v
  | _ => none
def strV : Value → Option ByteArray
  | .string s => some s
  | _ => none
def strB : BV → Option ByteArray
  | .d (.flat v) => strV v
  | _ => none
def boolV : Value → Option Bool
  | .bool t => some t
  | _ => none
def boolB : BV → Option Bool
  | .d (.flat v) => boolV v
  | _ => none
def ptrB : BV → Option (Nat × Nat)
  | .ptr id off => some (id,off)
  | _ => none
def eptrB : BV → Option (List DV)
  | .eptr cs => some cs
  | _ => none
def tupB : BV → Option (List BV)
  | .tup l => some l
  | _ => none
def fnB : BV → Option (Nat × List BV)
  | .fn f l => some (f,l)
  | _ => none
theorem numB_eq {b : BV} {c n : Nat} (h : numB b = some (c,n)) : ∃ k,b = .d (.flat (.int k (.ofNat n))) ∧ codeK k = c := by
  unfold numB at h
  split at h
  · unfold numV at h
    split at h
    · simp only [Option.some.injEq,Prod.mk.injEq] at h
      obtain ⟨rfl,rfl⟩ := h
      exact ⟨_,rfl,rfl⟩
    · cases h
  · cases h
theorem strB_eq {b : BV} {s : ByteArray} (h : strB b = some s) : b = .d (.flat (.string s)) := by
  unfold strB at h
  split at h
  · unfold strV at h
    split at h
    · obtain rfl := Option.some.inj h;rfl
    · cases h
  · cases h
theorem boolB_eq {b : BV} {t : Bool} (h : boolB b = some t) : b = .d (.flat (.bool t)) := by
  unfold boolB at h
  split at h
  · unfold boolV at h
    split at h
    · obtain rfl := Option.some.inj h;rfl
    · cases h
  · cases h
theorem ptrB_eq {b : BV} {id off : Nat} (h : ptrB b = some (id,off)) : b = .ptr id off := by
  unfold ptrB at h
  split at h
  · simp only [Option.some.injEq,Prod.mk.injEq] at h
    obtain ⟨rfl,rfl⟩ := h;rfl
  · cases h
theorem eptrB_eq {b : BV} {cs : List DV} (h : eptrB b = some cs) : b = .eptr cs := by
  unfold eptrB at h
  split at h
  · obtain rfl := Option.some.inj h;rfl
  · cases h
theorem tupB_eq {b : BV} {l : List BV} (h : tupB b = some l) : b = .tup l := by
  unfold tupB at h
  split at h
  · obtain rfl := Option.some.inj h;rfl
  · cases h
theorem fnB_eq {b : BV} {f : Nat} {l : List BV} (h : fnB b = some (f,l)) : b = .fn f l := by
  unfold fnB at h
  split at h
  · simp only [Option.some.injEq,Prod.mk.injEq] at h
    obtain ⟨rfl,rfl⟩ := h;rfl
  · cases h
theorem codeK_inj {j k : IntKind} (h : codeK j = codeK k) (hn : codeK j ≠ 0) : j = k := by
  cases j <;> cases k <;> first | rfl | (simp [codeK] at h hn)
def vBo (t : Bool) : Option BV := some (.d (.flat (.bool t)))
def addX (c a b : Nat) : Option BV := cond (Nat.beq c 1 && Nat.blt (a + b) 9223372036854775807) (some (.d (.flat (.int .i64 (.ofNat (a + b)))))) none
def subX (c a b : Nat) : Option BV := cond (Nat.beq c 1 && (Nat.ble b a && Nat.blt a 9223372036854775807)) (some (.d (.flat (.int .i64 (.ofNat (a - b)))))) none
def lssX (c a b : Nat) : Option BV := vBo (Nat.ble (a + 1) b)
def leqX (c a b : Nat) : Option BV := vBo (Nat.ble a b)
def gtrX (c a b : Nat) : Option BV := vBo (Nat.ble (b + 1) a)
def geqX (c a b : Nat) : Option BV := vBo (Nat.ble b a)
def eqlX (c a b : Nat) : Option BV := vBo (Nat.beq a b)
def neqX (c a b : Nat) : Option BV := vBo (!(Nat.beq a b))
def noX (c a b : Nat) : Option BV := none
def natX : BinOp → Nat → Nat → Nat → Option BV
  | .add => addX
  | .sub => subX
  | .lss => lssX
  | .leq => leqX
  | .gtr => gtrX
  | .geq => geqX
  | .eql => eqlX
  | .neq => neqX
  | _ => noX
def seqX (a b : ByteArray) : Option BV := vBo (eqS a b)
def sneX (a b : ByteArray) : Option BV := vBo (!(eqS a b))
def scatX (a b : ByteArray) : Option BV := cond (Nat.ble (lenS a + lenS b) 9223372036854775807) (some (.d (.flat (.string (catS a b))))) none
def snoX (a b : ByteArray) : Option BV := none
def strX : BinOp → ByteArray → ByteArray → Option BV
  | .eql => seqX
  | .neq => sneX
  | .add => scatX
  | _ => snoX
def binX (f : BinOp) (a b : BV) : Option BV :=
  match numB a with
  | some (c,m) => match numB b with
    | some (d,n) => cond (Nat.beq c d && !(Nat.beq c 0)) (natX f c m n) none
    | none => none
  | none => match strB a with
    | some s => match strB b with
      | some t => strX f s t
      | none => none
    | none => none
def idxX (a b : BV) : Option BV :=
  match strB a with
  | some s => match numB b with
    | some (_,i) => match s.data.toList[i]? with
      | some u => some (.d (.flat (.int .u8 (.ofNat u.toNat))))
      | none => none
    | none => none
  | none => none
def bndX (r : RT) (d : Nat) : Option XO → Option Nat
  | none => some d
  | some o => match evX r o with
    | some b => match numB b with
      | some (_,n) => some n
      | none => none
    | none => none
def slsX (s : ByteArray) (l h : Nat) : Option BV := cond (Nat.ble l h && Nat.ble h (lenS s)) (some (.d (.flat (.string (subS s l h))))) none
def partX (ag : Bool) (sz off : Nat) (cs : List BV) : Option BV := cond (!ag && Nat.beq sz 1) (cs[off]?) (part ag sz off cs)
def stV (P : Program) (st : St) (r : RT) : XI → Option BV
  | .mv x => evX r x
  | .pick c a b => match evX r c with
    | some v => match boolB v with
      | some t => cond t (evX r a) (evX r b)
      | none => none
    | none => none
  | .bin f x y op => match evX r x with
    | some a => match evX r y with
      | some b => match binX f a b with
        | some v => some v
        | none => stepV P st (rgx loc r) op
      | none => none
    | none => none
  | .not x => match evX r x with
    | some b => match boolB b with
      | some t => some (.d (.flat (.bool (!t))))
      | none => none
    | none => none
  | .idx x i op => match evX r x with
    | some a => match evX r i with
      | some b => match idxX a b with
        | some v => some v
        | none => stepV P st (rgx loc r) op
      | none => none
    | none => none
  | .fa o x => match evX r x with
    | some b => match ptrB b with
      | some (id,off) => some (.ptr id (off + o))
      | none => match eptrB b with
        | some cs => some (.eptr (cs.drop o))
        | none => none
    | none => none
  | .ia sz x i => match evX r x with
    | some a => match evX r i with
      | some b => match rowB a with
        | some (cs,n) => match numB b with
          | some (_,j) => cond (Nat.ble (j + 1) n) (some (.eptr ((cs.drop (j * sz)).take sz))) none
          | none => none
        | none => none
      | none => none
    | none => none
  | .ld ag sz x => match evX r x with
    | some b => match ptrB b with
      | some (id,off) => match st.S[id]? with
        | some (cs,_) => partX ag sz off cs
        | none => none
      | none => match eptrB b with
        | some cs => partX ag sz 0 (cs.map .d)
        | none => none
    | none => none
  | .nc x => match evX r x with
    | some b => match ptrB b with
      | some _ => some b
      | none => match eptrB b with
        | some _ => some b
        | none => match fnB b with
          | some _ => some b
          | none => none
    | none => none
  | .ex x i => match evX r x with
    | some b => match tupB b with
      | some l => l[i]?
      | none => none
    | none => none
  | .lens x => match evX r x with
    | some b => match strB b with
      | some s => some (.d (.flat (.int .i64 (.ofNat (lenS s)))))
      | none => none
    | none => none
  | .lenr x => match evX r x with
    | some b => match rowB b with
      | some (_,n) => some (.d (.flat (.int .i64 (.ofNat n))))
      | none => none
    | none => none
  | .sls x lo hi => match evX r x with
    | some b => match strB b with
      | some s => match bndX r 0 lo with
        | some l => match bndX r (lenS s) hi with
          | some h => slsX s l h
          | none => none
        | none => none
      | none => none
    | none => none
  | .gen op => stepV P st (rgx loc r) op
  | .st _ _ _ => none
  | .cs _ _ _ => none
  | .cl _ _ => none
theorem part_eq {ag : Bool} {sz off : Nat} {cs : List BV} {b : BV} (h : partX ag sz off cs = some b) : part ag sz off cs = some b := by
  unfold partX at h
  cases ag
  · rcases beq_cases sz 1 with ⟨h1,rfl⟩ | ⟨h1,_⟩
    · rw [h1] at h
      simp only [Bool.not_false,Bool.and_self,cond_true] at h
      have hlt := (List.getElem?_eq_some_iff.1 h).1
      unfold part
      rw [if_pos (by omega),if_neg (by decide)]
      have : (cs.drop off).take 1 = [b] := by
        rw [List.drop_eq_getElem_cons hlt]
        simp only [List.take_succ_cons,List.take_zero]
        rw [(List.getElem?_eq_some_iff.1 h).2]
      rw [this]
    · rw [h1] at h
      exact h
  · exact h
theorem fl_of {ρ : Rg} {o : Operand} {v : Value} (h : evB ρ o = some (.d (.flat v))) : fl ρ o = some v := by
  rw [fl,h];rfl
theorem ofNat_eq (n : Nat) : Int.ofNat n = (n : Int) := rfl
theorem cond_some {c : Bool} {x : Option BV} {v : BV} (h : cond c x none = some v) : c = true ∧ x = some v := by
  cases c
  · cases h
  · exact ⟨rfl,h⟩
theorem binX_run {P : Program} {st : St} {ρ : Rg} {f : BinOp} {t ty : Nat} {x y : Operand} {a b v : BV} (hx : evB ρ x = some a) (hy : evB ρ y = some b) (h : binX f a b = some v) : stepV P st ρ (.binOp f t x y ty) = some v := by
  unfold binX at h
  split at h
  · rename_i c m ha
    split at h
    · rename_i d n hb
      obtain ⟨hcd,h⟩ := cond_some h
      rw [Bool.and_eq_true,Bool.not_eq_true'] at hcd
      obtain ⟨k,rfl,hk⟩ := numB_eq ha
      obtain ⟨k',rfl,hk'⟩ := numB_eq hb
      have e := Nat.eq_of_beq_eq_true hcd.1
      have hne : codeK k ≠ 0 := by
        rw [hk]
        intro e0
        rw [e0] at hcd
        exact absurd hcd.2 (by decide)
      obtain rfl := codeK_inj (hk.trans (e.trans hk'.symm)) hne
      have g1 := fl_of hx
      have g2 := fl_of hy
      have one : ∀ {c : Nat} {q : Bool},codeK k = c → (Nat.beq c 1 && q) = true → k = .i64 ∧ q = true := fun {c q} hc hq => by
        rw [Bool.and_eq_true] at hq
        have := Nat.eq_of_beq_eq_true hq.1
        refine ⟨?_,hq.2⟩
        subst hc
        revert this
        cases k <;> simp [codeK]
      unfold natX at h
      split at h
      · obtain ⟨h1,h⟩ := cond_some h
        obtain ⟨rfl,h1⟩ := one hk h1
        obtain rfl := Option.some.inj h
        have := Nat.le_of_ble_eq_true h1
        exact E_add64 g1 g2 rfl ⟨by simp only [ofNat_eq];omega,by simp only [ofNat_eq];omega⟩
      · obtain ⟨h1,h⟩ := cond_some h
        obtain ⟨rfl,h1⟩ := one hk h1
        obtain rfl := Option.some.inj h
        rw [Bool.and_eq_true] at h1
        have e1 := Nat.le_of_ble_eq_true h1.1
        have e2 := Nat.le_of_ble_eq_true h1.2
        exact E_sub64 g1 g2 (by simp only [ofNat_eq];omega) ⟨by simp only [ofNat_eq];omega,by simp only [ofNat_eq];omega⟩
      · obtain rfl := Option.some.inj h
        rw [E_lss g1 g2];congr;rw [Bool.eq_iff_iff];simp [Nat.lt_iff_add_one_le]
      · obtain rfl := Option.some.inj h
        rw [E_leq g1 g2];congr;rw [Bool.eq_iff_iff];simp
      · obtain rfl := Option.some.inj h
        rw [E_gtr g1 g2];congr;rw [Bool.eq_iff_iff];simp [Nat.lt_iff_add_one_le]
      · obtain rfl := Option.some.inj h
        rw [E_geq g1 g2];congr;rw [Bool.eq_iff_iff];simp
      · obtain rfl := Option.some.inj h
        rw [E_eql g1 g2];congr;rw [Bool.eq_iff_iff];simp only [decide_eq_true_eq,Nat.beq_eq,ofNat_eq,beq_iff_eq];omega
      · obtain rfl := Option.some.inj h
        rw [E_neq g1 g2];congr
        rcases beq_cases m n with ⟨h1,rfl⟩ | ⟨h1,hne⟩
        · rw [h1];simp
        · rw [h1]
          simp only [ofNat_eq,Bool.not_false,decide_eq_true_eq]
          omega
      · cases h
    · cases h
  · split at h
    · rename_i s ha
      split at h
      · rename_i u hb
        obtain rfl := strB_eq ha
        obtain rfl := strB_eq hb
        unfold strX at h
        split at h
        · obtain rfl := Option.some.inj h
          rw [E_seql (fl_of hx) (fl_of hy),eqS_eq]
        · obtain rfl := Option.some.inj h
          rw [E_sneq (fl_of hx) (fl_of hy),eqS_eq]
          congr 6
          simp
        · obtain ⟨hlt,h⟩ := cond_some h
          obtain rfl := Option.some.inj h
          have := Nat.le_of_ble_eq_true hlt
          rw [lenS_eq,lenS_eq] at this
          rw [E_cat (fl_of hx) (fl_of hy) this,catS_eq]
        · cases h
      · cases h
    · cases h
def stoX (ok : Nat → Bool) (st : St) (sz id off : Nat) (b : BV) : Option (St × Option BV) :=
  match st.S[id]? with
  | some (cs,ty) => cond (ok id && (cellOK b && (Nat.beq (cellsOfB b).length sz && Nat.ble (off + sz) cs.length))) (some (⟨st.S.set id (putL off (cellsOfB b) cs,ty),st.T,st.M⟩,none)) none
  | none => none
def stW (P : Program) (ok : Nat → Bool) (st : St) (r : RT) : XI → Option (St × Option BV)
  | .st sz x v => match evX r x with
    | some a => match ptrB a with
      | some (id,off) => match evX r v with
        | some b => stoX ok st sz id off b
        | none => none
      | none => none
    | none => none
  | .gen op => match stepV P st (rgx loc r) op with
    | some b => some (st,some b)
    | none => stepW P ok st (rgx loc r) op
  | i => match stV loc P st r i with
    | some b => some (st,some b)
    | none => none
theorem bnd_eq {ρ : Rg} {r : RT} (hρ : rgx loc r = ρ) {d k : Nat} {o : Option Operand} (h : bndX r d (o.map (xo loc)) = some k) : ∃ v,flO ρ o = some v ∧ ((v = none ∧ k = d) ∨ ∃ kd n,v = some (.int kd n) ∧ 0 ≤ n ∧ k = n.toNat) := by
  cases o with
  | none =>
    obtain rfl := Option.some.inj h
    exact ⟨none,rfl,.inl ⟨rfl,rfl⟩⟩
  | some o =>
    simp only [Option.map_some,bndX,evX_eq,hρ] at h
    split at h
    · rename_i b hb
      split at h
      · rename_i c n hn
        obtain rfl := Option.some.inj h
        obtain ⟨kd,rfl,_⟩ := numB_eq hn
        exact ⟨some (.int kd (.ofNat n)),by simp only [flO,fl_of hb,Option.map_some],.inr ⟨kd,_,rfl,by simp only [ofNat_eq];omega,by simp⟩⟩
      · cases h
    · cases h
theorem stV_run {P : Program} (tb : Tabs P) {st : St} {r : RT} {op : Op} {b : BV} (h : stV loc P st r (compI loc tb op) = some b) : stepV P st (rgx loc r) op = some b := by
  have gen : ∀ op,stV loc P st r (.gen op) = some b → stepV P st (rgx loc r) op = some b := fun op h => h
  cases op with
  | move x => exact E_mv (by simpa only [compI,stV,evX_eq] using h)
  | assign x => exact E_as (by simpa only [compI,stV,evX_eq] using h)
  | pick c a d =>
    simp only [compI,stV,evX_eq] at h
    split at h
    · rename_i v hc
      split at h
      · rename_i t ht
        obtain rfl := boolB_eq ht
        cases t
        · rw [E_pkF hc h]
        · rw [E_pkT hc h]
      · cases h
    · cases h
  | binOp f t x y ty =>
    simp only [compI,stV,evX_eq] at h
    split at h
    · rename_i a ha
      split at h
      · rename_i c hc
        split at h
        · rename_i v hv
          obtain rfl := Option.some.inj h
          exact binX_run ha hc hv
        · exact h
      · cases h
    · cases h
  | unOp f t x =>
    cases f with
    | not =>
      simp only [compI,stV,evX_eq] at h
      split at h
      · rename_i v hv
        split at h
        · rename_i c hc
          obtain rfl := Option.some.inj h
          obtain rfl := boolB_eq hc
          exact E_not (fl_of hv)
        · cases h
      · cases h
    | _ => exact gen _ h
  | index t x i =>
    simp only [compI] at h
    split at h
    · rename_i hu
      simp only [stV,evX_eq] at h
      split at h
      · rename_i a ha
        split at h
        · rename_i c hc
          split at h
          · rename_i v hv
            obtain rfl := Option.some.inj h
            unfold idxX at hv
            split at hv
            · rename_i s hs
              split at hv
              · rename_i d i hi
                split at hv
                · rename_i u hu'
                  obtain rfl := Option.some.inj hv
                  obtain rfl := strB_eq hs
                  obtain ⟨k,rfl,_⟩ := numB_eq hi
                  exact E_idxs (tb.udH hu) (fl_of ha) (fl_of hc) (by simp only [ofNat_eq];omega) (by simpa using hu')
                · cases hv
              · cases hv
            · cases hv
          · exact h
        · cases h
      · cases h
    · exact gen _ h
  | fieldAddr s x f =>
    simp only [compI] at h
    split at h
    · rename_i pl z hp
      split at h
      · rename_i o sz hf
        split at h
        · exact gen _ h
        · rename_i hz
          simp only [stV,evX_eq] at h
          split at h
          · rename_i v hx
            split at h
            · rename_i id off hv
              obtain rfl := ptrB_eq hv
              obtain rfl := Option.some.inj h
              exact E_fa (tb.plH hp) hx hf hz
            · split at h
              · rename_i cs hv
                obtain rfl := eptrB_eq hv
                obtain rfl := Option.some.inj h
                exact E_fe (tb.plH hp) hx hf hz
              · cases h
          · cases h
      · exact gen _ h
    · exact gen _ h
  | indexAddr t x i =>
    simp only [compI] at h
    split at h
    · rename_i e sz he
      simp only [stV,evX_eq] at h
      split at h
      · rename_i c hx
        split at h
        · rename_i v hi
          split at h
          · rename_i cs n hr
            split at h
            · rename_i d j hj
              obtain ⟨k,rfl,_⟩ := numB_eq hj
              obtain ⟨hlt,h⟩ := cond_some h
              obtain rfl := Option.some.inj h
              have := Nat.le_of_ble_eq_true hlt
              exact E_ia (tb.elH he) hx hr (fl_of hi) ⟨by simp only [ofNat_eq];omega,by simp only [ofNat_eq];omega⟩
            · cases h
          · cases h
        · cases h
      · cases h
    · exact gen _ h
  | load t x =>
    simp only [compI] at h
    split at h
    · rename_i ag sz z ht
      simp only [stV,evX_eq] at h
      split at h
      · rename_i v hx
        split at h
        · rename_i id off hv
          obtain rfl := ptrB_eq hv
          split at h
          · rename_i cs ty hs
            exact E_ld (tb.tyH ht) hx hs (part_eq h)
          · cases h
        · split at h
          · rename_i cs hv
            obtain rfl := eptrB_eq hv
            exact E_le (tb.tyH ht) hx (part_eq h)
          · cases h
      · cases h
    · exact gen _ h
  | nilCheck x =>
    simp only [compI,stV,evX_eq] at h
    split at h
    · rename_i v hx
      split at h
      · rename_i q hv
        obtain ⟨id,off⟩ := q
        obtain rfl := ptrB_eq hv
        obtain rfl := Option.some.inj h
        exact E_ncp hx
      · split at h
        · rename_i cs hv
          obtain rfl := eptrB_eq hv
          obtain rfl := Option.some.inj h
          exact E_nce hx
        · split at h
          · rename_i q hv
            obtain ⟨f,l⟩ := q
            obtain rfl := fnB_eq hv
            obtain rfl := Option.some.inj h
            exact E_ncf hx
          · cases h
    · cases h
  | extract x i =>
    simp only [compI,stV,evX_eq] at h
    split at h
    · rename_i v hx
      split at h
      · rename_i l hv
        obtain rfl := tupB_eq hv
        exact E_ex hx h
      · cases h
    · cases h
  | store t x v =>
    simp only [compI] at h
    split at h
    · cases h
    · exact gen _ h
  | call c =>
    simp only [compI] at h
    split at h
    · cases h
    · cases h
    · rename_i hce
      split at h
      · rename_i x t ha ht
        have hc : c = { callee := .builtin .len,args := #[x],argTypes := #[t] } := by
          obtain ⟨ce,ar,at'⟩ := c
          simp only at hce ha ht
          subst hce
          congr
          · exact Array.ext' ha
          · exact Array.ext' ht
        rw [hc]
        split at h
        · rename_i hu
          simp only [stV,evX_eq] at h
          split at h
          · rename_i v hv
            split at h
            · rename_i s hs
              obtain rfl := strB_eq hs
              obtain rfl := Option.some.inj h
              exact E_lens (tb.udH hu) hv
            · cases h
          · cases h
        · rename_i el he _
          obtain ⟨e,sz⟩ := el
          simp only [stV,evX_eq] at h
          split at h
          · rename_i b hb
            split at h
            · rename_i cs n hr
              obtain rfl := Option.some.inj h
              exact E_len (tb.elH he) hb hr
            · cases h
          · cases h
        · rw [← hc];exact gen _ h
      · exact gen _ h
    · exact gen _ h
  | slice t x lo hi mx =>
    simp only [compI] at h
    split at h
    · rename_i hu
      simp only [stV,evX_eq] at h
      split at h
      · rename_i v hv
        split at h
        · rename_i s hs
          obtain rfl := strB_eq hs
          split at h
          · rename_i l hl
            split at h
            · rename_i hh hhh
              unfold slsX at h
              obtain ⟨hc,h⟩ := cond_some h
              obtain rfl := Option.some.inj h
              rw [Bool.and_eq_true] at hc
              have h1 := Nat.le_of_ble_eq_true hc.1
              have h2 := Nat.le_of_ble_eq_true hc.2
              rw [lenS_eq] at h2
              obtain ⟨v1,e1,g1⟩ := bnd_eq loc rfl hl
              obtain ⟨v2,e2,g2⟩ := bnd_eq loc rfl hhh
              rw [lenS_eq] at g2
              rw [subS_eq]
              exact E_sls (tb.udH hu) hv e1 e2 g1 g2 h1 h2
            · cases h
          · cases h
        · cases h
      · cases h
    · exact gen _ h
  | _ => exact gen _ h
theorem stW_run {P : Program} (tb : Tabs P) {ok : Nat → Bool} {st st' : St} {r : RT} {op : Op} {b : Option BV} (h : stW loc P ok st r (compI loc tb op) = some (st',b)) :
    (∃ v,b = some v ∧ st' = st ∧ stepV P st (rgx loc r) op = some v) ∨ stepW P ok st (rgx loc r) op = some (st',b) := by
  have gen : ∀ op,stW loc P ok st r (.gen op) = some (st',b) → (∃ v,b = some v ∧ st' = st ∧ stepV P st (rgx loc r) op = some v) ∨ stepW P ok st (rgx loc r) op = some (st',b) := fun op h => by
    simp only [stW] at h
    split at h
    · rename_i v hv
      simp only [Option.some.injEq,Prod.mk.injEq] at h
      exact .inl ⟨v,h.2.symm,h.1.symm,hv⟩
    · exact .inr h
  have vv : ∀ i,i = compI loc tb op → (∀ a c d,i ≠ .st a c d) → (∀ o,i ≠ .gen o) → stW loc P ok st r i = some (st',b) → (∃ v,b = some v ∧ st' = st ∧ stepV P st (rgx loc r) op = some v) ∨ stepW P ok st (rgx loc r) op = some (st',b) := fun i hi h1 h2 h => by
    have h3 : (match stV loc P st r i with | some b => some (st,some b) | none => none) = some (st',b) := by
      cases i with
      | st a c d => exact absurd rfl (h1 a c d)
      | gen o => exact absurd rfl (h2 o)
      | _ => exact h
    split at h3
    · rename_i v hv
      simp only [Option.some.injEq,Prod.mk.injEq] at h3
      exact .inl ⟨v,h3.2.symm,h3.1.symm,stV_run loc tb (hi ▸ hv)⟩
    · cases h3
  by_cases hst : ∃ t x v,op = .store t x v
  · obtain ⟨t,x,v,rfl⟩ := hst
    simp only [compI] at h
    split at h
    · rename_i ag sz z ht
      simp only [stW,evX_eq] at h
      split at h
      · rename_i a hx
        split at h
        · rename_i id off ha
          obtain rfl := ptrB_eq ha
          split at h
          · rename_i c hv
            unfold stoX at h
            split at h
            · rename_i cs ty hs
              cases hok : (ok id && (cellOK c && (Nat.beq (cellsOfB c).length sz && Nat.ble (off + sz) cs.length)))
              · rw [hok] at h;cases h
              · rw [hok] at h
                simp only [Bool.and_eq_true] at hok
                obtain ⟨k1,k2,k3,k4⟩ := hok
                refine .inr ?_
                have k3 := Nat.eq_of_beq_eq_true k3
                have k4 := Nat.le_of_ble_eq_true k4
                simp only [stepW,hx,hv,tb.tyH ht,hs]
                rw [if_pos ⟨k1,k2,k3,k4⟩]
                exact h
            · cases h
          · cases h
        · cases h
      · cases h
    · exact gen _ h
  · by_cases hg : ∃ o,compI loc tb op = .gen o
    · obtain ⟨o,ho⟩ := hg
      have : o = op := by
        cases op <;> simp only [compI] at ho <;> first | (cases ho;done) | (injection ho with e;exact e.symm) | skip
        all_goals
          repeat' split at ho
          all_goals first | (cases ho;done) | (injection ho with e;exact e.symm)
      subst this
      rw [ho] at h
      exact gen _ h
    · refine vv _ rfl (fun a c d e => ?_) (fun o e => hg ⟨o,e⟩) h
      apply hst
      cases op <;> simp only [compI] at e <;> first | (cases e;done) | (exact ⟨_,_,_,rfl⟩) | skip
      all_goals
        repeat' split at e
        all_goals cases e
end Go.Proofs.YtokilnhpepbjlaaGreat.Calc
namespace Go.Proofs.YtokilnhpepbjlaaGreat.Calc
open Go Go.RowKit
set_option linter.unusedVariables false
set_option linter.unusedSimpArgs false
variable (loc : Nat → Bool)
inductive XG where
  | yes
  | g (x : XO) (t : Bool)
  | bad
structure XP where
  d : XT
  g : XG
  i : XI
def compG (ops : Array Oper) : Option (Nat × Bool) → XG
  | none => .yes
  | some (j,t) => match (ops[j]?).bind (fun o : Oper => o.dst) with
    | some d => .g (xo loc (.tmp d)) t
    | none => .bad
def gX (r : RT) : XG → Option Bool
  | .yes => some true
  | .g x t => match evX r x with
    | some v => match boolB v with
      | some b => some (b == t)
      | none => match tupB v with
        | some [] => some false
        | _ => none
    | none => none
  | .bad => none
theorem gX_eq (ops : Array Oper) (r : RT) (g : Option (Nat × Bool)) : gX r (compG loc ops g) = gB ops (rgx loc r) g := by
  cases g with
  | none => rfl
  | some g =>
    obtain ⟨j,t⟩ := g
    simp only [compG,gB]
    split
    · rename_i d hd
      rw [hd]
      simp only [gX,evX_eq]
      show (match rgx loc r d with
        | some v => _
        | none => none) = _
      cases rgx loc r d with
      | none => rfl
      | some v =>
        cases v with
        | d y => cases y with
          | flat u => cases u <;> rfl
          | _ => rfl
        | tup l => cases l <;> rfl
        | _ => rfl
    · rename_i hd
      rw [hd]
      rfl
def compO {P : Program} (tb : Tabs P) (ops : Array Oper) (o : Oper) : XP := ⟨xt loc o.dst,compG loc ops o.guard,compI loc tb o.op⟩
def idsC : List BV → List Nat
  | [] => []
  | .ptr id _ :: l => id :: idsC l
  | _ :: l => idsC l
def idsBs : List BV → List Nat
  | [] => []
  | .ptr id _ :: l => id :: idsBs l
  | .fn _ cap :: l => idsC cap ++ idsBs l
  | _ :: l => idsBs l
abbrev Caller := Nat → List Bool → List BV → St → Option (BV × St)
def CallerOK (P : Program) (call : Caller) : Prop := ∀ g ars st b st',call g (bits g) ars st = some (b,st') → CallT P (idsBs ars) [] g ars st (fun r s => r = b ∧ s = st') ∧ fnOK P g = true ∧ st'.S.length = st.S.length ∧ st'.M.length = st.M.length
def callV (ok : Nat → Bool) (call : Caller) (st : St) (g : Nat) (p : List Bool) (vs : List BV) : Option (St × Option BV) :=
  if (idsBs vs).all ok = true then (match call g p vs st with
    | some (b,st') => some (st',some b)
    | none => none) else none
def stepX (P : Program) (ok : Nat → Bool) (call : Caller) (r : RT) (st : St) (x : XI) : Option (St × Option BV) :=
  match x with
  | .cs g p ars => match evXs r ars with
    | some vs => callV ok call st g p (vs ++ [])
    | none => none
  | .cl f ars => match evX r f with
    | some v => match fnB v with
      | some (g,cap) => match evXs r ars with
        | some vs => callV ok call st g (bits g) (vs ++ cap)
        | none => none
      | none => none
    | none => none
  | i => stW loc P ok st r i
def putW (r : RT) (d : XT) : Option BV → RT
  | some b => putX r d b
  | none => putX r d (.tup [])
def oneX (P : Program) (ok : Nat → Bool) (call : Caller) (x : XP) (r : RT) (st : St) : Option (RT × St) :=
  match gX r x.g with
  | some true => match stepX loc P ok call r st x.i with
    | some (st',b) => some (putW r x.d b,st')
    | none => none
  | some false => some (putX r x.d (.tup []),st)
  | none => none
def runL (P : Program) (ok : Nat → Bool) (call : Caller) : List XP → RT → St → Option (RT × St)
  | [],r,st => some (r,st)
  | x :: l,r,st => match oneX loc P ok call x r st with
    | some (r',st') => runL P ok call l r' st'
    | none => none
def isCall : XI → Bool
  | .cs _ _ _ => true
  | .cl _ _ => true
  | _ => false
theorem callV_eq {ok : Nat → Bool} {call : Caller} {st st' : St} {g : Nat} {p : List Bool} {vs : List BV} {b : Option BV} (h : callV ok call st g p vs = some (st',b)) : (idsBs vs).all ok = true ∧ ∃ v,b = some v ∧ call g p vs st = some (v,st') := by
  unfold callV at h
  split at h
  · rename_i hids
    split at h
    · rename_i v s hcall
      simp only [Option.some.injEq,Prod.mk.injEq] at h
      obtain ⟨rfl,rfl⟩ := h
      exact ⟨hids,v,rfl,hcall⟩
    · cases h
  · cases h
theorem evF_eq {ρ : Rg} {g : Nat} : evB ρ (.func g) = some (.fn g []) := rfl
theorem call_op {P : Program} (tb : Tabs P) {ok : Nat → Bool} {call : Caller} {op : Op} {r : RT} {st st' : St} {b : Option BV} (hi : isCall (compI loc tb op) = true) (h : stepX loc P ok call r st (compI loc tb op) = some (st',b)) :
    ∃ c g vs v,op = .call c ∧ callB (rgx loc r) c = some (g,vs) ∧ (idsBs vs).all ok = true ∧ b = some v ∧ call g (bits g) vs st = some (v,st') := by
  cases op with
  | call c =>
    simp only [compI] at h hi
    split at h
    · rename_i g hce
      simp only [stepX,evXs_eq] at h
      split at h
      · rename_i vs has
        obtain ⟨h1,v,h2,h3⟩ := callV_eq h
        exact ⟨c,g,vs ++ [],v,rfl,by simp only [callB,hce,evF_eq,has],h1,h2,h3⟩
      · cases h
    · rename_i f _ hce
      simp only [stepX,evX_eq,evXs_eq] at h
      split at h
      · rename_i u hf
        split at h
        · rename_i g cap hu
          obtain rfl := fnB_eq hu
          split at h
          · rename_i vs has
            obtain ⟨h1,v,h2,h3⟩ := callV_eq h
            exact ⟨c,g,vs ++ cap,v,rfl,by simp only [callB,hce,hf,has],h1,h2,h3⟩
          · cases h
        · cases h
      · cases h
    · rename_i hce
      exfalso
      simp only [hce] at hi
      repeat' split at hi
      all_goals cases hi
    · rename_i h1 h2 h3
      exfalso
      split at hi
      · rename_i g hce;exact h1 g hce
      · rename_i f _ hce;exact h2 f hce
      · rename_i hce;exact h3 hce
      · cases hi
  | _ =>
    exfalso
    simp only [compI] at hi
    repeat' split at hi
    all_goals cases hi
theorem oneX_sound {P : Program} (tb : Tabs P) {ok okm : Nat → Bool} {call : Caller} (hc : CallerOK P call) {ops : Array Oper} {o : Oper} {r r' : RT} {st st' : St} (h : oneX loc P ok call (compO loc tb ops o) r st = some (r',st')) :
    OpG P ok okm ops o (rgx loc r) st (fun ρ s => ρ = rgx loc r' ∧ s = st') := by
  unfold oneX at h
  simp only [compO,gX_eq] at h
  split at h
  · rename_i hg
    split at h
    · rename_i s b hs
      simp only [Option.some.injEq,Prod.mk.injEq] at h
      obtain ⟨rfl,rfl⟩ := h
      refine .inl ⟨hg,?_⟩
      have norm : stW loc P ok st r (compI loc tb o.op) = some (s,b) → OpR P ok okm o (rgx loc r) st (fun ρ s' => ρ = rgx loc (putW r (xt loc o.dst) b) ∧ s' = s) := fun hs => by
        rcases stW_run loc tb hs with ⟨v,rfl,rfl,hv⟩ | hw
        · exact opR_V v hv ⟨(rgx_put loc _ _ _).symm,rfl⟩
        · cases b with
          | some v => exact opR_W s v hw ⟨(rgx_put loc _ _ _).symm,rfl⟩
          | none => exact opR_S s hw ⟨(rgx_put loc _ _ _).symm,rfl⟩
      cases hcl : isCall (compI loc tb o.op)
      · have : stepX loc P ok call r st (compI loc tb o.op) = stW loc P ok st r (compI loc tb o.op) := by
          cases hi : compI loc tb o.op with
          | cl f ars => rw [hi] at hcl;cases hcl
          | cs f p ars => rw [hi] at hcl;cases hcl
          | _ => rfl
        exact norm (this ▸ hs)
      · obtain ⟨c,g,vs,v,ho,hcb,hids,rfl,hcall⟩ := call_op loc tb hcl hs
        obtain ⟨k1,k2,_⟩ := hc _ _ _ _ _ hcall
        refine opR_call c g vs _ [] _ ho hcb k2 k1 (fun i hi _ => List.all_eq_true.1 hids i hi) (by simp) (fun r0 s0 ⟨e1,e2⟩ => ?_)
        subst e1 e2
        exact ⟨(rgx_put loc _ _ _).symm,rfl⟩
    · cases h
  · rename_i hg
    simp only [Option.some.injEq,Prod.mk.injEq] at h
    obtain ⟨rfl,rfl⟩ := h
    exact .inr ⟨hg,(rgx_put loc _ _ _).symm,rfl⟩
  · cases h
theorem opG_mono {P : Program} {ok okm : Nat → Bool} {ops : Array Oper} {o : Oper} {ρ : Rg} {st : St} {Q Q' : Rg → St → Prop} (h : OpG P ok okm ops o ρ st Q) (hq : ∀ ρ st,Q ρ st → Q' ρ st) : OpG P ok okm ops o ρ st Q' := by
  rcases h with ⟨h1,h2⟩ | ⟨h1,h2⟩
  · exact .inl ⟨h1,opR_mono h2 hq⟩
  · exact .inr ⟨h1,hq _ _ h2⟩
theorem triL_mono {C : Cx} {ops : Array Oper} {l : List Oper} {ρ : Rg} {st : St} {Q Q' : Rg → St → Prop} (h : TriL C ops l ρ st Q) (hq : ∀ ρ st,Q ρ st → Q' ρ st) : TriL C ops l ρ st Q' :=
  fun d1 d2 x y a g1 g2 g3 g4 g5 g6 K hK => h d1 d2 x y a g1 g2 g3 g4 g5 g6 K (fun ρ' z a' hq' => hK ρ' z a' (hq _ _ hq'))
theorem runL_sound {C : Cx} (tb : Tabs C.P) {call : Caller} (hc : CallerOK C.P call) {ops : Array Oper} : ∀ (l : List Oper) {r r' : RT} {st st' : St},runL loc C.P (okC C) call (l.map (compO loc tb ops)) r st = some (r',st') →
    TriL C ops l (rgx loc r) st (fun ρ s => ρ = rgx loc r' ∧ s = st')
  | [],r,r',st,st',h => by
    simp only [List.map_nil,runL,Option.some.injEq,Prod.mk.injEq] at h
    obtain ⟨rfl,rfl⟩ := h
    exact triL_nil ⟨rfl,rfl⟩
  | o :: l,r,r',st,st',h => by
    simp only [List.map_cons,runL] at h
    split at h
    · rename_i r1 st1 h1
      refine triL_op (opG_mono (oneX_sound loc tb hc h1) fun ρ s ⟨e1,e2⟩ => ?_)
      subst e1 e2
      exact runL_sound tb hc l h
    · cases h
inductive MP where
  | nil
  | take (i : Nat) (p : MP)
  | one (i : Nat) (p : MP)
  | fl (A : List (Bool × Nat)) (j : Nat) (p : MP)
def plainP : List (Bool × Nat) → Plan → Plan
  | [],q => q
  | (true,a) :: A,q => .take a (plainP A q)
  | (false,a) :: A,q => .one a (plainP A q)
def floatP (j : Nat) : List (Bool × Nat) → Plan → Plan
  | [],q => .one j q
  | (true,a) :: A,q => .take a (floatP j A q)
  | (false,a) :: A,q => if a < j then .fork a (floatP j A q) j (.one a (plainP A q)) else .fork j (.one a (plainP A q)) a (floatP j A q)
def MP.toP : MP → Plan
  | .nil => .nil
  | .take i p => .take i p.toP
  | .one i p => .one i p.toP
  | .fl A j p => floatP j A p.toP
structure XA where
  take : Bool
  wr : Bool
  x : XP
inductive XD where
  | st (a : XA)
  | fl (A : List XA) (j : XP)
def stabX (Wr : List Nat) (r : RT) : XI → Bool
  | .ld _ _ x => match evX r x with
    | some b => match ptrB b with
      | some (id,_) => !Wr.contains id
      | none => true
    | none => true
  | .gen op => stabB Wr (rgx loc r) op
  | _ => true
theorem stabX_eq {P : Program} (tb : Tabs P) {Wr : List Nat} {r : RT} {op : Op} (h : stabX loc Wr r (compI loc tb op) = true) : stabB Wr (rgx loc r) op = true := by
  cases op with
  | load t x =>
    simp only [compI] at h
    split at h
    · simp only [stabX,evX_eq] at h
      show (match evB (rgx loc r) x with
        | some (.ptr id _) => !Wr.contains id
        | _ => true) = true
      generalize evB (rgx loc r) x = q at h
      cases q with
      | none => rfl
      | some v =>
        cases v with
        | ptr id off => exact h
        | _ => rfl
    · exact h
  | _ => rfl
def argsIn (r : RT) (st : St) : XI → Bool
  | .cs _ _ ars => match evXs r ars with
    | some vs => okBs st.S.length st.T.length (vs ++ [])
    | none => false
  | .cl f ars => match evX r f,evXs r ars with
    | some (.fn g cap),some vs => okBs st.S.length st.T.length (vs ++ cap)
    | _,_ => false
  | _ => false
def runA (P : Program) (ok : Nat → Bool) (Wr : List Nat) (call : Caller) : List XA → RT → St → Option (RT × St)
  | [],r,st => some (r,st)
  | ⟨true,_,x⟩ :: l,r,st => match stV loc P st r x.i with
    | some b => runA P ok Wr call l (putX r x.d b) st
    | none => none
  | ⟨false,w,x⟩ :: l,r,st => match okSt st && argsIn r st x.i,oneX loc P (fun i => ok i && (w || Wr.contains i)) call x r st with
    | true,some (r',st') => if Nat.beq st'.T.length st.T.length = true then runA P ok Wr call l r' st' else none
    | _,_ => none
def runP (P : Program) (ok : Nat → Bool) (Wr : List Nat) (call : Caller) : List XD → RT → St → Option (RT × St)
  | [],r,st => some (r,st)
  | .st ⟨true,_,x⟩ :: l,r,st => match gX r x.g with
    | some true => if stabX loc Wr r x.i = true then (match stV loc P st r x.i with
      | some b => runP P ok Wr call l (putX r x.d b) st
      | none => none) else none
    | some false => runP P ok Wr call l (putX r x.d (.tup [])) st
    | none => none
  | .st ⟨false,w,x⟩ :: l,r,st => match oneX loc P (fun i => ok i && (w || Wr.contains i)) call x r st with
    | some (r',st') => runP P ok Wr call l r' st'
    | none => none
  | .fl A j :: l,r,st => match runA loc P ok Wr call A r st with
    | some (r1,st1) => match stW loc P ok st1 r1 j.i with
      | some (st2,some b) => runP P ok Wr call l (putX r1 j.d b) st2
      | _ => none
    | none => none
def noR (dj : Nat) : XO → Bool
  | .l n => !(n == dj)
  | .t n => !(n == dj)
  | _ => true
def numX : XT → Option Nat
  | .no => none
  | .l n => some n
  | .t n => some n
def niceA (dj : Nat) (rd : List Nat) (a : XA) : Bool :=
  (match a.x.g with
  | .yes => true
  | _ => false) && (match numX a.x.d with
  | some p => !(p == dj) && !(rd.contains p)
  | none => true) && (match a.take,a.x.i with
  | true,.mv o => noR dj o
  | true,.ex o _ => noR dj o
  | false,.cs _ _ ars => ars.all (noR dj)
  | false,.cl f ars => noR dj f && ars.all (noR dj)
  | _,_ => false)
def niceJ (o : Oper) : Bool := o.guard.isNone && (match o.op with
  | .alloc _ => true
  | .buildSlice _ _ _ => true
  | _ => false)
def rdOf (op : Op) : List Nat := op.operands.toList.filterMap fun o => match o with
  | .tmp t => some t
  | _ => none
def compA {P : Program} (tb : Tabs P) (ops : Array Oper) (ds : List Nat) : List (Bool × Nat) → Option (List XA)
  | [] => some []
  | (t,a) :: A => match ops[a]?,compA tb ops ds A with
    | some o,some l => some (⟨t,ds.contains a,compO loc tb ops o⟩ :: l)
    | _,_ => none
def compP {P : Program} (tb : Tabs P) (ops : Array Oper) (ds : List Nat) : MP → Option (List XD)
  | .nil => some []
  | .take i p => match ops[i]?,compP tb ops ds p with
    | some o,some l => some (.st ⟨true,ds.contains i,compO loc tb ops o⟩ :: l)
    | _,_ => none
  | .one i p => match ops[i]?,compP tb ops ds p with
    | some o,some l => some (.st ⟨false,ds.contains i,compO loc tb ops o⟩ :: l)
    | _,_ => none
  | .fl A j p => match ops[j]?,compA loc tb ops ds A,compP tb ops ds p with
    | some o,some a,some l => match o.dst with
      | some d => if (niceJ o && a.all (niceA d (rdOf o.op))) = true then some (.fl a (compO loc tb ops o) :: l) else none
      | none => none
    | _,_,_ => none
theorem idsC_in {nb nt : Nat} : ∀ {l : List BV},okBs nb nt l = true → ∀ i ∈ idsC l,i < nb
  | [],h,i,hi => by simp [idsC] at hi
  | b :: l,h,i,hi => by
    rw [okBs,Bool.and_eq_true] at h
    cases b <;> simp only [idsC,List.mem_cons] at hi <;> first
      | exact idsC_in h.2 i hi
      | (rcases hi with rfl | hi
         · have := h.1;rw [okB] at this;exact blt_of this
         · exact idsC_in h.2 i hi)
theorem ids_ins {nb nt : Nat} : ∀ {l : List BV},okBs nb nt l = true → ∀ i ∈ idsBs l,i < nb
  | [],h,i,hi => by simp [idsBs] at hi
  | b :: l,h,i,hi => by
    rw [okBs,Bool.and_eq_true] at h
    cases b <;> simp only [idsBs,List.mem_cons,List.mem_append] at hi <;> first
      | exact ids_ins h.2 i hi
      | (rcases hi with rfl | hi
         · have := h.1;rw [okB] at this;exact blt_of this
         · exact ids_ins h.2 i hi)
      | (rcases hi with hi | hi
         · have := h.1;rw [okB] at this;exact idsC_in this i hi
         · exact ids_ins h.2 i hi)
theorem put_get {r : RT} {d : XT} {b : BV} {o : XO} {dj : Nat} (hd : ∀ n,numX d = some n → n = dj) (h : noR dj o = true) : evX (putX r d b) o = evX r o := by
  cases d with
  | no => rfl
  | l n =>
    obtain rfl := hd n rfl
    cases o with
    | l m =>
      simp only [noR,Bool.not_eq_true',beq_eq_false_iff_ne] at h
      simp only [evX,putX,getL_set,if_neg h]
    | _ => rfl
  | t n =>
    obtain rfl := hd n rfl
    cases o with
    | t m =>
      simp only [noR,Bool.not_eq_true',beq_eq_false_iff_ne] at h
      simp only [evX,putX,getL_cons,if_neg h]
    | _ => rfl
theorem puts_get {r : RT} {d : XT} {b : BV} {dj : Nat} (hd : ∀ n,numX d = some n → n = dj) : ∀ {l : List XO},l.all (noR dj) = true → evXs (putX r d b) l = evXs r l
  | [],h => rfl
  | o :: l,h => by
    simp only [List.all_cons,Bool.and_eq_true] at h
    simp only [evXs,put_get hd h.1,puts_get hd h.2]
theorem num_xt {d : Option Nat} : numX (xt loc d) = d := by
  cases d with
  | none => rfl
  | some d => simp only [xt];cases loc d <;> rfl
theorem put_comm {r : RT} {d : Option Nat} {dj : Nat} {b c : BV} (h : d ≠ some dj) : rgx loc (putX (putX r (xt loc (some dj)) c) (xt loc d) b) = rgx loc (putX (putX r (xt loc d) b) (xt loc (some dj)) c) := by
  rw [rgx_put,rgx_put,rgx_put,rgx_put]
  cases d with
  | none => rfl
  | some d =>
    funext t
    simp only [updO,upd]
    by_cases h1 : t = d
    · subst h1
      rw [if_pos rfl,if_neg (fun e => h (by rw [e])),if_pos rfl]
    · rw [if_neg h1]
      by_cases h2 : t = dj
      · rw [if_pos h2,if_pos h2]
      · rw [if_neg h2,if_neg h2,if_neg h1]
theorem one_call {P : Program} (tb : Tabs P) {ok : Nat → Bool} {call : Caller} {ops : Array Oper} {o : Oper} {r r' : RT} {st st' : St} (hg : (compO loc tb ops o).g = .yes) (hi : isCall (compI loc tb o.op) = true) (h : oneX loc P ok call (compO loc tb ops o) r st = some (r',st')) :
    ∃ c g vs v,o.op = .call c ∧ callB (rgx loc r) c = some (g,vs) ∧ (idsBs vs).all ok = true ∧ call g (bits g) vs st = some (v,st') ∧ r' = putX r (xt loc o.dst) v := by
  unfold oneX at h
  rw [hg] at h
  simp only [gX] at h
  split at h
  · rename_i s b hs
    simp only [Option.some.injEq,Prod.mk.injEq] at h
    obtain ⟨rfl,rfl⟩ := h
    obtain ⟨c,g,vs,v,h1,h2,h3,rfl,h4⟩ := call_op loc tb hi hs
    exact ⟨c,g,vs,v,h1,h2,h3,h4,rfl⟩
  · cases h
theorem nice_call {dj : Nat} {rd : List Nat} {w : Bool} {x : XP} (h : niceA dj rd ⟨false,w,x⟩ = true) : isCall x.i = true := by
  simp only [niceA,Bool.and_eq_true] at h
  have := h.2
  split at this
  · rename_i e _;cases e
  · rename_i e _;cases e
  · rename_i e;rw [e];rfl
  · rename_i e;rw [e];rfl
  · cases this
theorem nice_yes {dj : Nat} {rd : List Nat} {a : XA} (h : niceA dj rd a = true) : a.x.g = .yes := by
  simp only [niceA,Bool.and_eq_true] at h
  have := h.1.1
  split at this
  · assumption
  · cases this
theorem runA_keeps {P : Program} (tb : Tabs P) {ok : Nat → Bool} {Wr : List Nat} {call : Caller} (hc : CallerOK P call) {ops : Array Oper} {ds : List Nat} {dj : Nat} {rd : List Nat} : ∀ {A : List (Bool × Nat)} {l : List XA} {r r1 : RT} {st st1 : St},compA loc tb ops ds A = some l → l.all (niceA dj rd) = true → runA loc P ok Wr call l r st = some (r1,st1) →
    st1.S.length = st.S.length ∧ st1.T.length = st.T.length ∧ ∀ t ∈ rd,rgx loc r1 t = rgx loc r t
  | [],l,r,r1,st,st1,hA,hn,h => by
    obtain rfl := Option.some.inj hA
    simp only [runA,Option.some.injEq,Prod.mk.injEq] at h
    obtain ⟨rfl,rfl⟩ := h
    exact ⟨rfl,rfl,fun _ _ => rfl⟩
  | (t,a) :: A,l,r,r1,st,st1,hA,hn,h => by
    rw [compA] at hA
    split at hA
    case h_2 => cases hA
    rename_i o l' ho hl
    obtain rfl := Option.some.inj hA
    simp only [List.all_cons,Bool.and_eq_true] at hn
    obtain ⟨hx,hn⟩ := hn
    have hput : ∀ b t,t ∈ rd → rgx loc (putX r (xt loc o.dst) b) t = rgx loc r t := fun b t ht => by
      simp only [niceA,Bool.and_eq_true,compO,num_xt] at hx
      rw [rgx_put]
      cases hd : o.dst with
      | none => rfl
      | some q =>
        rw [hd] at hx
        simp only [updO,upd]
        rw [if_neg]
        rintro rfl
        have := hx.1.2
        simp [ht] at this
    cases t with
    | true =>
      simp only [runA] at h
      split at h
      · rename_i b hb
        obtain ⟨h1,h2,h3⟩ := runA_keeps tb hc hl hn h
        exact ⟨h1,h2,fun p hp => (h3 p hp).trans (hput b p hp)⟩
      · cases h
    | false =>
      simp only [runA] at h
      split at h
      · rename_i r' st' hin hone
        split at h
        case isFalse => cases h
        rename_i hT
        have hT := Nat.eq_of_beq_eq_true hT
        obtain ⟨h1,h2,h3⟩ := runA_keeps tb hc hl hn h
        obtain ⟨c,g,vs,b,_,_,_,hcall,rfl⟩ := one_call loc tb (nice_yes hx) (nice_call hx) hone
        obtain ⟨_,_,k1,_⟩ := hc _ _ _ _ _ hcall
        exact ⟨h1.trans k1,h2.trans hT,fun p hp => (h3 p hp).trans (hput b p hp)⟩
      · cases h
theorem fill_congr {ρ ρ' : Rg} {place : Nat → Option (Nat × Nat)} : ∀ {parts : List (Nat × Operand)} {cs : List BV},(∀ o ∈ parts,evB ρ' o.2 = evB ρ o.2) → fillB ρ' place parts cs = fillB ρ place parts cs
  | [],cs,h => rfl
  | (i,o) :: parts,cs,h => by
    simp only [fillB,h (i,o) (List.mem_cons_self ..)]
    have ih : ∀ cs,fillB ρ' place parts cs = fillB ρ place parts cs := fun cs => fill_congr fun o ho => h o (List.mem_cons_of_mem _ ho)
    simp only [ih]
theorem jp_run {P : Program} {ok : Nat → Bool} {st st' : St} {ρ : Rg} {o : Oper} {b : Option BV} (hj : niceJ o = true) (h : stepW P ok st ρ o.op = some (st',b)) : ∃ B U pj,st' = plus st B U [] ∧ b = some pj ∧
    ∀ ok' s ρ',s.S.length = st.S.length → s.T.length = st.T.length → (∀ q ∈ o.op.operands.toList,evB ρ' q = evB ρ q) → stepW P ok' s ρ' o.op = some (plus s B U [],some pj) := by
  simp only [niceJ,Bool.and_eq_true] at hj
  have hj := hj.2
  split at hj
  · rename_i e he
    rw [he] at h ⊢
    simp only [stepW] at h ⊢
    split at h
    · rename_i ag sz z ht
      simp only [Option.some.injEq,Prod.mk.injEq] at h
      obtain ⟨rfl,rfl⟩ := h
      refine ⟨[(z,e)],[],_,by simp [plus],rfl,fun ok' s ρ' h1 h2 h3 => ?_⟩
      simp only [plus,List.append_nil,h1]
    · cases h
  · rename_i t len ps he
    rw [he] at h ⊢
    simp only [stepW] at h ⊢
    split at h
    · rename_i e sz hel
      split at h
      · rename_i ag sz' z ht
        split at h
        · rename_i hc
          split at h
          · rename_i ds hf
            split at h
            · rename_i h1
              simp only [Option.some.injEq,Prod.mk.injEq] at h
              obtain ⟨rfl,rfl⟩ := h
              refine ⟨[],[ds.length],_,by simp [plus],rfl,fun ok' s ρ' g1 g2 g3 => ?_⟩
              have hfc : fillB ρ' (fun i => some (i * sz,sz)) ps.toList (repL len z) = fillB ρ (fun i => some (i * sz,sz)) ps.toList (repL len z) := fill_congr fun o ho => g3 o.2 (by
                simp only [Op.operands]
                exact List.mem_map.2 ⟨o,ho,rfl⟩)
              rw [if_pos hc,hfc,hf]
              simp only [if_pos h1,plus,List.append_nil,g2]
            · cases h
          · cases h
        · cases h
      · cases h
    · cases h
  · cases hj
theorem callB_ext {P : Program} (tb : Tabs P) {c : Call} {r : RT} {dj : Nat} {pj : BV} {f : XO} {ars : List XO}
    (h : (∃ g,compI loc tb (.call c) = .cs g (bits g) ars ∧ c.callee = .value (.func g) ∧ ars = c.args.toList.map (xo loc) ∧ ars.all (noR dj) = true) ∨ (∃ f',compI loc tb (.call c) = .cl f ars ∧ c.callee = .value f' ∧ f = xo loc f' ∧ ars = c.args.toList.map (xo loc) ∧ (noR dj f && ars.all (noR dj)) = true)) :
    callB (rgx loc (putX r (xt loc (some dj)) pj)) c = callB (rgx loc r) c := by
  have hd : ∀ n,numX (xt loc (some dj)) = some n → n = dj := fun n hn => by
    rw [num_xt] at hn
    exact (Option.some.inj hn).symm
  rcases h with ⟨g,_,h1,h2,h3⟩ | ⟨f',_,h1,h2,h3,h4⟩
  · have e : evBs (rgx loc (putX r (xt loc (some dj)) pj)) c.args.toList = evBs (rgx loc r) c.args.toList := by
      rw [← evXs_eq,← evXs_eq,← h2,puts_get hd h3]
    simp only [callB,h1,e,evF_eq]
  · rw [Bool.and_eq_true] at h4
    have e : evBs (rgx loc (putX r (xt loc (some dj)) pj)) c.args.toList = evBs (rgx loc r) c.args.toList := by
      rw [← evXs_eq,← evXs_eq,← h3,puts_get hd h4.2]
    have e2 : evB (rgx loc (putX r (xt loc (some dj)) pj)) f' = evB (rgx loc r) f' := by
      rw [← evX_eq,← evX_eq,← h2,put_get hd h4.1]
    simp only [callB,h1,e,e2]
theorem nice_ops {P : Program} (tb : Tabs P) {dj : Nat} {rd : List Nat} {w : Bool} {ops : Array Oper} {o : Oper} (h : niceA dj rd ⟨false,w,compO loc tb ops o⟩ = true) {c : Call} (hop : o.op = .call c) {r : RT} {pj : BV} :
    callB (rgx loc (putX r (xt loc (some dj)) pj)) c = callB (rgx loc r) c := by
  simp only [niceA,Bool.and_eq_true] at h
  have h3 := h.2
  simp only [compO,hop] at h3
  simp only [compI] at h3
  split at h3
  · rename_i e _;cases e
  · rename_i e _;cases e
  · rename_i g p ars _ e
    split at e
    · rename_i g' hce
      injection e with e1 e2 e3
      subst e1 e3
      exact callB_ext loc tb (f := .no) (ars := c.args.toList.map (xo loc)) (.inl ⟨g',by simp only [compI,hce],hce,rfl,h3⟩)
    all_goals
      repeat' split at e
      all_goals cases e
  · rename_i f ars _ e
    split at e
    · cases e
    · rename_i f' hnf hce
      injection e with e1 e2
      subst e1 e2
      refine callB_ext loc tb (f := xo loc f') (ars := c.args.toList.map (xo loc)) (.inr ⟨f',?_,hce,rfl,rfl,h3⟩)
      simp only [compI,hce]
    all_goals
      repeat' split at e
      all_goals cases e
  · cases h3
theorem args_in {P : Program} (tb : Tabs P) {c : Call} {r : RT} {st : St} {g : Nat} {vs : List BV} (hin : argsIn r st (compI loc tb (.call c)) = true) (hc : callB (rgx loc r) c = some (g,vs)) : okBs st.S.length st.T.length vs = true := by
  simp only [compI] at hin
  split at hin
  · rename_i g' hce
    simp only [argsIn,evXs_eq] at hin
    simp only [callB,hce,evF_eq] at hc
    split at hin
    · rename_i vs' has
      rw [has] at hc
      simp only [Option.some.injEq,Prod.mk.injEq] at hc
      rw [← hc.2]
      exact hin
    · cases hin
  · rename_i f _ hce
    simp only [argsIn,evX_eq,evXs_eq] at hin
    simp only [callB,hce] at hc
    split at hin
    · rename_i g' cap vs' hf has
      rw [hf,has] at hc
      simp only [Option.some.injEq,Prod.mk.injEq] at hc
      rw [← hc.2]
      exact hin
    · cases hin
  · exfalso
    repeat' split at hin
    all_goals cases hin
  · cases hin
theorem nice_take {P : Program} (tb : Tabs P) {dj : Nat} {rd : List Nat} {w : Bool} {ops : Array Oper} {o : Oper} (h : niceA dj rd ⟨true,w,compO loc tb ops o⟩ = true) {Wr : List Nat} {r : RT} {st st' : St} {pj b : BV} (hb : stV loc P st r (compI loc tb o.op) = some b) :
    stV loc P st' (putX r (xt loc (some dj)) pj) (compI loc tb o.op) = some b ∧ ∀ r',stabX loc Wr r' (compI loc tb o.op) = true := by
  have hd : ∀ n,numX (xt loc (some dj)) = some n → n = dj := fun n hn => by
    rw [num_xt] at hn
    exact (Option.some.inj hn).symm
  simp only [niceA,Bool.and_eq_true] at h
  have h3 := h.2
  split at h3
  · rename_i o' _ e
    have e' : compI loc tb o.op = .mv o' := e
    rw [e'] at hb ⊢
    exact ⟨by simpa only [stV,put_get hd h3] using hb,fun _ => rfl⟩
  · rename_i o' i' _ e
    have e' : compI loc tb o.op = .ex o' i' := e
    rw [e'] at hb ⊢
    exact ⟨by simpa only [stV,put_get hd h3] using hb,fun _ => rfl⟩
  · rename_i e _;cases e
  · rename_i e _;cases e
  · cases h3
theorem nice_dst {P : Program} (tb : Tabs P) {dj : Nat} {rd : List Nat} {t w : Bool} {ops : Array Oper} {o : Oper} (h : niceA dj rd ⟨t,w,compO loc tb ops o⟩ = true) : o.dst ≠ some dj := by
  simp only [niceA,Bool.and_eq_true,compO,num_xt] at h
  intro e
  rw [e] at h
  simp at h
theorem nice_guard {P : Program} (tb : Tabs P) {ops : Array Oper} {o : Oper} (hg : (compO loc tb ops o).g = .yes) (r : RT) : gB ops (rgx loc r) o.guard = some true := by
  rw [← gX_eq,show compG loc ops o.guard = .yes from hg]
  rfl
theorem plain_ext {C : Cx} (tb : Tabs C.P) {call : Caller} (hc : CallerOK C.P call) {ops : Array Oper} {Wr ds : List Nat} {dj : Nat} {rd : List Nat} {pj : BV} {B : List (List BV × Nat)} {U : List Nat} {q : Plan} {Q : Rg → St → Prop} :
    ∀ (A : List (Bool × Nat)) {l : List XA} {r r1 : RT} {st st1 : St},compA loc tb ops ds A = some l → l.all (niceA dj rd) = true → runA loc C.P (okC C) Wr call l r st = some (r1,st1) →
    TriP C ops Wr ds q (rgx loc (putX r1 (xt loc (some dj)) pj)) (plus st1 B U []) Q → TriP C ops Wr ds (plainP A q) (rgx loc (putX r (xt loc (some dj)) pj)) (plus st B U []) Q
  | [],l,r,r1,st,st1,hA,hn,h,hq => by
    obtain rfl := Option.some.inj hA
    simp only [runA,Option.some.injEq,Prod.mk.injEq] at h
    obtain ⟨rfl,rfl⟩ := h
    exact hq
  | (t,a) :: A,l,r,r1,st,st1,hA,hn,h,hq => by
    rw [compA] at hA
    split at hA
    case h_2 => cases hA
    rename_i o l' ho hl
    obtain rfl := Option.some.inj hA
    simp only [List.all_cons,Bool.and_eq_true] at hn
    obtain ⟨hx,hn⟩ := hn
    have hg := nice_yes hx
    have hd := nice_dst loc tb hx
    cases t with
    | true =>
      simp only [runA] at h
      split at h
      · rename_i b hb
        obtain ⟨g1,g2⟩ := nice_take loc tb hx (Wr := Wr) (st' := plus st B U []) (pj := pj) hb
        refine ⟨o,ho,.inl ⟨nice_guard loc tb hg _,b,stV_run loc tb g1,stabX_eq loc tb (g2 _),?_⟩⟩
        rw [← rgx_put loc,put_comm loc hd]
        exact plain_ext tb hc A hl hn h hq
      · cases h
    | false =>
      simp only [runA] at h
      split at h
      · rename_i r' st' hin hone
        split at h
        case isFalse => cases h
        rename_i hT
        have k4 := Nat.eq_of_beq_eq_true hT
        rw [Bool.and_eq_true] at hin
        obtain ⟨c,g,vs,b,hop,hcb,hids,hcall,rfl⟩ := one_call loc tb hg (nice_call hx) hone
        obtain ⟨k1,k2,k3,k5⟩ := hc _ _ _ _ _ hcall
        have hargs : okBs st.S.length st.T.length vs = true := by
          have h2 := hin.2
          simp only [compO,hop] at h2
          exact args_in loc tb h2 hcb
        have k1' : CallT C.P (idsBs vs) [] g vs st (fun r s => s.S.length = st.S.length ∧ s.T.length = st.T.length ∧ s.M.length = st.M.length ∧ r = b ∧ s = st') :=
          call_mono k1 fun r s ⟨e1,e2⟩ => ⟨e2 ▸ k3,e2 ▸ k4,e2 ▸ k5,e1,e2⟩
        have hfr := call_frame B U [] k1' hin.1 hargs (.inl rfl) (ids_ins hargs)
        refine ⟨o,ho,.inl ⟨nice_guard loc tb hg _,opR_call c g vs _ [] _ hop ((nice_ops loc tb hx hop).trans hcb) k2 hfr (fun i hi' _ => ?_) (by simp) (fun r0 s0 ⟨s',e0,e1,e2⟩ => ?_)⟩⟩
        · exact List.all_eq_true.1 hids i hi'
        · subst e1 e2 e0
          rw [← rgx_put loc,put_comm loc hd]
          exact plain_ext tb hc A hl hn h hq
      · cases h
theorem float_run {C : Cx} (tb : Tabs C.P) {call : Caller} (hc : CallerOK C.P call) {ops : Array Oper} {Wr ds : List Nat} {j d : Nat} {oj : Oper} (hoj : ops[j]? = some oj) (hjn : niceJ oj = true) (hdj : oj.dst = some d) {q : Plan} {Q : Rg → St → Prop} :
    ∀ (A : List (Bool × Nat)) {l : List XA} {r r1 : RT} {st st1 st2 : St} {b : BV} {ok : Nat → Bool},compA loc tb ops ds A = some l → l.all (niceA d (rdOf oj.op)) = true → runA loc C.P (okC C) Wr call l r st = some (r1,st1) → stepW C.P ok st1 (rgx loc r1) oj.op = some (st2,some b) →
    TriP C ops Wr ds q (rgx loc (putX r1 (xt loc (some d)) b)) st2 Q → TriP C ops Wr ds (floatP j A q) (rgx loc r) st Q
  | A,l,r,r1,st,st1,st2,b,ok,hA,hn,h,hj,hq => by
    have hgj : ∀ ρ,gB ops ρ oj.guard = some true := fun ρ => by
      simp only [niceJ,Bool.and_eq_true,Option.isNone_iff_eq_none] at hjn
      rw [hjn.1]
      rfl
    obtain ⟨B,U,pj,e1,e2,hJ⟩ := jp_run hjn hj
    obtain rfl := Option.some.inj e2
    subst e1
    obtain ⟨q1,q2,q3⟩ := runA_keeps loc tb hc hA hn h
    have hops : ∀ o ∈ oj.op.operands.toList,evB (rgx loc r) o = evB (rgx loc r1) o := fun o ho => by
      cases o with
      | tmp t => exact (q3 t (List.mem_filterMap.2 ⟨_,ho,rfl⟩)).symm
      | _ => rfl
    -- the operation itself,ahead of all
    have hfirst : ∀ {T : Rg → St → Prop},T (rgx loc (putX r (xt loc (some d)) b)) (plus st B U []) → OpG C.P (okD C Wr ds j) (okM C) ops oj (rgx loc r) st T := fun {T} hT => by
      refine .inl ⟨hgj _,opR_W (plus st B U []) b (hJ _ st (rgx loc r) q1.symm q2.symm hops) ?_⟩
      rw [hdj,← rgx_put loc]
      exact hT
    cases A with
    | nil =>
      obtain rfl := Option.some.inj hA
      simp only [runA,Option.some.injEq,Prod.mk.injEq] at h
      obtain ⟨rfl,rfl⟩ := h
      exact ⟨oj,hoj,hfirst hq⟩
    | cons a A =>
      obtain ⟨t,a⟩ := a
      have hA0 := hA
      have hn0 := hn
      have h0 := h
      rw [compA] at hA
      split at hA
      case h_2 => cases hA
      rename_i o l' ho hl
      obtain rfl := Option.some.inj hA
      simp only [List.all_cons,Bool.and_eq_true] at hn
      obtain ⟨hx,hn⟩ := hn
      have hg := nice_yes hx
      cases t with
      | true =>
        simp only [runA] at h
        split at h
        · rename_i c hb
          obtain ⟨_,g2⟩ := nice_take loc tb hx (Wr := Wr) (st' := st) (pj := c) hb
          refine ⟨o,ho,.inl ⟨nice_guard loc tb hg _,c,stV_run loc tb hb,stabX_eq loc tb (g2 _),?_⟩⟩
          rw [← rgx_put loc]
          exact float_run tb hc hoj hjn hdj A hl hn h hj hq
        · cases h
      | false =>
        have hplain : TriP C ops Wr ds (plainP ((false,a) :: A) q) (rgx loc (putX r (xt loc (some d)) b)) (plus st B U []) Q := plain_ext loc tb hc _ hA0 hn0 h0 hq
        simp only [runA] at h
        split at h
        · rename_i r' st' hin hone
          split at h
          case isFalse => cases h
          have h2 : oneX loc C.P (okD C Wr ds a) call (compO loc tb ops o) r st = some (r',st') := hone
          have hcall : OpG C.P (okD C Wr ds a) (okM C) ops o (rgx loc r) st (fun ρ st => TriP C ops Wr ds (floatP j A q) ρ st Q) :=
            opG_mono (Q' := fun ρ st => TriP C ops Wr ds (floatP j A q) ρ st Q) (oneX_sound loc (okm := okM C) tb hc h2) fun ρ s e => by
              obtain ⟨e1,e2⟩ := e
              subst e1 e2
              exact float_run tb hc hoj hjn hdj A hl hn h hj hq
          rw [floatP]
          split
          · exact ⟨⟨o,ho,hcall⟩,⟨oj,hoj,hfirst hplain⟩⟩
          · exact ⟨⟨oj,hoj,hfirst hplain⟩,⟨o,ho,hcall⟩⟩
        · cases h
termination_by A => A.length
theorem runP_sound {C : Cx} (tb : Tabs C.P) {call : Caller} (hc : CallerOK C.P call) {ops : Array Oper} {Wr ds : List Nat} : ∀ (p : MP) {l : List XD} {r r' : RT} {st st' : St},compP loc tb ops ds p = some l → runP loc C.P (okC C) Wr call l r st = some (r',st') →
    ∀ {Q : Rg → St → Prop},Q (rgx loc r') st' → TriP C ops Wr ds p.toP (rgx loc r) st Q
  | .nil,l,r,r',st,st',hp,h,Q,hq => by
    obtain rfl := Option.some.inj hp
    simp only [runP,Option.some.injEq,Prod.mk.injEq] at h
    obtain ⟨rfl,rfl⟩ := h
    exact hq
  | .take i p,l,r,r',st,st',hp,h,Q,hq => by
    rw [compP] at hp
    split at hp
    · rename_i o l' ho hl
      obtain rfl := Option.some.inj hp
      simp only [runP,compO,gX_eq] at h
      split at h
      · rename_i hg
        by_cases hs : stabX loc Wr r (compI loc tb o.op) = true
        · simp only [hs,if_true] at h
          split at h
          · rename_i b hb
            refine ⟨o,ho,.inl ⟨hg,b,stV_run loc tb hb,stabX_eq loc tb hs,?_⟩⟩
            rw [← rgx_put loc]
            exact runP_sound tb hc p hl h hq
          · cases h
        · simp only [hs] at h
          cases h
      · rename_i hg
        refine ⟨o,ho,.inr ⟨hg,?_⟩⟩
        rw [← rgx_put loc]
        exact runP_sound tb hc p hl h hq
      · cases h
    · cases hp
  | .one i p,l,r,r',st,st',hp,h,Q,hq => by
    rw [compP] at hp
    split at hp
    · rename_i o l' ho hl
      obtain rfl := Option.some.inj hp
      simp only [runP] at h
      split at h
      · rename_i r1 st1 h1
        have h2 : oneX loc C.P (okD C Wr ds i) call (compO loc tb ops o) r st = some (r1,st1) := h1
        refine ⟨o,ho,opG_mono (Q' := fun ρ st => TriP C ops Wr ds p.toP ρ st Q) (oneX_sound loc (okm := okM C) tb hc h2) fun ρ s e => ?_⟩
        obtain ⟨e1,e2⟩ := e
        subst e1 e2
        exact runP_sound tb hc p hl h hq
      · cases h
    · cases hp
  | .fl A j p,l,r,r',st,st',hp,h,Q,hq => by
    rw [compP] at hp
    split at hp
    case h_2 => cases hp
    rename_i o a l' ho ha hl
    split at hp
    case h_2 => cases hp
    rename_i d hd
    split at hp
    case isFalse => cases hp
    rename_i hn
    rw [Bool.and_eq_true] at hn
    obtain rfl := Option.some.inj hp
    simp only [runP] at h
    split at h
    case h_2 => cases h
    rename_i r1 st1 h1
    split at h
    case h_2 => cases h
    rename_i st2 b hj
    have hw : stepW C.P (okC C) st1 (rgx loc r1) o.op = some (st2,some b) := by
      rcases stW_run loc tb (show stW loc C.P (okC C) st1 r1 (compI loc tb o.op) = some (st2,some b) from hj) with ⟨v,_,_,hv⟩ | hw
      · exfalso
        have hj := hn.1
        simp only [niceJ,Bool.and_eq_true] at hj
        have hj := hj.2
        split at hj
        · rename_i e he;rw [he] at hv;cases hv
        · rename_i e he;rw [he] at hv;cases hv
        · cases hj
      · exact hw
    refine float_run loc tb hc ho hn.1 hd A ha hn.2 h1 hw ?_
    have hd' : (compO loc tb ops o).d = xt loc (some d) := by simp only [compO,hd]
    rw [hd'] at h
    exact runP_sound tb hc p hl h hq
def wrX (r : RT) (nx : Nat) : List XO → List Nat
  | [] => []
  | .no :: l => nx :: wrX r (nx + 1) l
  | o :: l => match evX r o with
    | some (.ptr id _) => id :: wrX r nx l
    | _ => wrX r nx l
inductive XQ where
  | mt (n : Nat) (x : XO)
  | g (p : XP)
def toXP : XQ → XP
  | .mt n x => ⟨.t n,.yes,.mv x⟩
  | .g p => p
def toXQ (p : XP) : XQ := match p with
  | ⟨.t n,.yes,.mv x⟩ => .mt n x
  | p => .g p
theorem toXP_toXQ (p : XP) : toXP (toXQ p) = p := by
  unfold toXQ
  split <;> rfl
theorem toXP_map {α : Type} (f : α → XP) : ∀ l : List α,(l.map fun o => toXQ (f o)).map toXP = l.map f
  | [] => rfl
  | a :: l => by simp only [List.map_cons,toXP_toXQ,toXP_map f l]
inductive XC where
  | skip
  | ret
  | exit (id : Nat)
  | reg (l : List XQ)
  | drw (wr : List XO) (l : List XD)
  | seq (a b : XC)
  | cond (c : XO) (a b : XC)
  | block (id : Nat) (c : XC)
  | loop (keep : Option (List Nat)) (c : XC)
def firstBlock : Code → Option Nat
  | .seq a b => match firstBlock a with
    | some i => some i
    | none => firstBlock b
  | .block id _ => some id
  | _ => none
def compC {P : Program} (tb : Tabs P) (pl : Nat → Option (MP × List Nat × List XO)) (kp : Nat → Option (List Nat)) (nt : Nat) : Code → Option XC
  | .skip => some .skip
  | .ret => some .ret
  | .exit id => some (.exit id)
  | .region id ops false => if dstsB nt ops = true then some (.reg (ops.toList.map fun o => toXQ (compO loc tb ops o))) else none
  | .region id ops true => match pl id with
    | some (p,ds,wr) => if p.toP.goodB nt ops ds = true then (compP loc tb ops ds p).map (.drw wr) else none
    | none => none
  | .seq a b => match compC tb pl kp nt a,compC tb pl kp nt b with
    | some x,some y => some (.seq x y)
    | _,_ => none
  | .cond c a b => match compC tb pl kp nt a,compC tb pl kp nt b with
    | some x,some y => some (.cond (xo loc c) x y)
    | _,_ => none
  | .block id c => (compC tb pl kp nt c).map (.block id)
  | .loop c => (compC tb pl kp nt c).map (.loop ((firstBlock c).bind kp))
  | _ => none
def okX (Wr : List Nat) (nb : Nat) (i : Nat) : Bool := Wr.contains i || Nat.ble nb i
theorem okX_eq (C : Cx) : okX C.Wr C.nb = okC C := by
  funext i
  simp only [okX,okC]
  congr 1
  rw [Bool.eq_iff_iff]
  simp
def TriT (C : Cx) (nT : Nat) (c : Code) (ρ : Rg) (st : St) (Q : Post) : Prop :=
  ∀ (x y : Full) (a : Act),x.st.S.length = C.nb → x.st.T.length = nT → x.st.M.length = C.nm → Step C.Wr C.Wm x y → y.st = st → Good y → Regs C.nt y ρ a → ∀ K : Exit → Act → World → Prop,
    (∀ ex ρ' z a',Q ex ρ' z.st → Step C.Wr C.Wm x z → Good z → Regs C.nt z ρ' a' → K ex.to a' z.w) → c.wp C.P K a y.w
section
variable {C : Cx} {nT : Nat}
theorem triT {c : Code} {ρ : Rg} {st : St} {Q : Post} (h : Tri C c ρ st Q) : TriT C nT c ρ st Q := fun x y a h1 _ h1m h2 h3 h4 h5 K hK => h x y a h1 h1m h2 h3 h4 h5 K hK
theorem triT_mono {c : Code} {ρ : Rg} {st : St} {Q Q' : Post} (h : TriT C nT c ρ st Q) (hq : ∀ ex ρ st,Q ex ρ st → Q' ex ρ st) : TriT C nT c ρ st Q' :=
  fun x y a h1 h1t h1m h2 h3 h4 h5 K hK => h x y a h1 h1t h1m h2 h3 h4 h5 K (fun ex ρ' z a' hq' => hK ex ρ' z a' (hq _ _ _ hq'))
theorem triT_weak {c : Code} {ρ ρ' : Rg} {st : St} {Q : Post} (hr : ∀ t v,ρ' t = some v → ρ t = some v) (h : TriT C nT c ρ' st Q) : TriT C nT c ρ st Q :=
  fun x y a h1 h1t h1m h2 h3 h4 h5 K hK => h x y a h1 h1t h1m h2 h3 h4 ⟨h5.defers,h5.size,fun t v hv => h5.reg t v (hr t v hv)⟩ K hK
theorem triT_seq {c d : Code} {ρ : Rg} {st : St} {Q : Post} (h : TriT C nT c ρ st (thenQ (fun ρ st => TriT C nT d ρ st Q) Q)) : TriT C nT (.seq c d) ρ st Q := by
  intro x y a h1 h1t h1m h2 h3 h4 h5 K hK
  refine wp_seq (h x y a h1 h1t h1m h2 h3 h4 h5 _ (fun ex ρ' z a' hq hs hg hr => ?_))
  cases ex with
  | normal => exact hq x z a' h1 h1t h1m hs rfl hg hr K hK
  | exit id => exact hK (.exit id) ρ' z a' hq hs hg hr
  | ret => exact hK .ret ρ' z a' hq hs hg hr
theorem triT_cond {o : Operand} {c d : Code} {ρ : Rg} {st : St} {Q : Post} (t : Bool) (ho : evB ρ o = some (.d (.flat (.bool t)))) (h1 : t = true → TriT C nT c ρ st Q) (h2 : t = false → TriT C nT d ρ st Q) : TriT C nT (.cond o c d) ρ st Q := by
  intro x y a q1 q1t q1m q2 q3 q4 q5 K hK
  have hv := q5.ev ho
  have hb : a.eval o = .bool t := flat_inv hv
  refine wp_cond_split hb (fun e => h1 e x y a q1 q1t q1m q2 q3 q4 q5 K hK) (fun e => h2 e x y a q1 q1t q1m q2 q3 q4 q5 K hK)
theorem triT_block {id : Nat} {c : Code} {ρ : Rg} {st : St} {Q : Post} (h : TriT C nT c ρ st (inQ id Q)) : TriT C nT (.block id c) ρ st Q := by
  intro x y a h1 h1t h1m h2 h3 h4 h5 K hK
  refine wp_block (h x y a h1 h1t h1m h2 h3 h4 h5 _ (fun ex ρ' z a' hq hs hg hr => ?_))
  cases ex with
  | normal => exact hK .normal ρ' z a' hq hs hg hr
  | exit i =>
    simp only [inQ] at hq
    simp only [AX.to,Exit.inBlock]
    split at hq
    · rename_i e;rw [if_pos e];exact hK .normal ρ' z a' hq hs hg hr
    · rename_i e;rw [if_neg e];exact hK (.exit i) ρ' z a' hq hs hg hr
  | ret => exact hK .ret ρ' z a' hq hs hg hr
def DropR (C : Cx) (nT nt : Nat) (ρ : Rg) (st : St) (ρ2 : Rg) (st2 : St) : Prop :=
  ∀ (x z : Full) (a : Act),x.st.S.length = C.nb → x.st.T.length = nT → x.st.M.length = C.nm → Step C.Wr C.Wm x z → z.st = st → Good z → Regs nt z ρ a → ∃ z2 : Full,z2.w = z.w ∧ z2.st = st2 ∧ Step C.Wr C.Wm x z2 ∧ Good z2 ∧ Regs nt z2 ρ2 a
theorem triT_loop {c : Code} {ρ : Rg} {st : St} {Q : Post} (I : Nat → Rg → St → Prop) (n : Nat) (h0 : I n ρ st) (hr : ∀ n ρ st,I n ρ st → TriT C nT c ρ st (thenQ (fun ρ' st' => ∃ m ρ2 st2,m < n ∧ I m ρ2 st2 ∧ DropR C nT C.nt ρ' st' ρ2 st2) Q)) : TriT C nT (.loop c) ρ st Q := by
  intro x y a h1 h1t h1m h2 h3 h4 h5 K hK
  let J : Nat → Act → World → Prop := fun n a w => ∃ ρ z,I n ρ z.st ∧ Step C.Wr C.Wm x z ∧ Good z ∧ Regs C.nt z ρ a ∧ z.w = w
  have hμ : ∀ (a : Act) (w : World),∃ m,(∃ n,J n a w) → J m a w ∧ ∀ k,k < m → ¬ J k a w := fun a w => by
    by_cases q : ∃ n,J n a w
    · obtain ⟨m,hm⟩ := least q
      exact ⟨m,fun _ => hm⟩
    · exact ⟨0,fun h => absurd h q⟩
  obtain ⟨μ,hμ⟩ := Classical.axiomOfChoice (fun p : Act × World => hμ p.1 p.2)
  refine wp_loop (fun a w => ∃ n,J n a w) (fun a w => μ (a,w)) ⟨n,ρ,y,h3 ▸ h0,h2,h4,h5,rfl⟩ (fun a w hI => ?_)
  obtain ⟨⟨ρ1,z,i1,i2,i3,i4,rfl⟩,hmin⟩ := hμ (a,w) hI
  refine hr _ ρ1 z.st i1 x z a h1 h1t h1m i2 rfl i3 i4 _ (fun ex ρ' z' a' hq hs hg hrr => ?_)
  cases ex with
  | normal =>
    obtain ⟨m,ρ2,st2,hm,hi,hd⟩ := hq
    obtain ⟨z2,e1,e2,e3,e4,e5⟩ := hd x z' a' h1 h1t h1m hs rfl hg hrr
    have hJ : J m a' z'.w := ⟨ρ2,z2,e2 ▸ hi,e3,e4,e5,e1⟩
    refine ⟨⟨m,hJ⟩,?_⟩
    obtain ⟨_,hmin'⟩ := hμ (a',z'.w) ⟨m,hJ⟩
    refine Nat.lt_of_le_of_lt (Nat.le_of_not_lt (fun hlt => hmin' m hlt hJ)) hm
  | exit id => exact hK (.exit id) ρ' z' a' hq hs hg hrr
  | ret => exact hK .ret ρ' z' a' hq hs hg hrr
theorem drop_ok {nt : Nat} {ρ ρ' : Rg} {st : St} (n m : Nat) (hn : C.nb ≤ n) (hm : nT ≤ m) (hr : ∀ t v,ρ' t = some v → ρ t = some v ∧ okB n m v = true) (hS : ∀ c ∈ st.S.take n,okBs n m c.1 = true) (hnl : n ≤ st.S.length) (hml : m ≤ st.T.length) :
    DropR C nT nt ρ st ρ' ⟨st.S.take n,st.T.take m,st.M⟩ := by
  intro x z a h1 h1t h1m hs hz hg hregs
  subst hz
  let y : Full := ⟨⟨z.st.S.take n,z.st.T.take m,z.st.M⟩,z.pb,z.pt,z.pm,z.F,z.w⟩
  have lS : y.st.S.length = n := by show (z.st.S.take n).length = n;rw [List.length_take];omega
  have lT : y.st.T.length = m := by show (z.st.T.take m).length = m;rw [List.length_take];omega
  have gS : ∀ i,i < n → y.st.S[i]? = z.st.S[i]? := fun i hi => by
    show (z.st.S.take n)[i]? = _
    rw [List.getElem?_take,if_pos hi]
  have gT : ∀ i,i < m → y.st.T[i]? = z.st.T[i]? := fun i hi => by
    show (z.st.T.take m)[i]? = _
    rw [List.getElem?_take,if_pos hi]
  have hf : Fewer z y n m z.st.M.length := ⟨rfl,rfl,fun _ _ => rfl,fun _ _ => rfl,fun _ _ => rfl,Nat.le_of_eq lS.symm,fun t k ht hk => (gT t ht).trans hk,Nat.le_refl _⟩
  refine ⟨y,rfl,rfl,?_,?_,⟨hregs.defers,hregs.size,fun t v hv => few_rep hf (hregs.reg t v (hr t v hv).1) (ok_in (hr t v hv).2 (inB_rep (hregs.reg t v (hr t v hv).1)))⟩⟩
  · refine ⟨hs.os,hs.tape,hs.output,hs.size,hs.frame,hs.keep,by omega,hs.ids,fun i q1 q2 => hs.fresh i q1 (by omega),hs.mlen,hs.mids,hs.mfresh,fun t k ht => ?_,fun t b q1 q2 q3 => hs.tfresh t b q1 (by omega) q3,hs.fro⟩
    obtain ⟨k',g1,g2⟩ := hs.tags t k ht
    have := (List.getElem?_eq_some_iff.1 ht).1
    exact ⟨k',(gT t (by omega)).trans g1,g2⟩
  · constructor
    · intro id cs t hid
      have hlt := (List.getElem?_eq_some_iff.1 hid).1
      obtain ⟨us,k1,k2,k3⟩ := hg.box id cs t ((gS id (by omega)).symm.trans hid)
      exact ⟨us,k1,few_reps hf k2 (ok_ins (hS _ (List.mem_of_getElem? hid)) (inBs_rep k2)),k3⟩
    · exact fun i j q1 q2 e => hg.inj i j (by omega) (by omega) e
    · intro t k b ht hb
      have hlt := (List.getElem?_eq_some_iff.1 ht).1
      obtain ⟨k1,k2,k3,k4⟩ := hg.tag t k b ((gT t (by omega)).symm.trans ht) hb
      exact ⟨k1,k2,fun i hi => k3 i (by omega),fun u hu he => k4 u (by omega) he⟩
    · intro id es hid
      obtain ⟨us,c,k1,k2,k3⟩ := hg.map id es hid
      exact ⟨us,c,k1,k2,fun i e k d he hk => ⟨(k3 i e k d he hk).1,few_repD hf (k3 i e k d he hk).2 (inD_rep (k3 i e k d he hk).2)⟩⟩
    · exact hg.mapinj
    · exact fun t b i q1 q2 q3 => hg.tmap t b i (by omega) q2 q3
theorem drop_refl {nt : Nat} {ρ ρ' : Rg} {st : St} (hr : ∀ t v,ρ' t = some v → ρ t = some v) : DropR C nT nt ρ st ρ' st := fun x z a _ _ _ hs hz hg hregs =>
  ⟨z,rfl,hz,hs,hg,hregs.defers,hregs.size,fun t v hv => hregs.reg t v (hr t v hv)⟩
theorem callT_bodyT {P : Program} {f : Nat} {fn : Func} {c : Code} {args : List BV} {st : St} {Q : BV → St → Prop} (Wr Wm : List Nat) (hf : P.funcs[f]? = some fn) (hb : fn.body = some c)
    (h : TriT ⟨P,fn.ntmps,Wr,Wm,st.S.length,st.M.length⟩ st.T.length c (regsOf args) st (endQ P fn.results.toList Wr st Q)) : CallT P Wr Wm f args st Q :=
  callT_bodyW Wr Wm hf hb fun x a hx hg hr K hK => h x x a (by rw [hx]) (by rw [hx]) (by rw [hx]) (Step.refl _ _ _) hx hg hr K hK
end
-- what of the state is still looked at
def idMax : List BV → Nat → Nat
  | [],n => n
  | .ptr id _ :: l,n => idMax l (max n (id + 1))
  | _ :: l,n => idMax l n
def tgMax : List BV → Nat → Nat
  | [],m => m
  | .own _ _ t _ _ :: l,m => tgMax l (max m (t + 1))
  | _ :: l,m => tgMax l m
def tgMaxS : List (List BV × Nat) → Nat → Nat
  | [],m => m
  | c :: l,m => tgMaxS l (tgMax c.1 m)
def valsL : RL → List BV
  | [] => []
  | e :: l => e.2 :: valsL l
def memN : List Nat → Nat → Bool
  | [],_ => false
  | a :: l,t => cond (Nat.beq a t) true (memN l t)
def keepL (ks : List Nat) : RL → RL
  | [] => []
  | e :: l => cond (memN ks e.1) (e :: keepL ks l) (keepL ks l)
def dropX (nb nT : Nat) (keep : Option (List Nat)) (st0 : St) (r : RL) (st : St) : RL × St :=
  match keep with
  | none => (r,st)
  | some ks => cond (Nat.beq st.S.length st0.S.length && Nat.beq st.T.length st0.T.length) (r,st)
    (let r' := keepL ks r
     let vs := valsL r'
     let n := idMax vs nb
     let S' := st.S.take n
     let m := tgMaxS S' (tgMax vs nT)
     cond (okBs n m vs && (S'.all (fun c => okBs n m c.1) && (Nat.ble n st.S.length && Nat.ble m st.T.length))) (r',⟨S',st.T.take m,st.M⟩) (r',st))
abbrev Runner := (Nat → Bool) → List Nat → Nat → Nat → XC → RL → St → Option (AX × RL × St)
inductive XR where
  | t (n : Nat)
  | c (n : Nat) (ag : Bool) (sz : Nat)
structure XF where
  loc : List Nat
  ps : List Nat
  body : XC
  res : List XR
inductive XE where
  | fn (x : XF)
  | law (F : List BV → St → Option (BV × St))
def compR {P : Program} (tb : Tabs P) : List ResultVar → Option (List XR)
  | [] => some []
  | .tmp t :: l => if loc t = true then (compR tb l).map (.t t :: ·) else none
  | .cell t ty :: l => if loc t = true then (match tb.ty ty,compR tb l with
    | some (ag,sz,_),some l => some (.c t ag sz :: l)
    | _,_ => none) else none
def resX (r : RL) (st : St) : List XR → Option (List BV)
  | [] => some []
  | .t p :: l => match getL r p,resX r st l with
    | some b,some bs => some (b :: bs)
    | _,_ => none
  | .c p ag sz :: l => match getL r p,resX r st l with
    | some (.ptr id off),some bs => match st.S[id]? with
      | some (cs,_) => match part ag sz off cs with
        | some b => some (b :: bs)
        | none => none
      | none => none
    | _,_ => none
theorem resX_eq {P : Program} (tb : Tabs P) {r : RL} {st : St} {ρ : Rg} (hρ : ∀ t v,rgx loc (r,[]) t = some v → ρ t = some v) : ∀ {rs : List ResultVar} {xs : List XR} {l : List BV},compR loc tb rs = some xs → resX r st xs = some l → resB P ρ st rs = some l
  | [],xs,l,h,hr => by
    obtain rfl := Option.some.inj h
    simpa [resX,resB] using hr
  | .tmp t :: rs,xs,l,h,hr => by
    rw [compR] at h
    split at h
    case isFalse => cases h
    rename_i hloc
    obtain ⟨xs',h',rfl⟩ := Option.map_eq_some_iff.1 h
    simp only [resX] at hr
    split at hr
    · rename_i b bs hb hbs
      obtain rfl := Option.some.inj hr
      have hb' : ρ t = some b := hρ t b (by simp only [rgx,hloc,cond_true];exact hb)
      simp only [resB,hb',resX_eq tb hρ h' hbs]
    · cases hr
  | .cell t ty :: rs,xs,l,h,hr => by
    rw [compR] at h
    split at h
    case isFalse => cases h
    rename_i hloc
    split at h
    · rename_i ag sz z xs' ht h'
      obtain rfl := Option.some.inj h
      simp only [resX] at hr
      split at hr
      · rename_i id off bs hb hbs
        have hb' : ρ t = some (.ptr id off) := hρ t _ (by simp only [rgx,hloc,cond_true];exact hb)
        split at hr
        · rename_i cs ty' hs
          split at hr
          · rename_i b hpt
            obtain rfl := Option.some.inj hr
            simp only [resB,hb',tb.tyH ht,resX_eq tb hρ h' hbs,hs,hpt]
          · cases hr
        · cases hr
      · cases hr
    · cases h
def endX : AX → Bool
  | .normal => true
  | .ret => true
  | .exit _ => false
def newT (nt : Nat) : List BV → Bool
  | [] => false
  | .own _ _ t _ _ :: l => Nat.ble nt t || newT nt l
  | _ :: l => newT nt l
def keepT (nt : Nat) (S : List (List BV × Nat)) : List Nat → Bool
  | [] => false
  | i :: l => match S[i]? with
    | some (cs,_) => newT nt cs || keepT nt S l
    | none => keepT nt S l
def tagsX (nt : Nat) (Wr : List Nat) (s : St) : List Nat := cond (keepT nt s.S Wr) s.T (s.T.take nt)
def finX (st s : St) (ids : List Nat) (l : List BV) (T' : List Nat) : Option (BV × St) :=
  match lows st.S.length T'.length l,popS st.S.length T'.length ids st.S s.S with
  | some l',some S' => if (Nat.ble st.T.length T'.length && Nat.beq s.M.length st.M.length) = true then some (retB l',⟨S',T',s.M⟩) else none
  | _,_ => none
def callX (tab : Tr XE) (rn : Runner) : Caller := fun _ p vs st =>
  match tab.get p with
  | some (.fn x) => match rn (memN x.loc) (idsBs vs) st.S.length st.T.length x.body (initX x.ps vs) st with
    | some (ex,r,s) => match endX ex,resX r s x.res with
      | true,some l => finX st s (idsBs vs) l (tagsX st.T.length (idsBs vs) s)
      | _,_ => none
    | none => none
  | some (.law F) => F vs st
  | none => none
def runStep (P : Program) (tab : Tr XE) (rn : Runner) : Runner := fun loc Wr nb nT x r st =>
  match x with
  | .skip => some (.normal,r,st)
  | .ret => some (.ret,r,st)
  | .exit id => some (.exit id,r,st)
  | .reg l => match runL loc P (okX Wr nb) (callX tab rn) (l.map toXP) (r,[]) st with
    | some (r',st') => some (.normal,r'.1,st')
    | none => none
  | .drw wr l => match runP loc P (okX Wr nb) (wrX (r,[]) st.S.length wr) (callX tab rn) l (r,[]) st with
    | some (r',st') => some (.normal,r'.1,st')
    | none => none
  | .seq a b => match rn loc Wr nb nT a r st with
    | some (.normal,r',st') => rn loc Wr nb nT b r' st'
    | some (.exit i,r',st') => some (.exit i,r',st')
    | some (.ret,r',st') => some (.ret,r',st')
    | none => none
  | .cond c a b => match evX (r,[]) c with
    | some v => match boolB v with
      | some t => cond t (rn loc Wr nb nT a r st) (rn loc Wr nb nT b r st)
      | none => none
    | none => none
  | .block id c => match rn loc Wr nb nT c r st with
    | some (.normal,r',st') => some (.normal,r',st')
    | some (.exit i,r',st') => if Nat.beq i id = true then some (.normal,r',st') else some (.exit i,r',st')
    | some (.ret,r',st') => some (.ret,r',st')
    | none => none
  | .loop kp c => match rn loc Wr nb nT c r st with
    | some (.normal,r',st') => match dropX nb nT kp st r' st' with
      | (r2,st2) => rn loc Wr nb nT (.loop kp c) r2 st2
    | some (.exit i,r',st') => some (.exit i,r',st')
    | some (.ret,r',st') => some (.ret,r',st')
    | none => none
def run (P : Program) (tab : Tr XE) : Nat → Runner
  | 0 => fun _ _ _ _ _ _ _ => none
  | n + 1 => runStep P tab (run P tab n)
def EntryOK (P : Program) (tb : Tabs P) (f : Nat) : XE → Prop
  | .fn x => fnOK P f = true ∧ ∃ fn pl kp n,P.funcs[f]? = some fn ∧ x.ps = List.range' 0 n ∧ (fn.body.bind fun c => compC (memN x.loc) tb pl kp fn.ntmps c) = some x.body ∧ compR (memN x.loc) tb fn.results.toList = some x.res
  | .law F => fnOK P f = true ∧ ∀ ars st b st',F ars st = some (b,st') → CallT P (idsBs ars) [] f ars st (fun r s => r = b ∧ s = st') ∧ st'.S.length = st.S.length ∧ st'.M.length = st.M.length
def TabOK (P : Program) (tb : Tabs P) (tab : Tr XE) : Prop := ∀ f x,tab.get (bits f) = some x → EntryOK P tb f x
theorem tab_e {P : Program} (tb : Tabs P) : TabOK P tb .e := fun f x h => by cases h
theorem tab_set {P : Program} {tb : Tabs P} {tab : Tr XE} (h : TabOK P tb tab) {f : Nat} {x : XE} (hx : EntryOK P tb f x) : TabOK P tb (tab.set (bits f) x) := fun g y hy => by
  rw [Tr.get_set] at hy
  split at hy
  · rename_i e
    obtain rfl := bits_inj e
    obtain rfl := Option.some.inj hy
    exact hx
  · exact h g y hy
def isQ (ex : AX) (r : RL) (st : St) : Post := fun e ρ s => e = ex ∧ (∀ t v,rgx loc (r,[]) t = some v → ρ t = some v) ∧ s = st
def RunOK (P : Program) (tb : Tabs P) (rn : Runner) : Prop := ∀ (loc : Nat → Bool) (nt : Nat) (Wr : List Nat) (nb nT nm : Nat) (pl : Nat → Option (MP × List Nat × List XO)) (kp : Nat → Option (List Nat)) (c : Code) (x : XC) (r r' : RL) (st st' : St) (ex : AX),compC loc tb pl kp nt c = some x → rn loc Wr nb nT x r st = some (ex,r',st') → TriT ⟨P,nt,Wr,[],nb,nm⟩ nT c (rgx loc (r,[])) st (isQ loc ex r' st')
theorem call_sound {P : Program} {tb : Tabs P} {tab : Tr XE} (ht : TabOK P tb tab) {rn : Runner} (hrn : RunOK P tb rn) : CallerOK P (callX tab rn) := by
  intro g ars st b st' h
  unfold callX at h
  split at h
  · rename_i x hx
    obtain ⟨hok,fn,pl,kp,n,h1,hps,h2,h4⟩ := ht g _ hx
    obtain ⟨c,h2,h3⟩ := Option.bind_eq_some_iff.1 h2
    split at h
    · rename_i ex r s hrun
      split at h
      · rename_i l he hl
        unfold finX at h
        split at h
        · rename_i l' S' hl' hS'
          split at h
          · rename_i hT
            simp only [Option.some.injEq,Prod.mk.injEq] at h
            obtain ⟨rfl,rfl⟩ := h
            rw [Bool.and_eq_true] at hT
            have hM := Nat.eq_of_beq_eq_true hT.2
            have hT := Nat.le_of_ble_eq_true hT.1
            refine ⟨?_,hok,popS_length hS',hM⟩
            have key := hrn (memN x.loc) fn.ntmps (idsBs ars) st.S.length st.T.length st.M.length pl kp c x.body _ r st s ex h3 hrun
            refine callT_bodyT _ [] h1 h2 (triT_weak (fun t v hv => ?_) (triT_mono key fun e ρ s' hq => ?_))
            · simp only [rgx] at hv
              cases hl : memN x.loc t <;> rw [hl] at hv
              · cases hv
              · rw [hps] at hv
                exact (init_get n 0 ars t v hv).2
            · obtain ⟨rfl,hρ,rfl⟩ := hq
              refine ⟨?_,l,l',S',_,.inl (resX_eq (memN x.loc) tb hρ h4 hl),hl',hS',?_,hT,rfl,rfl⟩
              · cases e with
                | normal => exact .inl rfl
                | ret => exact .inr rfl
                | exit i => cases he
              · unfold tagsX
                cases keepT st.T.length s'.S (idsBs ars)
                · exact List.take_prefix _ _
                · exact List.prefix_refl _
          · cases h
        · cases h
      · cases h
    · cases h
  · rename_i F hF
    obtain ⟨hok,hF⟩ := ht g _ hF
    exact ⟨(hF _ _ _ _ h).1,hok,(hF _ _ _ _ h).2⟩
  · cases h
theorem rgx_low (r : RT) : ∀ t v,rgx loc (r.1,[]) t = some v → rgx loc r t = some v := fun t v h => by
  simp only [rgx] at h ⊢
  cases hl : loc t <;> rw [hl] at h
  · cases h
  · exact h
theorem isQ_self (ex : AX) (r : RL) (st : St) : isQ loc ex r st ex (rgx loc (r,[])) st := ⟨rfl,fun _ _ h => h,rfl⟩
theorem idMax_le : ∀ (l : List BV) (n : Nat),n ≤ idMax l n
  | [],n => Nat.le_refl _
  | b :: l,n => by
    cases b <;> simp only [idMax] <;> first | exact idMax_le l n | exact Nat.le_trans (by omega) (idMax_le l _)
theorem tgMax_le : ∀ (l : List BV) (n : Nat),n ≤ tgMax l n
  | [],n => Nat.le_refl _
  | b :: l,n => by
    cases b <;> simp only [tgMax] <;> first | exact tgMax_le l n | exact Nat.le_trans (by omega) (tgMax_le l _)
theorem tgMaxS_le : ∀ (l : List (List BV × Nat)) (n : Nat),n ≤ tgMaxS l n
  | [],n => Nat.le_refl _
  | c :: l,n => by
    rw [tgMaxS]
    exact Nat.le_trans (tgMax_le c.1 n) (tgMaxS_le l _)
theorem valsL_in {nb nt : Nat} : ∀ {r : RL},okBs nb nt (valsL r) = true → ∀ t v,getL r t = some v → okB nb nt v = true
  | [],h,t,v,hv => by cases hv
  | (d,b) :: r,h,t,v,hv => by
    rw [valsL,okBs,Bool.and_eq_true] at h
    rw [getL_cons] at hv
    split at hv
    · obtain rfl := Option.some.inj hv
      exact h.1
    · exact valsL_in h.2 t v hv
theorem keepL_get (ks : List Nat) : ∀ (r : RL) (t : Nat) (v : BV),getL (keepL ks r) t = some v → (∀ c,r = c → True) ∧ (memN ks t = true → getL r t = some v) ∧ (memN ks t = false → False)
  | [],t,v,h => by cases h
  | (d,b) :: r,t,v,h => by
    rw [keepL] at h
    have ih := keepL_get ks r t v
    cases hm : memN ks d <;> rw [hm] at h
    · obtain ⟨_,h1,h2⟩ := ih h
      refine ⟨fun _ _ => trivial,fun ht => ?_,h2⟩
      rw [getL_cons,if_neg]
      · exact h1 ht
      · rintro rfl
        rw [hm] at ht
        cases ht
    · have h' : getL ((d,b) :: keepL ks r) t = some v := h
      rw [getL_cons] at h'
      by_cases e : t = d
      · subst e
        rw [if_pos rfl] at h'
        refine ⟨fun _ _ => trivial,fun _ => ?_,fun e => ?_⟩
        · rw [getL_cons,if_pos rfl];exact h'
        · rw [hm] at e;cases e
      · rw [if_neg e] at h'
        obtain ⟨_,h1,h2⟩ := ih h'
        refine ⟨fun _ _ => trivial,fun ht => ?_,h2⟩
        rw [getL_cons,if_neg e]
        exact h1 ht
theorem keepL_le (ks : List Nat) (r : RL) : ∀ t v,rgx loc (keepL ks r,[]) t = some v → rgx loc (r,[]) t = some v := fun t v h => by
  simp only [rgx] at h ⊢
  cases hl : loc t <;> rw [hl] at h
  · cases h
  · obtain ⟨_,h1,h2⟩ := keepL_get ks r t v h
    cases hm : memN ks t
    · exact (h2 hm).elim
    · exact h1 hm
theorem dropX_ok {C : Cx} {nt nT : Nat} {ρ : Rg} {st0 st st2 : St} {r r2 : RL} {keep : Option (List Nat)} (hd : dropX C.nb nT keep st0 r st = (r2,st2)) (hρ : ∀ t v,rgx loc (r,[]) t = some v → ρ t = some v) : DropR C nT nt ρ st (rgx loc (r2,[])) st2 := by
  unfold dropX at hd
  cases keep with
  | none =>
    simp only [Prod.mk.injEq] at hd
    obtain ⟨rfl,rfl⟩ := hd
    exact drop_refl hρ
  | some ks =>
    dsimp only at hd
    cases hb : Nat.beq st.S.length st0.S.length && Nat.beq st.T.length st0.T.length
    · rw [hb,cond_false] at hd
      have hρ' : ∀ t v,rgx loc (keepL ks r,[]) t = some v → ρ t = some v := fun t v h => hρ t v (keepL_le loc ks r t v h)
      generalize keepL ks r = r' at hd hρ'
      cases hc : okBs (idMax (valsL r') C.nb) (tgMaxS (st.S.take (idMax (valsL r') C.nb)) (tgMax (valsL r') nT)) (valsL r') && ((st.S.take (idMax (valsL r') C.nb)).all (fun c => okBs (idMax (valsL r') C.nb) (tgMaxS (st.S.take (idMax (valsL r') C.nb)) (tgMax (valsL r') nT)) c.1) && (Nat.ble (idMax (valsL r') C.nb) st.S.length && Nat.ble (tgMaxS (st.S.take (idMax (valsL r') C.nb)) (tgMax (valsL r') nT)) st.T.length))
      · rw [hc,cond_false] at hd
        simp only [Prod.mk.injEq] at hd
        obtain ⟨rfl,rfl⟩ := hd
        exact drop_refl hρ'
      · rw [hc,cond_true] at hd
        simp only [Prod.mk.injEq] at hd
        obtain ⟨rfl,rfl⟩ := hd
        simp only [Bool.and_eq_true] at hc
        obtain ⟨h1,h2,h3,h4⟩ := hc
        refine drop_ok _ _ (idMax_le _ _) (Nat.le_trans (tgMax_le _ _) (tgMaxS_le _ _)) (fun t v hv => ⟨hρ' t v hv,?_⟩) (fun c hc => List.all_eq_true.1 h2 c hc) (Nat.le_of_ble_eq_true h3) (Nat.le_of_ble_eq_true h4)
        simp only [rgx] at hv
        cases hl : loc t <;> rw [hl] at hv
        · cases hv
        · exact valsL_in h1 t v hv
    · rw [hb,cond_true] at hd
      simp only [Prod.mk.injEq] at hd
      obtain ⟨rfl,rfl⟩ := hd
      exact drop_refl hρ
theorem run_sound {P : Program} {tb : Tabs P} {tab : Tr XE} (hm : P.follows .mixedOrders = true) (ht : TabOK P tb tab) : ∀ (n : Nat),RunOK P tb (run P tab n) := by
  intro n
  induction n using Nat.strongRecOn with
  | _ n ih0 => ?_
  cases n with
  | zero => intro loc nt Wr nb nT nm pl kp c x r r' st st' ex hx h;cases h
  | succ n =>
    intro loc nt Wr nb nT nm pl kp c x r r' st st' ex hx h
    have hcall := call_sound ht (ih0 n (Nat.lt_succ_self n))
    have ih' : ∀ (c : Code) (x : XC) (r r' : RL) (st st' : St) (ex : AX),compC loc tb pl kp nt c = some x → run P tab n loc Wr nb nT x r st = some (ex,r',st') → TriT ⟨P,nt,Wr,[],nb,nm⟩ nT c (rgx loc (r,[])) st (isQ loc ex r' st') :=
      fun c x r r' st st' ex h1 h2 => ih0 n (Nat.lt_succ_self n) loc nt Wr nb nT nm pl kp c x r r' st st' ex h1 h2
    have hok : okX Wr nb = okC ⟨P,nt,Wr,[],nb,nm⟩ := okX_eq ⟨P,nt,Wr,[],nb,nm⟩
    cases c with
    | skip =>
      obtain rfl := Option.some.inj hx
      simp only [run,runStep,Option.some.injEq,Prod.mk.injEq] at h
      obtain ⟨rfl,rfl,rfl⟩ := h
      exact triT (tri_skip (isQ_self loc _ _ _))
    | ret =>
      obtain rfl := Option.some.inj hx
      simp only [run,runStep,Option.some.injEq,Prod.mk.injEq] at h
      obtain ⟨rfl,rfl,rfl⟩ := h
      exact triT (tri_ret (isQ_self loc _ _ _))
    | exit id =>
      obtain rfl := Option.some.inj hx
      simp only [run,runStep,Option.some.injEq,Prod.mk.injEq] at h
      obtain ⟨rfl,rfl,rfl⟩ := h
      exact triT (tri_exit (isQ_self loc _ _ _))
    | region id ops dr =>
      cases dr with
      | false =>
        rw [compC] at hx
        split at hx
        · rename_i hd
          obtain rfl := Option.some.inj hx
          simp only [run,runStep,hok] at h
          split at h
          · rename_i r1 s1 h1
            simp only [Option.some.injEq,Prod.mk.injEq] at h
            obtain ⟨rfl,rfl,rfl⟩ := h
            rw [toXP_map] at h1
            exact triT (tri_region hd (triL_mono (runL_sound loc (C := ⟨P,nt,Wr,[],nb,nm⟩) tb hcall _ h1) fun ρ s e => ⟨rfl,fun t v hv => e.1 ▸ rgx_low loc r1 t v hv,e.2⟩))
          · cases h
        · cases hx
      | true =>
        rw [compC] at hx
        split at hx
        · rename_i p ds wr hp
          split at hx
          · rename_i hg
            obtain ⟨l,hl,rfl⟩ := Option.map_eq_some_iff.1 hx
            simp only [run,runStep,hok] at h
            split at h
            · rename_i r1 s1 h1
              simp only [Option.some.injEq,Prod.mk.injEq] at h
              obtain ⟨rfl,rfl,rfl⟩ := h
              exact triT (tri_drawn p.toP (wrX (r,[]) st.S.length wr) ds hm hg (runP_sound loc (C := ⟨P,nt,Wr,[],nb,nm⟩) tb hcall p hl h1 ⟨rfl,rgx_low loc r1,rfl⟩))
            · cases h
          · cases hx
        · cases hx
    | seq a b =>
      rw [compC] at hx
      split at hx
      · rename_i xa xb ha hb
        obtain rfl := Option.some.inj hx
        simp only [run,runStep] at h
        refine triT_seq ?_
        split at h
        · rename_i r1 s1 h1
          refine triT_mono (ih' a xa _ _ _ _ _ ha h1) fun e ρ s ⟨e1,e2,e3⟩ => ?_
          subst e1 e3
          exact triT_weak e2 (ih' b xb _ _ _ _ _ hb h)
        · rename_i i r1 s1 h1
          simp only [Option.some.injEq,Prod.mk.injEq] at h
          obtain ⟨rfl,rfl,rfl⟩ := h
          refine triT_mono (ih' a xa _ _ _ _ _ ha h1) fun e ρ s ⟨e1,e2,e3⟩ => ?_
          subst e1 e3
          exact ⟨rfl,e2,rfl⟩
        · rename_i r1 s1 h1
          simp only [Option.some.injEq,Prod.mk.injEq] at h
          obtain ⟨rfl,rfl,rfl⟩ := h
          refine triT_mono (ih' a xa _ _ _ _ _ ha h1) fun e ρ s ⟨e1,e2,e3⟩ => ?_
          subst e1 e3
          exact ⟨rfl,e2,rfl⟩
        · cases h
      · cases hx
    | cond o a b =>
      rw [compC] at hx
      split at hx
      · rename_i xa xb ha hb
        obtain rfl := Option.some.inj hx
        simp only [run,runStep,evX_eq] at h
        split at h
        · rename_i v hv
          split at h
          · rename_i t ht
            obtain rfl := boolB_eq ht
            cases t
            · exact triT_cond false hv (fun e => by cases e) (fun _ => ih' b xb _ _ _ _ _ hb h)
            · exact triT_cond true hv (fun _ => ih' a xa _ _ _ _ _ ha h) (fun e => by cases e)
          · cases h
        · cases h
      · cases hx
    | block id a =>
      rw [compC] at hx
      obtain ⟨xa,ha,rfl⟩ := Option.map_eq_some_iff.1 hx
      simp only [run,runStep] at h
      refine triT_block ?_
      split at h
      · rename_i r1 s1 h1
        simp only [Option.some.injEq,Prod.mk.injEq] at h
        obtain ⟨rfl,rfl,rfl⟩ := h
        refine triT_mono (ih' a xa _ _ _ _ _ ha h1) fun e ρ s ⟨e1,e2,e3⟩ => ?_
        subst e1 e3
        exact ⟨rfl,e2,rfl⟩
      · rename_i i r1 s1 h1
        refine triT_mono (ih' a xa _ _ _ _ _ ha h1) fun e ρ s ⟨e1,e2,e3⟩ => ?_
        subst e1 e3
        split at h
        · rename_i hi
          obtain rfl := Nat.eq_of_beq_eq_true hi
          simp only [Option.some.injEq,Prod.mk.injEq] at h
          obtain ⟨rfl,rfl,rfl⟩ := h
          exact p_in ⟨rfl,e2,rfl⟩
        · rename_i hi
          simp only [Option.some.injEq,Prod.mk.injEq] at h
          obtain ⟨rfl,rfl,rfl⟩ := h
          refine p_ne ?_ ⟨rfl,e2,rfl⟩
          rw [Bool.eq_false_iff]
          intro e
          exact hi (by simpa using e)
      · rename_i r1 s1 h1
        simp only [Option.some.injEq,Prod.mk.injEq] at h
        obtain ⟨rfl,rfl,rfl⟩ := h
        refine triT_mono (ih' a xa _ _ _ _ _ ha h1) fun e ρ s ⟨e1,e2,e3⟩ => ?_
        subst e1 e3
        exact ⟨rfl,e2,rfl⟩
      · cases h
    | loop a =>
      have hx0 := hx
      rw [compC] at hx
      obtain ⟨xa,ha,rfl⟩ := Option.map_eq_some_iff.1 hx
      have hj : ∀ j,j < n + 1 → ∀ (c : Code) (x : XC) (r r' : RL) (st st' : St) (ex : AX),compC loc tb pl kp nt c = some x → run P tab j loc Wr nb nT x r st = some (ex,r',st') → TriT ⟨P,nt,Wr,[],nb,nm⟩ nT c (rgx loc (r,[])) st (isQ loc ex r' st') := fun j hj c x r r' st st' ex h1 h2 => ih0 j hj loc nt Wr nb nT nm pl kp c x r r' st st' ex h1 h2
      refine triT_loop (fun k ρ s => ∃ r1,(∀ t v,rgx loc (r1,[]) t = some v → ρ t = some v) ∧ k ≤ n + 1 ∧ run P tab k loc Wr nb nT (.loop ((firstBlock a).bind kp) xa) r1 s = some (ex,r',st')) (n + 1) ⟨r,fun _ _ h => h,Nat.le_refl _,h⟩ ?_
      rintro k ρ s ⟨r1,hρ,hk,hrun⟩
      refine triT_weak hρ ?_
      cases k with
      | zero => cases hrun
      | succ k =>
        simp only [run,runStep] at hrun
        split at hrun
        · rename_i r2 s2 h1
          refine triT_mono (hj k (by omega) a xa _ _ _ _ _ ha h1) fun e ρ s' ⟨e1,e2,e3⟩ => ?_
          subst e1 e3
          generalize hd : dropX nb nT ((firstBlock a).bind kp) s r2 s' = q at hrun
          obtain ⟨r3,s3⟩ := q
          exact ⟨k,rgx loc (r3,[]),_,by omega,⟨r3,fun _ _ h => h,by omega,hrun⟩,dropX_ok loc (C := ⟨P,nt,Wr,[],nb,nm⟩) hd e2⟩
        · rename_i i r2 s2 h1
          simp only [Option.some.injEq,Prod.mk.injEq] at hrun
          obtain ⟨rfl,rfl,rfl⟩ := hrun
          refine triT_mono (hj k (by omega) a xa _ _ _ _ _ ha h1) fun e ρ s ⟨e1,e2,e3⟩ => ?_
          subst e1 e3
          exact ⟨rfl,e2,rfl⟩
        · rename_i r2 s2 h1
          simp only [Option.some.injEq,Prod.mk.injEq] at hrun
          obtain ⟨rfl,rfl,rfl⟩ := hrun
          refine triT_mono (hj k (by omega) a xa _ _ _ _ _ ha h1) fun e ρ s ⟨e1,e2,e3⟩ => ?_
          subst e1 e3
          exact ⟨rfl,e2,rfl⟩
        · cases hrun
    | _ => simp [compC] at hx
theorem closed_call {P : Program} {tb : Tabs P} {tab : Tr XE} (hm : P.follows .mixedOrders = true) (ht : TabOK P tb tab) {n f : Nat} {ars : List BV} {st st' : St} {b : BV} (h : callX tab (run P tab n) f (bits f) ars st = some (b,st')) : CallT P (idsBs ars) [] f ars st (fun r s => r = b ∧ s = st') :=
  (call_sound ht (run_sound hm ht n) f ars st b st' h).1
end Go.Proofs.YtokilnhpepbjlaaGreat.Calc
namespace Go.Proofs.YtokilnhpepbjlaaGreat
open Go Go.Proofs.YtokilnhpepbjlaaGreat.Calc
set_option maxRecDepth 100000
set_option linter.unusedVariables false
def p0 : List Bool := []
def p1 : List Bool := [false]
def p2 : List Bool := [true]
def p3 : List Bool := [false,false]
def p4 : List Bool := [true,false]
def p16 : List Bool := [true,false,false,false]
def p17 : List Bool := [false,true,false,false]
def p27 : List Bool := [false,false,true,true]
def p36 : List Bool := [true,false,true,false,false]
def p37 : List Bool := [false,true,true,false,false]
def p38 : List Bool := [true,true,true,false,false]
def p39 : List Bool := [false,false,false,true,false]
def p40 : List Bool := [true,false,false,true,false]
def p41 : List Bool := [false,true,false,true,false]
def p42 : List Bool := [true,true,false,true,false]
def p43 : List Bool := [false,false,true,true,false]
def p44 : List Bool := [true,false,true,true,false]
def p45 : List Bool := [false,true,true,true,false]
def p46 : List Bool := [true,true,true,true,false]
def p47 : List Bool := [false,false,false,false,true]
def p58 : List Bool := [true,true,false,true,true]
def p59 : List Bool := [false,false,true,true,true]
def p60 : List Bool := [true,false,true,true,true]
def p61 : List Bool := [false,true,true,true,true]
def p62 : List Bool := [true,true,true,true,true]
def p63 : List Bool := [false,false,false,false,false,false]
def p64 : List Bool := [true,false,false,false,false,false]
def p65 : List Bool := [false,true,false,false,false,false]
def p66 : List Bool := [true,true,false,false,false,false]
def p67 : List Bool := [false,false,true,false,false,false]
def p68 : List Bool := [true,false,true,false,false,false]
def p69 : List Bool := [false,true,true,false,false,false]
def p70 : List Bool := [true,true,true,false,false,false]
def p71 : List Bool := [false,false,false,true,false,false]
def p72 : List Bool := [true,false,false,true,false,false]
def p73 : List Bool := [false,true,false,true,false,false]
def p74 : List Bool := [true,true,false,true,false,false]
def p75 : List Bool := [false,false,true,true,false,false]
def p86 : List Bool := [true,true,true,false,true,false]
def p87 : List Bool := [false,false,false,true,true,false]
def p88 : List Bool := [true,false,false,true,true,false]
def p89 : List Bool := [false,true,false,true,true,false]
def p90 : List Bool := [true,true,false,true,true,false]
def p91 : List Bool := [false,false,true,true,true,false]
def p92 : List Bool := [true,false,true,true,true,false]
def p93 : List Bool := [false,true,true,true,true,false]
def p94 : List Bool := [true,true,true,true,true,false]
def p95 : List Bool := [false,false,false,false,false,true]
def p96 : List Bool := [true,false,false,false,false,true]
def p97 : List Bool := [false,true,false,false,false,true]
def p98 : List Bool := [true,true,false,false,false,true]
def p99 : List Bool := [false,false,true,false,false,true]
def p100 : List Bool := [true,false,true,false,false,true]
def p101 : List Bool := [false,true,true,false,false,true]
def p102 : List Bool := [true,true,true,false,false,true]
def p103 : List Bool := [false,false,false,true,false,true]
def p104 : List Bool := [true,false,false,true,false,true]
def p105 : List Bool := [false,true,false,true,false,true]
def p106 : List Bool := [true,true,false,true,false,true]
def p107 : List Bool := [false,false,true,true,false,true]
def p108 : List Bool := [true,false,true,true,false,true]
def p117 : List Bool := [false,true,true,false,true,true]
def p118 : List Bool := [true,true,true,false,true,true]
def p119 : List Bool := [false,false,false,true,true,true]
def p120 : List Bool := [true,false,false,true,true,true]
def p121 : List Bool := [false,true,false,true,true,true]
def p122 : List Bool := [true,true,false,true,true,true]
def p123 : List Bool := [false,false,true,true,true,true]
def p124 : List Bool := [true,false,true,true,true,true]
def p125 : List Bool := [false,true,true,true,true,true]
def p126 : List Bool := [true,true,true,true,true,true]
def p127 : List Bool := [false,false,false,false,false,false,false]
def p141 : List Bool := [false,true,true,true,false,false,false]
def p142 : List Bool := [true,true,true,true,false,false,false]
abbrev cI (n : Int) : XO := .c (.d (.flat (.int .i64 n)))
abbrev cB (b : Bool) : XO := .c (.d (.flat (.bool b)))
abbrev cS (s : Array UInt8) : XO := .c (.d (.flat (.string ⟨s⟩)))
abbrev gT (n : Nat) (v : XI) : XQ := .g ⟨.t n,.yes,v⟩
abbrev gL (n : Nat) (v : XI) : XQ := .g ⟨.l n,.yes,v⟩
abbrev gN (v : XI) : XQ := .g ⟨.no,.yes,v⟩
abbrev sT (n : Nat) (v : XI) : XD := .st ⟨true,false,⟨.t n,.yes,v⟩⟩
abbrev sL (n : Nat) (v : XI) : XD := .st ⟨true,false,⟨.l n,.yes,v⟩⟩
abbrev b2 (f : BinOp) (t a b : Nat) : XI := .bin f (.t a) (.t b) (.binOp f t (.tmp a) (.tmp b) t)
abbrev bI (f : BinOp) (t a : Nat) (n : Int) : XI := .bin f (.t a) (cI n) (.binOp f t (.tmp a) (.const (.int .i64 n)) t)
abbrev bS (f : BinOp) (t a : Nat) (s : Array UInt8) : XI := .bin f (.t a) (cS s) (.binOp f t (.tmp a) (.const (.string ⟨s⟩)) t)
def plans : Nat → Nat → Option (MP × List Nat × List XO)
  | 16,6 => some ((.take 0 (.take 1 (.take 2 (.take 3 (.take 4 (.take 5 (.take 6 (.take 7 (.take 8 (.take 9 (.take 10 (.take 11 (.take 12 (.take 13 (.take 14 (.take 15 (.take 16 .nil))))))))))))))))),[],[])
  | 16,17 => some ((.take 0 (.take 1 (.take 2 (.take 3 (.take 4 (.take 5 (.take 6 (.take 7 (.take 8 (.one 9 (.take 10 (.take 11 .nil)))))))))))),[],[(.l 2)])
  | 16,19 => some ((.take 0 (.take 1 (.take 2 (.take 3 (.take 4 (.one 5 (.take 6 (.take 7 .nil)))))))),[],[(.l 2)])
  | 41,1 => some ((.take 0 (.take 1 (.take 2 (.take 3 (.one 4 (.take 5 (.take 6 (.take 7 (.one 8 (.take 9 (.take 10 (.take 11 (.take 12 (.take 13 (.take 14 (.take 15 (.take 16 (.take 17 (.take 18 (.take 19 (.take 20 (.take 21 (.take 22 (.take 23 (.take 24 (.take 25 (.take 26 (.take 27 .nil)))))))))))))))))))))))))))),[4,8],[])
  | 41,5 => some ((.take 0 (.take 1 (.take 2 (.take 3 (.take 4 (.take 5 (.one 6 (.one 7 (.take 8 (.take 9 (.one 10 .nil))))))))))),[10],[])
  | 41,10 => some ((.take 0 (.take 1 (.take 2 (.take 3 (.take 4 (.take 5 (.one 6 (.one 7 (.take 8 (.take 9 (.one 10 .nil))))))))))),[10],[])
  | 41,16 => some ((.take 0 (.take 1 (.take 2 (.take 3 (.take 4 (.take 5 (.one 6 (.one 7 (.take 8 (.take 9 (.one 10 .nil))))))))))),[10],[])
  | 41,21 => some ((.take 0 (.take 1 (.take 2 (.take 3 (.take 4 (.take 5 (.one 6 (.one 7 (.take 8 (.take 9 (.one 10 .nil))))))))))),[10],[])
  | 61,1 => some ((.take 0 (.take 1 (.one 2 (.take 3 (.take 4 (.take 5 (.take 6 (.take 7 (.take 8 (.take 9 (.take 10 (.take 11 (.take 12 (.take 13 (.take 14 (.take 15 (.take 16 (.one 17 (.take 18 (.take 19 .nil)))))))))))))))))))),[2,17],[])
  | 62,1 => some ((.take 0 (.take 1 (.take 2 (.take 3 (.take 4 (.take 5 (.take 6 (.take 7 (.take 8 (.take 9 (.take 10 (.take 11 .nil)))))))))))),[],[])
  | 74,20 => some ((.take 0 (.take 1 (.take 3 (.take 4 (.one 2 (.one 5 (.take 6 (.take 7 .nil)))))))),[5],[])
  | 74,22 => some ((.take 0 (.take 1 (.take 3 (.take 4 (.take 5 (.take 6 (.one 2 (.take 7 (.take 8 .nil))))))))),[],[])
  | 74,25 => some ((.take 0 (.take 1 (.take 3 (.take 4 (.take 5 (.one 2 (.take 6 (.take 7 .nil)))))))),[],[])
  | 74,27 => some ((.take 0 (.take 1 (.take 3 (.take 4 (.take 6 (.take 7 (.take 8 (.one 2 (.one 5 (.take 9 (.take 10 (.take 11 .nil)))))))))))),[],[])
  | 74,29 => some ((.take 0 (.take 1 (.take 3 (.take 4 (.take 5 (.one 2 (.take 6 (.take 7 .nil)))))))),[],[])
  | 91,1 => some ((.take 0 (.take 1 (.take 2 (.take 3 (.take 4 (.take 5 (.take 6 (.take 7 (.take 8 (.take 9 .nil)))))))))),[],[])
  | 91,2 => some ((.take 0 (.take 1 (.take 2 (.take 3 (.take 4 (.take 5 (.take 6 (.take 7 (.take 8 (.take 9 (.take 10 (.take 11 .nil)))))))))))),[],[])
  | 94,5 => some ((.take 0 (.take 1 (.one 2 (.one 3 (.take 4 (.one 5 .nil)))))),[5],[(.l 0)])
  | 95,1 => some ((.take 0 (.take 1 (.one 2 (.take 3 (.take 4 (.take 5 (.take 6 (.take 7 (.take 8 (.take 9 (.take 10 (.take 11 (.take 12 (.take 13 (.take 14 (.take 15 (.take 16 (.one 17 (.take 18 (.take 19 .nil)))))))))))))))))))),[2,17],[])
  | 97,4 => some ((.take 0 (.one 1 (.take 2 (.take 3 (.take 4 (.take 5 (.take 6 (.take 7 (.take 8 (.take 9 (.take 10 (.take 11 (.take 12 (.take 13 (.take 15 (.one 14 (.take 16 (.take 17 .nil)))))))))))))))))),[1],[])
  | 97,5 => some ((.take 0 (.take 1 (.take 2 (.take 3 (.take 4 (.take 5 (.take 6 (.take 7 (.take 8 (.take 9 (.take 10 (.take 11 .nil)))))))))))),[],[])
  | 99,5 => some ((.take 0 (.take 1 (.take 2 (.take 3 (.take 4 (.take 5 (.take 6 (.take 9 (.take 10 (.take 11 (.take 12 (.take 13 (.take 16 (.take 17 (.take 18 (.take 19 (.take 20 (.take 23 (.take 24 (.take 25 (.take 26 (.take 27 (.one 7 (.take 8 (.one 14 (.take 15 (.one 21 (.take 22 (.one 28 (.take 29 (.take 30 .nil))))))))))))))))))))))))))))))),[],[])
  | 118,4 => some ((.take 0 (.take 1 (.take 2 (.take 3 (.take 4 (.take 5 (.take 6 (.take 7 (.take 8 (.take 9 (.take 10 (.take 11 .nil)))))))))))),[],[])
  | 124,2 => some ((.take 0 (.take 1 (.take 2 (.take 3 (.take 4 (.take 5 (.take 6 (.take 7 (.take 8 (.take 9 (.take 10 (.take 11 .nil)))))))))))),[],[])
  | 127,1 => some ((.take 0 (.take 1 (.take 2 (.take 3 (.take 4 (.take 5 (.take 6 (.take 7 (.take 8 (.take 9 (.take 10 (.take 11 (.take 12 (.take 13 (.take 14 (.take 15 (.take 16 (.take 17 (.take 18 .nil))))))))))))))))))),[],[])
  | 141,6 => some ((.take 0 (.take 1 (.take 3 (.fl [(false,4)] 2 (.one 5 (.take 6 (.one 7 .nil))))))),[7],[(.l 0)])
  | 141,9 => some ((.take 0 (.take 2 (.fl [(false,1)] 3 (.take 4 (.one 5 .nil))))),[5],[(.l 0)])
  | 141,11 => some ((.take 0 (.take 2 (.fl [(false,1)] 3 (.take 4 (.one 5 .nil))))),[5],[(.l 0)])
  | 142,3 => some ((.take 0 (.one 1 (.take 2 (.take 3 (.take 4 (.take 5 (.take 6 (.take 7 (.take 8 (.take 9 (.take 10 (.take 11 (.take 12 (.take 13 (.take 14 (.take 15 (.take 16 (.take 17 (.take 18 (.take 19 (.take 20 (.take 21 (.take 22 (.take 23 (.take 24 (.take 25 (.take 26 (.take 27 (.take 28 (.take 29 (.take 30 (.take 31 (.take 32 (.take 33 (.take 34 (.take 35 .nil)))))))))))))))))))))))))))))))))))),[1],[])
  | 142,5 => some ((.take 0 (.take 1 (.take 2 (.take 3 (.take 4 (.take 5 (.take 6 (.take 7 (.take 8 (.take 9 (.take 10 (.take 11 (.take 12 (.one 13 .nil)))))))))))))),[13],[])
  | _,_ => none
def keeps : Nat → Nat → Option (List Nat)
  | 16,1 => some [2,8,9]
  | 16,3 => some [2,8,9,10]
  | 27,1 => some [0,1,5]
  | 36,1 => some [0,5,6,7]
  | 42,1 => some [1,3]
  | 42,3 => some [1,3,4,5]
  | 42,5 => some [1,3,4,7]
  | 43,1 => some [0,1,7,8,9]
  | 47,1 => some [0,3,4,5]
  | 58,1 => some [0,3]
  | 59,2 => some [0,1,4,7]
  | 59,4 => some [0,1,4,7]
  | 59,6 => some [0,1,4,7]
  | 65,1 => some [0,3]
  | 66,1 => some [0,1,5]
  | 70,1 => some [1,3,4]
  | 70,3 => some [1,3,4,5,6]
  | 70,5 => some [1,3,4,5,7]
  | 74,2 => some [1,2,10]
  | 75,1 => some [1,3]
  | 86,2 => some [0,1,4,6,7,8,9,10]
  | 89,1 => some [0,1,5]
  | 90,1 => some [0,4,5]
  | 97,1 => some [0,1,4,5]
  | 98,1 => some [0,3,4]
  | 99,1 => some [0,3,4]
  | 100,1 => some [0,1,5]
  | 108,1 => some [0,1,2,7]
  | 108,3 => some [0,1,2,7,8,9]
  | 118,1 => some [0,1,5,6,7]
  | 119,1 => some [0,3]
  | 141,1 => some [0,3,4]
  | _,_ => none
def mTabs : Tabs Tryz.prog := ⟨tyTab,plTab,elTab,udTab,tyT,plT,elT,udT⟩
end Go.Proofs.YtokilnhpepbjlaaGreat
