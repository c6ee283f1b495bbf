/- Texts of the claim, merged: Calc17, RU. No conditions. -/
import Derived.Test.YtokilnhpepbjlaaGreatPg12
import Derived.Test.YtokilnhpepbjlaaGreatPg1
import Derived.KernelRfl
namespace Go.Proofs.YtokilnhpepbjlaaGreat.Calc
open Go Go.RowKit
set_option linter.unusedVariables false
set_option linter.unusedSimpArgs false
noncomputable section
def okK (Wr : List Nat) (nb : Nat) (i : Nat) : Bool := iffB (memK Wr i) true (Nat.ble nb i)
theorem okK_eq (Wr : List Nat) (nb : Nat) : okK Wr nb = okX Wr nb := by
  funext i
  simp only [okK,okX,iffB_eq,memK_eq,memN_contains]
  cases Wr.contains i <;> rfl
def memF (l : List Nat) : Nat → Bool := fun t => memK l t
theorem memF_eq (l : List Nat) : memF l = memN l := by
  funext t
  exact memK_eq t l
def initK (is : List Nat) (vs : List BV) : RL := @List.rec Nat (fun _ => List BV → RL) (fun _ => []) (fun i _ ih vs => @List.rec BV (fun _ => RL) [] (fun b l _ => (i,b) :: ih l) vs) is vs
theorem initK_eq : ∀ (is : List Nat) (vs : List BV),initK is vs = initX is vs
  | [],vs => by cases vs <;> rfl
  | i :: is,[] => rfl
  | i :: is,b :: l => by
    show (i,b) :: initK is l = _
    rw [initK_eq is l]
    rfl
-- what is left behind a call
def low0 (nb k : Nat) : BV → Option BV
  | .d x => some (.d x)
  | .tight cs n => some (.tight cs n)
  | .own e sz t cs n => iffB (Nat.ble (Nat.succ t) k) (some (.own e sz t cs n)) (some (.d (.sl cs n)))
  | .ptr id off => iffB (Nat.ble (Nat.succ id) nb) (some (.ptr id off)) none
  | .eptr cs => some (.eptr cs)
  | .tup _ => none
  | .agg l => low nb k (.agg l)
  | .fn f l => low nb k (.fn f l)
  | .bsl id n => low nb k (.bsl id n)
  | .any => some .any
theorem ble_dec {a b : Nat} {β : Type} (x y : β) : (if a < b then x else y) = iffB (Nat.ble (Nat.succ a) b) x y := by
  rw [iffB_eq]
  by_cases h : a < b
  · rw [if_pos h,show Nat.ble (Nat.succ a) b = true from Nat.ble_eq_true_of_le h];rfl
  · rw [if_neg h]
    have : Nat.ble (Nat.succ a) b = false := by
      rw [Bool.eq_false_iff]
      exact fun e => h (Nat.le_of_ble_eq_true e)
    rw [this];rfl
theorem low0_eq (nb k : Nat) (b : BV) : low0 nb k b = low nb k b := by
  cases b with
  | own e sz t cs n => simp only [low0,low,ble_dec]
  | ptr id off => simp only [low0,low,ble_dec]
  | _ => simp only [low0,low]
def lowsK (nb k : Nat) (l : List BV) : Option (List BV) := @List.rec BV (fun _ => Option (List BV)) (some []) (fun b _ ih => bnd (low0 nb k b) fun x => bnd ih fun xs => some (x :: xs)) l
theorem lowsK_eq (nb k : Nat) : ∀ l,lowsK nb k l = lows nb k l
  | [] => by simp only [lows];rfl
  | b :: l => by
    show bnd (low0 nb k b) (fun x => bnd (lowsK nb k l) fun xs => some (x :: xs)) = _
    rw [low0_eq,lowsK_eq nb k l,lows]
    cases low nb k b <;> cases lows nb k l <;> rfl
def popK (nb k : Nat) (ids : List Nat) (S0 S1 : List (List BV × Nat)) : Option (List (List BV × Nat)) :=
  @List.rec Nat (fun _ => List (List BV × Nat) → Option (List (List BV × Nat))) (fun S0 => some S0) (fun i _ ih S0 => bnd (nthK S1 i) fun c => bnd (lowsK nb k c.1) fun cs => ih (setNK S0 i (cs,c.2))) ids S0
theorem popK_eq (nb k : Nat) (S1 : List (List BV × Nat)) : ∀ (ids : List Nat) (S0 : List (List BV × Nat)),popK nb k ids S0 S1 = popS nb k ids S0 S1
  | [],S0 => rfl
  | i :: l,S0 => by
    show bnd (nthK S1 i) (fun c => bnd (lowsK nb k c.1) fun cs => popK nb k l (setNK S0 i (cs,c.2)) S1) = _
    rw [nthK_eq,popS]
    cases S1[i]? with
    | none => rfl
    | some c =>
      obtain ⟨cs,ty⟩ := c
      simp only [bnd_some,lowsK_eq]
      cases lows nb k cs with
      | none => rfl
      | some cs' =>
        simp only [bnd_some]
        rw [popK_eq nb k S1 l,setNK_eq]
def ownNew (nt : Nat) : BV → Bool
  | .own _ _ t _ _ => Nat.ble nt t
  | _ => false
def newK (nt : Nat) (l : List BV) : Bool := @List.rec BV (fun _ => Bool) false (fun b _ ih => iffB (ownNew nt b) true ih) l
theorem newK_eq (nt : Nat) : ∀ l,newK nt l = newT nt l
  | [] => rfl
  | b :: l => by
    show iffB (ownNew nt b) true (newK nt l) = _
    rw [newK_eq nt l,iffB_eq]
    cases b with
    | own e sz t cs n => rw [newT,ownNew];cases Nat.ble nt t <;> rfl
    | _ => rfl
def keepK (nt : Nat) (S : List (List BV × Nat)) (ids : List Nat) : Bool := @List.rec Nat (fun _ => Bool) false (fun i _ ih => @Option.rec (List BV × Nat) (fun _ => Bool) ih (fun c => iffB (newK nt c.1) true ih) (nthK S i)) ids
theorem keepK_eq (nt : Nat) (S : List (List BV × Nat)) : ∀ ids,keepK nt S ids = keepT nt S ids
  | [] => rfl
  | i :: l => by
    show @Option.rec (List BV × Nat) (fun _ => Bool) (keepK nt S l) (fun c => iffB (newK nt c.1) true (keepK nt S l)) (nthK S i) = _
    rw [keepK_eq nt S l,nthK_eq,keepT]
    cases S[i]? with
    | none => rfl
    | some c =>
      obtain ⟨cs,ty⟩ := c
      show iffB (newK nt cs) true _ = (newT nt cs || keepT nt S l)
      rw [newK_eq,iffB_eq]
      cases newT nt cs <;> rfl
def tagsK (nt : Nat) (Wr : List Nat) (s : St) : List Nat := iffB (keepK nt s.S Wr) s.T (takeK nt s.T)
theorem tagsK_eq (nt : Nat) (Wr : List Nat) (s : St) : tagsK nt Wr s = tagsX nt Wr s := by
  rw [tagsK,tagsX,keepK_eq,takeK_eq,iffB_eq]
def finK (st s : St) (ids : List Nat) (l : List BV) (T' : List Nat) : Option (BV × St) :=
  bnd (lowsK (lenK st.S) (lenK T') l) fun l' => bnd (popK (lenK st.S) (lenK T') ids st.S s.S) fun S' => iffB (Nat.ble (lenK st.T) (lenK T')) (iffB (Nat.beq (lenK s.M) (lenK st.M)) (some (retB l',⟨S',T',s.M⟩)) none) none
theorem finK_eq (st s : St) (ids : List Nat) (l : List BV) (T' : List Nat) : finK st s ids l T' = finX st s ids l T' := by
  simp only [finK,finX,lenK_eq,lowsK_eq,popK_eq,iffB_eq]
  cases lows st.S.length T'.length l with
  | none => rfl
  | some l' =>
    cases popS st.S.length T'.length ids st.S s.S with
    | none => rfl
    | some S' =>
      simp only [bnd_some]
      cases Nat.ble st.T.length T'.length <;> cases Nat.beq s.M.length st.M.length <;> rfl
def rtK (n : Nat) (r : RL) (st : St) : Option BV := getK r n
def rcK (n : Nat) (ag : Bool) (sz : Nat) (r : RL) (st : St) : Option BV := bnd (getK r n) fun v => bnd (ptrB v) fun q => bnd (nthK st.S q.1) fun c => part ag sz q.2 c.1
def resK (r : RL) (st : St) (l : List XR) : Option (List BV) := @List.rec XR (fun _ => Option (List BV)) (some []) (fun x _ ih => bnd (@XR.rec (fun _ => RL → St → Option BV) rtK rcK x r st) fun b => bnd ih fun bs => some (b :: bs)) l
theorem resK_eq (r : RL) (st : St) : ∀ l,resK r st l = resX r st l
  | [] => rfl
  | .t n :: l => by
    show bnd (getK r n) (fun b => bnd (resK r st l) fun bs => some (b :: bs)) = _
    rw [getK_eq,resK_eq r st l,resX]
    cases getL r n <;> cases resX r st l <;> rfl
  | .c n ag sz :: l => by
    show bnd (bnd (getK r n) fun v => bnd (ptrB v) fun q => bnd (nthK st.S q.1) fun c => part ag sz q.2 c.1) (fun b => bnd (resK r st l) fun bs => some (b :: bs)) = _
    simp only [getK_eq,resK_eq r st l,resX,nthK_eq]
    cases getL r n with
    | none => rfl
    | some v =>
      simp only [bnd_some]
      cases v with
      | ptr id off =>
        simp only [ptrB,bnd_some]
        cases resX r st l with
        | none =>
          dsimp only
          cases st.S[id]? with
          | none => rfl
          | some c =>
            simp only [bnd_some]
            cases part ag sz off c.1 <;> rfl
        | some bs =>
          dsimp only
          cases st.S[id]? with
          | none => rfl
          | some c =>
            obtain ⟨cs,ty⟩ := c
            simp only [bnd_some]
            cases part ag sz off cs <;> rfl
      | _ => cases resX r st l <;> rfl
def getTK (t : Tr XE) (p : List Bool) : Option XE := @Tr.rec XE (fun _ => List Bool → Option XE) (fun _ => none) (fun v _ _ gl gr p => @List.rec Bool (fun _ => Option XE) v (fun b q _ => iffB b (gr q) (gl q)) p) t p
theorem getTK_eq : ∀ (t : Tr XE) (p : List Bool),getTK t p = t.get p
  | .e,p => by cases p <;> rfl
  | .n v l r,[] => rfl
  | .n v l r,b :: p => by
    show iffB b (getTK r p) (getTK l p) = _
    rw [getTK_eq r p,getTK_eq l p,iffB_eq]
    rfl
def endK (ex : AX) (z : Option (BV × St)) : Option (BV × St) := @AX.rec (fun _ => Option (BV × St)) z (fun _ => none) z ex
def fnK (x : XF) (rn : Runner) (vs : List BV) (st : St) : Option (BV × St) :=
  bnd (rn (memF x.loc) (idsK vs) (lenK st.S) (lenK st.T) x.body (initK x.ps vs) st) fun z => endK z.1 (bnd (resK z.2.1 z.2.2 x.res) fun l => finK st z.2.2 (idsK vs) l (tagsK (lenK st.T) (idsK vs) z.2.2))
def callK (tab : Tr XE) (rn : Runner) : Caller := fun _ p vs st => bnd (getTK tab p) fun e => @XE.rec (fun _ => Option (BV × St)) (fun x => fnK x rn vs st) (fun F => F vs st) e
theorem callK_eq (tab : Tr XE) (rn : Runner) : callK tab rn = callX tab rn := by
  funext g p vs st
  simp only [callK,callX,getTK_eq]
  cases tab.get p with
  | none => rfl
  | some e =>
    cases e with
    | law F => rfl
    | fn x =>
      simp only [bnd_some,fnK,memF_eq,idsK_eq,lenK_eq,initK_eq,resK_eq,finK_eq,tagsK_eq]
      cases rn (memN x.loc) (idsBs vs) st.S.length st.T.length x.body (initX x.ps vs) st with
      | none => rfl
      | some z =>
        obtain ⟨ex,r,s⟩ := z
        simp only [bnd_some]
        cases ex with
        | exit i => rfl
        | normal => cases resX r s x.res <;> rfl
        | ret => cases resX r s x.res <;> rfl
-- what is forgotten
def idM : BV → Nat → Nat
  | .ptr id _ => fun n => iffB (Nat.ble n id) (Nat.succ id) n
  | _ => fun n => n
def idMaxK (l : List BV) (n : Nat) : Nat := @List.rec BV (fun _ => Nat → Nat) (fun n => n) (fun b _ ih n => ih (idM b n)) l n
theorem max_iff (n i : Nat) : iffB (Nat.ble n i) (Nat.succ i) n = max n (i + 1) := by
  rw [iffB_eq]
  cases h : Nat.ble n i
  · have : ¬ n ≤ i := fun e => by rw [Nat.ble_eq_true_of_le e] at h;cases h
    show n = _
    omega
  · have := Nat.le_of_ble_eq_true h
    show i + 1 = _
    omega
theorem idMaxK_eq : ∀ (l : List BV) (n : Nat),idMaxK l n = idMax l n
  | [],n => rfl
  | b :: l,n => by
    show idMaxK l (idM b n) = _
    rw [idMaxK_eq l]
    cases b with
    | ptr id off => rw [idMax,← max_iff];rfl
    | _ => rfl
def tgM : BV → Nat → Nat
  | .own _ _ t _ _ => fun n => iffB (Nat.ble n t) (Nat.succ t) n
  | _ => fun n => n
def tgMaxK (l : List BV) (n : Nat) : Nat := @List.rec BV (fun _ => Nat → Nat) (fun n => n) (fun b _ ih n => ih (tgM b n)) l n
theorem tgMaxK_eq : ∀ (l : List BV) (n : Nat),tgMaxK l n = tgMax l n
  | [],n => rfl
  | b :: l,n => by
    show tgMaxK l (tgM b n) = _
    rw [tgMaxK_eq l]
    cases b with
    | own e sz t cs k => rw [tgMax,← max_iff];rfl
    | _ => rfl
def tgMaxSK (l : List (List BV × Nat)) (m : Nat) : Nat := @List.rec (List BV × Nat) (fun _ => Nat → Nat) (fun m => m) (fun c _ ih m => ih (tgMaxK c.1 m)) l m
theorem tgMaxSK_eq : ∀ (l : List (List BV × Nat)) (m : Nat),tgMaxSK l m = tgMaxS l m
  | [],m => rfl
  | c :: l,m => by
    show tgMaxSK l (tgMaxK c.1 m) = _
    rw [tgMaxSK_eq l,tgMaxK_eq]
    rfl
def valsK (r : RL) : List BV := @List.rec (Nat × BV) (fun _ => List BV) [] (fun e _ ih => e.2 :: ih) r
theorem valsK_eq : ∀ r,valsK r = valsL r
  | [] => rfl
  | e :: r => by show e.2 :: valsK r = _;rw [valsK_eq r];rfl
def ok0 (nb nt : Nat) : BV → Bool
  | .d _ => true
  | .own _ _ t _ _ => Nat.ble (Nat.succ t) nt
  | .tight _ _ => true
  | .ptr id _ => Nat.ble (Nat.succ id) nb
  | .eptr _ => true
  | .agg l => okB nb nt (.agg l)
  | .fn f l => okB nb nt (.fn f l)
  | .tup l => okB nb nt (.tup l)
  | .bsl id n => okB nb nt (.bsl id n)
  | .any => true
theorem ok0_eq (nb nt : Nat) (b : BV) : ok0 nb nt b = okB nb nt b := by
  cases b with
  | own e sz t cs n => rw [ok0,okB];rfl
  | ptr id off => rw [ok0,okB];rfl
  | _ => simp only [ok0,okB]
def oksK (nb nt : Nat) (l : List BV) : Bool := @List.rec BV (fun _ => Bool) true (fun b _ ih => iffB (ok0 nb nt b) ih false) l
theorem oksK_eq (nb nt : Nat) : ∀ l,oksK nb nt l = okBs nb nt l
  | [] => by simp only [okBs];rfl
  | b :: l => by
    show iffB (ok0 nb nt b) (oksK nb nt l) false = _
    rw [oksK_eq nb nt l,ok0_eq,okBs,iffB_eq]
    cases okB nb nt b <;> rfl
def oksSK (n m : Nat) (l : List (List BV × Nat)) : Bool := @List.rec (List BV × Nat) (fun _ => Bool) true (fun c _ ih => iffB (oksK n m c.1) ih false) l
theorem oksSK_eq (n m : Nat) : ∀ l : List (List BV × Nat),oksSK n m l = l.all fun c => okBs n m c.1
  | [] => rfl
  | c :: l => by
    show iffB (oksK n m c.1) (oksSK n m l) false = _
    rw [oksSK_eq n m l,oksK_eq,List.all_cons,iffB_eq]
    cases okBs n m c.1 <;> rfl
def dropK3 (n m : Nat) (vs : List BV) (S' : List (List BV × Nat)) (st : St) : St :=
  iffB (oksK n m vs) (iffB (oksSK n m S') (iffB (Nat.ble n (lenK st.S)) (iffB (Nat.ble m (lenK st.T)) ⟨S',takeK m st.T,st.M⟩ st) st) st) st
def dropK2 (nT n : Nat) (vs : List BV) (S' : List (List BV × Nat)) (st : St) : St := dropK3 n (tgMaxSK S' (tgMaxK vs nT)) vs S' st
def dropK1 (nb nT : Nat) (vs : List BV) (st : St) : St := dropK2 nT (idMaxK vs nb) vs (takeK (idMaxK vs nb) st.S) st
def keepLK (ks : List Nat) (r : RL) : RL := @List.rec (Nat × BV) (fun _ => RL) [] (fun e _ ih => iffB (memK ks e.1) (e :: ih) ih) r
theorem keepLK_eq (ks : List Nat) : ∀ r,keepLK ks r = keepL ks r
  | [] => rfl
  | e :: r => by
    show iffB (memK ks e.1) (e :: keepLK ks r) (keepLK ks r) = _
    rw [keepLK_eq ks r,iffB_eq,memK_eq]
    rfl
def dropR (nb nT : Nat) (ks : List Nat) (st : St) (k : RL → St → Option Z) (r' : RL) : Option Z := k r' (dropK1 nb nT (valsK r') st)
def dropZ (nb nT : Nat) (st0 : St) (r : RL) (st : St) (k : RL → St → Option Z) (keep : Option (List Nat)) : Option Z :=
  @Option.rec (List Nat) (fun _ => Option Z) (k r st) (fun ks => iffB (Nat.beq (lenK st.S) (lenK st0.S)) (iffB (Nat.beq (lenK st.T) (lenK st0.T)) (k r st) (dropR nb nT ks st k (keepLK ks r))) (dropR nb nT ks st k (keepLK ks r))) keep
theorem dropZ_eq (nb nT : Nat) (st0 : St) (r : RL) (st : St) (k : RL → St → Option Z) (keep : Option (List Nat)) : dropZ nb nT st0 r st k keep = k (dropX nb nT keep st0 r st).1 (dropX nb nT keep st0 r st).2 := by
  cases keep with
  | none => rfl
  | some ks =>
    have h1 : dropR nb nT ks st k (keepL ks r) = k (keepL ks r) (let vs := valsL (keepL ks r)
       let n := idMax vs nb
       let S' := st.S.take n
       let m := tgMaxS S' (tgMax vs nT)
       cond (okBs n m vs && (S'.all (fun c => okBs n m c.1) && (Nat.ble n st.S.length && Nat.ble m st.T.length))) ⟨S',st.T.take m,st.M⟩ st) := by
      simp only [dropR,valsK_eq,dropK1,dropK2,dropK3,idMaxK_eq,tgMaxK_eq,tgMaxSK_eq,takeK_eq,oksK_eq,oksSK_eq,iffB_eq,lenK_eq]
      congr 1
      generalize okBs _ _ (valsL (keepL ks r)) = a
      generalize (st.S.take (idMax (valsL (keepL ks r)) nb)).all _ = b
      generalize Nat.ble (idMax (valsL (keepL ks r)) nb) _ = c
      generalize Nat.ble _ st.T.length = d
      cases a <;> cases b <;> cases c <;> cases d <;> rfl
    show iffB (Nat.beq (lenK st.S) (lenK st0.S)) (iffB (Nat.beq (lenK st.T) (lenK st0.T)) (k r st) (dropR nb nT ks st k (keepLK ks r))) (dropR nb nT ks st k (keepLK ks r)) = _
    rw [keepLK_eq,h1]
    simp only [lenK_eq,iffB_eq,dropX]
    generalize (okBs _ _ (valsL (keepL ks r)) && _) = q
    cases Nat.beq st.S.length st0.S.length <;> cases Nat.beq st.T.length st0.T.length <;> cases q <;> rfl
-- code
abbrev RF := Program → Tr XE → Runner → (Nat → Bool) → List Nat → Nat → Nat → RL → St → Option Z
def doneK (L T : RL) (s : St) : Option Z := some (.normal,L,s)
def skipC : RF := fun P tab rn loc Wr nb nT r st => some (.normal,r,st)
def retC : RF := fun P tab rn loc Wr nb nT r st => some (.ret,r,st)
def exitC (i : Nat) : RF := fun P tab rn loc Wr nb nT r st => some (.exit i,r,st)
def regC (l : List XQ) : RF := fun P tab rn loc Wr nb nT r st => runLK P loc (okK Wr nb) (callK tab rn) l r [] st doneK
def drwC (wr : List XO) (l : List XD) : RF := fun P tab rn loc Wr nb nT r st => runPK P loc (okK Wr nb) (wrX (r,[]) (lenK st.S) wr) (callK tab rn) l r [] st doneK
def thenK (o : Option Z) (k : RL → St → Option Z) : Option Z := bnd o fun z => @AX.rec (fun _ => Option Z) (k z.2.1 z.2.2) (fun _ => some z) (some z) z.1
def seqC (a b : XC) : RF := fun P tab rn loc Wr nb nT r st => thenK (rn loc Wr nb nT a r st) fun r' s => rn loc Wr nb nT b r' s
def condC (c : XO) (a b : XC) : RF := fun P tab rn loc Wr nb nT r st => bnd (evK c r []) fun v => bnd (boolB v) fun t => iffB t (rn loc Wr nb nT a r st) (rn loc Wr nb nT b r st)
def blockC (id : Nat) (c : XC) : RF := fun P tab rn loc Wr nb nT r st => bnd (rn loc Wr nb nT c r st) fun z => @AX.rec (fun _ => Option Z) (some z) (fun i => iffB (Nat.beq i id) (some (.normal,z.2)) (some z)) (some z) z.1
def loopC (kp : Option (List Nat)) (c : XC) : RF := fun P tab rn loc Wr nb nT r st => thenK (rn loc Wr nb nT c r st) fun r' s => dropZ nb nT st r' s (fun r2 s2 => rn loc Wr nb nT (.loop kp c) r2 s2) kp
def cdK (x : XC) : RF := @XC.rec (fun _ => RF) skipC retC exitC regC drwC (fun a b _ _ => seqC a b) (fun c a b _ _ => condC c a b) (fun id c _ => blockC id c) (fun kp c _ => loopC kp c) x
def runK (P : Program) (tab : Tr XE) (n : Nat) : Runner := @Nat.rec (fun _ => Runner) (fun _ _ _ _ _ _ _ => none) (fun _ rn loc Wr nb nT x r st => cdK x P tab rn loc Wr nb nT r st) n
theorem cdK_eq (P : Program) (tab : Tr XE) (rn : Runner) (loc : Nat → Bool) (Wr : List Nat) (nb nT : Nat) (x : XC) (r : RL) (st : St) : cdK x P tab rn loc Wr nb nT r st = runStep P tab rn loc Wr nb nT x r st := by
  cases x with
  | skip => rfl
  | ret => rfl
  | exit i => rfl
  | reg l =>
    show runLK P loc (okK Wr nb) (callK tab rn) l r [] st doneK = _
    rw [runLK_eq,okK_eq,callK_eq,runStep]
    cases runL loc P (okX Wr nb) (callX tab rn) (l.map toXP) (r,[]) st <;> rfl
  | drw wr l =>
    show runPK P loc (okK Wr nb) (wrX (r,[]) (lenK st.S) wr) (callK tab rn) l r [] st doneK = _
    rw [runPK_eq,okK_eq,callK_eq,lenK_eq,runStep]
    cases runP loc P (okX Wr nb) (wrX (r,[]) st.S.length wr) (callX tab rn) l (r,[]) st <;> rfl
  | seq a b =>
    show thenK (rn loc Wr nb nT a r st) (fun r' s => rn loc Wr nb nT b r' s) = _
    rw [runStep]
    cases rn loc Wr nb nT a r st with
    | none => rfl
    | some z => obtain ⟨ex,r',s⟩ := z;cases ex <;> rfl
  | cond c a b =>
    show bnd (evK c r []) (fun v => bnd (boolB v) fun t => iffB t (rn loc Wr nb nT a r st) (rn loc Wr nb nT b r st)) = _
    simp only [runStep,evK_eq,iffB_eq]
    cases evX (r,[]) c with
    | none => rfl
    | some v => cases h : boolB v <;> simp only [bnd_some,h] <;> rfl
  | block id c =>
    show bnd (rn loc Wr nb nT c r st) (fun z => @AX.rec (fun _ => Option Z) (some z) (fun i => iffB (Nat.beq i id) (some (.normal,z.2)) (some z)) (some z) z.1) = _
    rw [runStep]
    cases rn loc Wr nb nT c r st with
    | none => rfl
    | some z =>
      obtain ⟨ex,r',s⟩ := z
      cases ex with
      | exit i =>
        simp only [bnd_some,iffB_eq]
        cases Nat.beq i id <;> rfl
      | _ => rfl
  | loop kp c =>
    show thenK (rn loc Wr nb nT c r st) (fun r' s => dropZ nb nT st r' s (fun r2 s2 => rn loc Wr nb nT (.loop kp c) r2 s2) kp) = _
    rw [runStep]
    cases rn loc Wr nb nT c r st with
    | none => rfl
    | some z =>
      obtain ⟨ex,r',s⟩ := z
      cases ex with
      | normal => exact dropZ_eq nb nT st r' s _ kp
      | _ => rfl
theorem runK_eq (P : Program) (tab : Tr XE) : ∀ n,runK P tab n = run P tab n
  | 0 => rfl
  | n + 1 => by
    show (fun loc Wr nb nT x r st => cdK x P tab (runK P tab n) loc Wr nb nT r st) = runStep P tab (run P tab n)
    rw [runK_eq P tab n]
    funext loc Wr nb nT x r st
    exact cdK_eq P tab _ loc Wr nb nT x r st
end
theorem closed_run {P : Program} {tb : Tabs P} {tab : Tr XE} (hm : P.follows .mixedOrders = true) (ht : TabOK P tb tab) {n f : Nat} {ars : List BV} {st st' : St} {b : BV} {p : List Bool} (hp : p = bits f) (h : callK tab (runK P tab n) f p ars st = some (b,st')) : CallT P (idsBs ars) [] f ars st (fun r s => r = b ∧ s = st') := by
  subst hp
  rw [runK_eq,callK_eq] at h
  exact closed_call hm ht h
end Go.Proofs.YtokilnhpepbjlaaGreat.Calc
namespace Go.Proofs.YtokilnhpepbjlaaGreat
open Go Go.RowKit Go.Proofs.YtokilnhpepbjlaaGreat.Calc
set_option linter.unusedVariables false
set_option maxRecDepth 100000
theorem pc_closed {f n : Nat} {args : List BV} {b : BV} {p : List Bool} {tab : Tr XE} (ht : TabOK Tryz.prog mTabs tab) (hp : p = Calc.bits f) (hid : idsBs args = []) (ha : okBs 0 0 args = true) (hin : inBs 0 0 0 args = true)
    (h : callK tab (runK Tryz.prog tab n) f p args ⟨[],[],[]⟩ = some (b,⟨[],[],[]⟩)) : PC f args (fun r => r = b) := by
  intro S T M
  have h1 := closed_run mixed ht hp h
  rw [hid] at h1
  refine call_mono (call_frame (st := ⟨[],[],[]⟩) S T M (call_mono h1 (Q' := fun r s => s.S.length = 0 ∧ s.T.length = 0 ∧ s.M.length = 0 ∧ (r = b ∧ s = ⟨[],[],[]⟩)) fun r s e => ?_) rfl ha (.inr ⟨rfl,hin⟩) nofun) fun r s ⟨s',e1,e2,e3⟩ => ⟨?_,e2⟩
  · obtain ⟨e1,rfl⟩ := e
    exact ⟨rfl,rfl,rfl,e1,rfl⟩
  · rw [e1,e3]
    rfl
end Go.Proofs.YtokilnhpepbjlaaGreat
