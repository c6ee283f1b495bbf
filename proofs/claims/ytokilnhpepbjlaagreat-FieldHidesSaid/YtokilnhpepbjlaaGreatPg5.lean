/- Texts of the claim, merged: OI, KT, R6, R7, R8, KN, KO, KP, FA, Calc19, Calc20, Calc21, Calc22, Calc24. No conditions. -/
import Derived.Test.YtokilnhpepbjlaaGreatRows
import Derived.Test.YtokilnhpepbjlaaGreatPg3
import Derived.Test.YtokilnhpepbjlaaGreatPg4
import Derived.ProofKit
import Derived.ChangeOld
import Derived.DataElems
import Derived.Test.YtokilnhpepbjlaaGreatPg1
import Derived.Test.YtokilnhpepbjlaaGreatPg2
namespace Go.Proofs.YtokilnhpepbjlaaGreat
open Go Go.RowKit Go.Proofs.YtokilnhpepbjlaaGreat.Calc
set_option linter.unusedVariables false
set_option linter.unusedSimpArgs false
set_option maxRecDepth 100000
def cellsIn (W : World) (b : Nat) : Nat := match W.heap[b]? with
  | some (.cells c _ _) => c.size
  | _ => 0
theorem cell_in {W : World} {a : Addr} {u : Value} (h : W.cell? a = some u) : a.spot = none ∧ a.off < cellsIn W a.block := by
  unfold World.cell? at h
  unfold cellsIn
  split at h
  · rename_i c _ _ hc
    rw [hc]
    split at h
    · cases h
    · rename_i hs
      refine ⟨by simpa using hs,(Array.getElem?_eq_some_iff.1 h).1⟩
  · cases h
abbrev st0 (W : World) : Full := Calc.start W (cellsIn W)
theorem rep_one {x : Full} {d : DV} {v : Value} (h : RepDs x [d] [v]) : RepD x d v := by
  cases h with
  | cons _ _ _ _ h _ => exact h
section
variable {H : Type} {enc : TypeId × Value → H} {W : World} {spare : Nat → Bool} {held : Bool}
theorem op_row {α : Type} {f : α → List DV} {k t e n : Nat} {cs : List Value} {x : DataW H × List MemPlace} (ht : Tryz.prog.underlying t = some (.slice e)) (hk : Tryz.prog.cellsOf e = k) (h0 : 0 < k) (hf : ∀ a,(f a).length = k) (h1 : ∀ a,(f a).all oneD = true)
    (ih : ∀ m,m < n → ∀ cs x,DataW.trod enc Tryz.prog W 0 spare held m e cs = some x → ∃ a : α,RepDs (st0 W) (f a) cs) (h : DataW.trod enc Tryz.prog W 0 spare held n t cs = some x) : ∃ l : List α,RepDs (st0 W) [encL f l] cs := by
  rcases DataW.trod_slice ht h with ⟨rfl,_⟩ | ⟨a,len,cap,elems,rest,m,rfl,rfl,_,_,hl,hm,hlen,hel,_,_⟩
  · exact ⟨[],.cons _ _ _ _ .nil .nil⟩
  have key : ∀ q,q ≤ len → ∃ (l : List α) (vs : List Value),l.length = q ∧ vs.length = q * k ∧ RepDs (st0 W) (l.flatMap f) vs ∧ ∀ p u,vs[p]? = some u → W.cell? (a.add p) = some u := by
    intro q
    induction q with
    | zero => exact fun _ => ⟨[],[],rfl,by simp,.nil,fun p u hu => by simp at hu⟩
    | succ q ihq =>
      intro hq
      obtain ⟨l,vs,g1,g2,g3,g4⟩ := ihq (by omega)
      have h2 := hel q (by omega)
      rw [List.getElem?_eq_getElem (by omega),hk] at h2
      obtain ⟨cs',h3,h4⟩ := Option.bind_eq_some_iff.1 h2
      obtain ⟨b,hb⟩ := ih m (by omega) cs' _ h4
      obtain ⟨_,h5,h6⟩ := World.cells?_some h3
      refine ⟨l ++ [b],vs ++ cs',by simp [g1],by rw [List.length_append,g2,h5,Nat.add_mul,Nat.one_mul],by simpa using g3.append hb,fun p u hu => ?_⟩
      rw [List.getElem?_append] at hu
      split at hu
      · exact g4 p u hu
      · rename_i hp
        have hj : p - vs.length < k := by rw [← h5];exact (List.getElem?_eq_some_iff.1 hu).1
        have := h6 (p - vs.length) hj
        rw [hu,Addr.add_add,g2,show q * k + (p - q * k) = p by omega] at this
        exact this
  obtain ⟨l,vs,g1,g2,g3,g4⟩ := key len (Nat.le_refl _)
  refine ⟨l,.cons _ _ _ _ ?_ .nil⟩
  show RepD _ (.sl (l.flatMap f) l.length) _
  by_cases hz : len = 0
  · subst hz
    obtain rfl := List.eq_nil_of_length_eq_zero g1
    exact .emp a cap hm
  have h00 : 0 < len * k := Nat.mul_pos (by omega) h0
  obtain ⟨u0,hu0⟩ : ∃ u,vs[0]? = some u := ⟨_,List.getElem?_eq_getElem (by omega)⟩
  have hs := (cell_in (g4 0 u0 hu0)).1
  have hs0 : a.spot = none := by
    unfold Addr.add at hs
    rw [if_pos rfl] at hs
    exact hs
  obtain ⟨b,off,spot⟩ := a
  dsimp only at hs0
  subst hs0
  rw [g1]
  refine .sl b off len cap _ vs hl (Nat.le_trans hl hm) ?_ (fun p u hu => ?_) g3
  · rw [List.all_eq_true]
    intro d hd
    obtain ⟨c,_,hc⟩ := List.mem_flatMap.1 hd
    exact List.all_eq_true.1 (h1 c) d hc
  · have := g4 p u hu
    rw [add_eq] at this
    exact ⟨(cell_in this).2,this⟩
theorem op_I : ∀ n cs x,DataW.trod enc Tryz.prog W 0 spare held n 3 cs = some x → ∃ a : Int,RepDs (st0 W) (encI a) cs := by
  intro n cs x h
  obtain ⟨n0,e0,_⟩ := DataW.trod_int Tryz.underlying3 h
  subst e0
  exact ⟨n0,.cons _ _ _ _ (.flat _ rfl) .nil⟩
theorem op_Is : ∀ n cs x,DataW.trod enc Tryz.prog W 0 spare held n 79 cs = some x → ∃ a : List Int,RepDs (st0 W) (encIs a) cs := by
  intro n cs x h
  exact op_row (f := encI) Tryz.underlying79 (k := 1) (by kernel_rfl) (by decide) encI_len (fun a => rfl) (fun q _ => op_I q) h
theorem op_II {v : Value} {d : DataW H} {p : List MemPlace} (h : DataW.Trod enc Tryz.prog W 0 spare held 22 v d p) (hv : ∃ a l c,v = .slice a l c) : ∃ l : List (List Int),RepD (st0 W) (encL encIs l) v := by
  obtain ⟨fuel,hf⟩ := h
  obtain ⟨a,l,c,rfl⟩ := hv
  have hf : DataW.trod enc Tryz.prog W 0 spare held fuel 22 [.slice a l c] = some (d,p) := hf
  obtain ⟨l,g⟩ := op_row (f := encIs) Tryz.underlying22 (k := 1) (by kernel_rfl) (by decide) encIs_len (fun a => rfl) (fun q _ => op_Is q) hf
  exact ⟨l,rep_one g⟩
end
end Go.Proofs.YtokilnhpepbjlaaGreat
namespace Go.Proofs.YtokilnhpepbjlaaGreat
open Go Go.RowKit Go.Proofs.YtokilnhpepbjlaaGreat.Calc
set_option linter.unusedVariables false
set_option linter.unusedSimpArgs false
theorem nodup_le {α : Type} [DecidableEq α] : ∀ (l m : List α),l.Nodup → (∀ x ∈ l,x ∈ m) → l.length ≤ m.length
  | [],m,_,_ => by simp
  | a :: l,m,hn,hs => by
    have ha : a ∈ m := hs a (by simp)
    have hn' := List.nodup_cons.1 hn
    have := nodup_le l (m.erase a) hn'.2 (fun x hx => (List.mem_erase_of_ne (by rintro rfl;exact hn'.1 hx)).2 (hs x (by simp [hx])))
    rw [List.length_erase_of_mem ha] at this
    have hp := List.length_pos_of_mem ha
    simp only [List.length_cons];omega
def BS : List ByteArray := [(⟨#[69,120,99,101,112,116,105,111,110]⟩ : ByteArray),(⟨#[78,117,108,108,70,97,117,108,116]⟩ : ByteArray),(⟨#[67,97,115,116,70,97,117,108,116]⟩ : ByteArray),(⟨#[90,101,114,111,70,97,117,108,116]⟩ : ByteArray),(⟨#[82,97,110,103,101,70,97,117,108,116]⟩ : ByteArray)]
def EXC : ByteArray := ⟨#[69,120,99,101,112,116,105,111,110]⟩
def NIL : ByteArray := ⟨#[]⟩
def NULL : ByteArray := ⟨#[110,117,108,108]⟩
def inS (l : List ByteArray) (s : ByteArray) : Bool := l.any fun x => decide (x = s)
theorem inS_iff {l : List ByteArray} {s : ByteArray} : inS l s = true ↔ s ∈ l := by
  simp [inS]
theorem inS_false {l : List ByteArray} {s : ByteArray} : inS l s = false ↔ s ∉ l := by
  rw [← inS_iff];simp
theorem findI_spec (p : List Cl) (a : ByteArray) : (findI p a = -1 ∧ ∀ x ∈ p,x.name ≠ a) ∨ (∃ j : Nat,∃ h : j < p.length,findI p a = j ∧ (p[j]).name = a ∧ ∀ (j' : Nat) (h' : j' < j),(p[j']'(by omega)).name ≠ a) := by
  unfold findI
  cases h : p.findIdx? (fun c => decide (c.name = a)) with
  | none =>
    refine .inl ⟨rfl,fun x hx e => ?_⟩
    have := List.findIdx?_eq_none_iff.1 h x hx
    simp [e] at this
  | some j =>
    obtain ⟨hj,h1,h2⟩ := List.findIdx?_eq_some_iff_getElem.1 h
    exact .inr ⟨j,hj,rfl,by simpa using h1,fun j' h' => by simpa using h2 j' h'⟩
theorem findI_at {p : List Cl} {a : ByteArray} {k : Nat} {c : Cl} (hc : p[k]? = some c) (hn : c.name = a) (hpre : ∀ (i : Nat) (c' : Cl),i < k → p[i]? = some c' → c'.name ≠ a) : findI p a = k := by
  obtain ⟨hk,rfl⟩ := List.getElem?_eq_some_iff.1 hc
  rcases findI_spec p a with ⟨_,h⟩ | ⟨j,hj,h1,h2,h3⟩
  · exact absurd hn (h _ (List.getElem_mem hk))
  · rw [h1]
    rcases Nat.lt_trichotomy j k with h | h | h
    · exact absurd h2 (hpre j _ h (List.getElem?_eq_getElem hj))
    · rw [h]
    · exact absurd hn (h3 k h)
theorem findI_none {p : List Cl} {a : ByteArray} (hpre : ∀ (i : Nat) (c' : Cl),p[i]? = some c' → c'.name ≠ a) : findI p a = -1 := by
  rcases findI_spec p a with ⟨h,_⟩ | ⟨j,hj,h1,h2,h3⟩
  · exact h
  · exact absurd h2 (hpre j _ (List.getElem?_eq_getElem hj))
theorem fi_mem {p : List Cl} {a : ByteArray} (h : 0 ≤ findI p a) : ∃ j : Nat,∃ h : j < p.length,findI p a = j ∧ (p[j]).name = a := by
  rcases findI_spec p a with ⟨h1,_⟩ | ⟨j,hj,h1,h2,_⟩
  · omega
  · exact ⟨j,hj,h1,h2⟩
theorem mem_fi {p : List Cl} {x : Cl} (h : x ∈ p) : 0 ≤ findI p x.name := by
  rcases findI_spec p x.name with ⟨_,h2⟩ | ⟨j,hj,h1,_,_⟩
  · exact absurd rfl (h2 x h)
  · omega
def isC (p : List Cl) (a : ByteArray) : Bool := inS BS a || decide (0 ≤ findI p a)
def clAt (p : List Cl) (i : Int) : Cl := (p[i.toNat]?).getD ⟨⟨#[]⟩,⟨#[]⟩,[],[]⟩
def supC (p : List Cl) (a : ByteArray) : ByteArray := if inS BS a = true then (if a = EXC then NIL else EXC) else if findI p a < 0 then NIL else (clAt p (findI p a)).super
def chG (p : List Cl) : Nat → ByteArray → List ByteArray → List ByteArray
  | 0,_,acc => acc
  | n + 1,a,acc => if isC p a = true then (if inS acc a = true then acc else chG p n (supC p a) (acc ++ [a])) else acc
def chC (p : List Cl) (a : ByteArray) : List ByteArray := chG p (p.length + 6) a []
theorem is_name {p : List Cl} {a : ByteArray} (h : isC p a = true) : a ∈ BS ++ p.map (·.name) := by
  unfold isC at h
  rw [List.mem_append]
  rcases Bool.or_eq_true_iff.1 h with h | h
  · exact .inl (inS_iff.1 h)
  · obtain ⟨j,hj,_,e⟩ := fi_mem (by simpa using h)
    exact .inr (List.mem_map.2 ⟨p[j],List.getElem_mem hj,e⟩)
theorem room {p : List Cl} {acc : List ByteArray} (hn : acc.Nodup) (hs : ∀ x ∈ acc,isC p x = true) : acc.length ≤ p.length + 5 := by
  have := nodup_le acc (BS ++ p.map (·.name)) hn (fun x hx => is_name (hs x hx))
  rw [List.length_append,List.length_map] at this
  have e : BS.length = 5 := rfl
  omega
theorem nodup_snoc {acc : List ByteArray} {a : ByteArray} (hn : acc.Nodup) (ha : a ∉ acc) : (acc ++ [a]).Nodup := by
  rw [List.nodup_append]
  exact ⟨hn,by simp,fun x hx y hy => by simp at hy;subst hy;rintro rfl;exact ha hx⟩
inductive Walk (l : List Cl) : ByteArray → List ByteArray → ByteArray → Prop
  | here (a : ByteArray) : Walk l a [] a
  | up {a z : ByteArray} {T : List ByteArray} : isC l a = true → Walk l (supC l a) T z → Walk l a (a :: T) z
theorem chG_walk (l : List Cl) : ∀ (n : Nat) (a : ByteArray) (acc : List ByteArray),acc.Nodup → (∀ x ∈ acc,isC l x = true) → acc.length + n = l.length + 6 →
    ∃ T z,chG l n a acc = acc ++ T ∧ Walk l a T z ∧ (isC l z = false ∨ z ∈ acc ++ T) ∧ (acc ++ T).Nodup
  | 0,a,acc,hn,hs,he => by have := room hn hs;omega
  | n + 1,a,acc,hn,hs,he => by
    rw [chG]
    by_cases hi : isC l a = true
    · rw [if_pos hi]
      by_cases hc : a ∈ acc
      · rw [if_pos (inS_iff.2 hc)]
        exact ⟨[],a,by simp,.here a,.inr (by simpa using hc),by simpa using hn⟩
      · rw [if_neg (fun h => hc (inS_iff.1 h))]
        obtain ⟨T,z,h1,h2,h3,h4⟩ := chG_walk l n (supC l a) (acc ++ [a]) (nodup_snoc hn hc) (fun x hx => by rcases List.mem_append.1 hx with h | h;exact hs x h;simp at h;exact h ▸ hi) (by simp;omega)
        have e : acc ++ [a] ++ T = acc ++ a :: T := by simp
        rw [e] at h1 h3 h4
        exact ⟨a :: T,z,h1,.up hi h2,h3,h4⟩
    · rw [if_neg hi]
      exact ⟨[],a,by simp,.here a,.inl (by simpa using hi),by simpa using hn⟩
theorem ch_walk (l : List Cl) (a : ByteArray) : ∃ z,Walk l a (chC l a) z ∧ (isC l z = false ∨ z ∈ chC l a) ∧ (chC l a).Nodup := by
  obtain ⟨T,z,h1,h2,h3,h4⟩ := chG_walk l (l.length + 6) a [] (by simp) (by simp) (by simp)
  rw [List.nil_append] at h1 h3 h4
  unfold chC;rw [h1]
  exact ⟨z,h2,h3,h4⟩
theorem Walk.all {l : List Cl} {a z : ByteArray} {T : List ByteArray} (h : Walk l a T z) : ∀ x ∈ T,isC l x = true := by
  induction h with
  | here => simp
  | up hi _ ih => intro x hx;rcases List.mem_cons.1 hx with rfl | hx;exact hi;exact ih x hx
def lastS (l : List ByteArray) : ByteArray := (l[l.length - 1]?).getD ⟨#[]⟩
theorem Walk.last {l : List Cl} {a z : ByteArray} {T : List ByteArray} (h : Walk l a T z) (hT : T ≠ []) : supC l (lastS T) = z := by
  induction h with
  | here => exact absurd rfl hT
  | @up a z T hi hw ih =>
    cases T with
    | nil => cases hw;rfl
    | cons b T =>
      rw [← ih (by simp)]
      congr 1
theorem Walk.det {l : List Cl} {a z z' : ByteArray} {T T' : List ByteArray} (h : Walk l a T z) (hz : isC l z = false) (h' : Walk l a T' z') (hz' : isC l z' = false) : T = T' ∧ z = z' := by
  induction h generalizing T' with
  | here a =>
    cases h' with
    | here => exact ⟨rfl,rfl⟩
    | up hi _ => rw [hz] at hi;cases hi
  | up hi hw ih =>
    cases h' with
    | here => rw [hz'] at hi;cases hi
    | up hi' hw' =>
      obtain ⟨e1,e2⟩ := ih hz hw'
      exact ⟨by rw [e1],e2⟩
theorem Walk.mem {l : List Cl} {a z y : ByteArray} {T : List ByteArray} (h : Walk l a T z) (hy : y ∈ T) : ∃ T1 T2,T = T1 ++ y :: T2 ∧ Walk l y (y :: T2) z := by
  induction h with
  | here => cases hy
  | @up a z T hi hw ih =>
    by_cases e : y = a
    · subst e;exact ⟨[],T,rfl,.up hi hw⟩
    · obtain ⟨T1,T2,e1,h2⟩ := ih (by rcases List.mem_cons.1 hy with h | h;exact absurd h e;exact h)
      exact ⟨a :: T1,T2,by rw [e1];rfl,h2⟩
theorem ch_self {l : List Cl} {x : ByteArray} (h : isC l x = true) : ∃ T,chC l x = x :: T := by
  obtain ⟨z,hw,hz,hn⟩ := ch_walk l x
  generalize chC l x = T at *
  cases hw with
  | here =>
    rcases hz with hz | hz
    · rw [h] at hz;cases hz
    · cases hz
  | up _ _ => exact ⟨_,rfl⟩
theorem ch_none {l : List Cl} {x : ByteArray} (h : isC l x = false) : chC l x = [] := by
  unfold chC
  rw [show l.length + 6 = (l.length + 5) + 1 from rfl,chG,if_neg (by rw [h];decide)]
theorem ch_len (l : List Cl) (x : ByteArray) : (chC l x).length ≤ l.length + 5 := by
  obtain ⟨z,hw,_,hn⟩ := ch_walk l x
  exact room hn hw.all
-- 6.2: a look at the classes
def chk1 (p : List Cl) : List Cl → Nat → Option Nat
  | [],_ => none
  | c :: l,i => if inS BS c.name = true ∨ findI p c.name ≠ i then some i else chk1 p l (i + 1)
def chk2 (p : List Cl) : List Cl → Nat → Option (Int × Nat)
  | [],_ => none
  | c :: l,i => if c.super = NIL then chk2 p l (i + 1) else if isC p c.super = false then some (7,i) else if isC p (supC p (lastS (chC p c.name))) = true then some (8,i) else chk2 p l (i + 1)
def checkC (p : List Cl) : Int × Nat := match chk1 p p 0 with
  | some i => (6,i)
  | none => match chk2 p p 0 with
    | some r => r
    | none => (0,0)
def typeC (p : List Cl) (t : ByteArray) : Bool := decide (t = ⟨#[105,110,116]⟩) || (decide (t = ⟨#[98,111,111,108,101,97,110]⟩) || (decide (t = ⟨#[83,116,114,105,110,103]⟩) || isC p t))
def classC (p : List Cl) (a : ByteArray) : Cl := if 0 ≤ findI p a then clAt p (findI p a) else ⟨⟨#[]⟩,⟨#[]⟩,[],[]⟩
def findF (l : List Fi) (name : ByteArray) : Int :=
  match l.findIdx? (fun c => decide (c.name = name)) with
  | some i => i
  | none => -1
def ownF (p : List Cl) (a name : ByteArray) : Int := findF (classC p a).fields name
-- 7.2: a look at the fields
def chkF1 (p : List Cl) (a : ByteArray) : List Fi → Nat → Bool
  | [],_ => true
  | f :: l,k => if ownF p a f.name ≠ k then false else chkF1 p a l (k + 1)
def chkF2 (p : List Cl) : List Fi → Bool
  | [] => true
  | f :: l => if typeC p f.typ = true then chkF2 p l else false
def chkF (p : List Cl) : List Cl → Nat → Option (Int × Nat)
  | [],_ => none
  | c :: l,i => if chkF1 p c.name c.fields 0 = false then some (6,i) else if chkF2 p c.fields = false then some (7,i) else chkF p l (i + 1)
def checkF (p : List Cl) : Int × Nat := if (checkC p).1 ≠ 0 then (1,0) else match chkF p p 0 with
  | some r => r
  | none => (0,0)
end Go.Proofs.YtokilnhpepbjlaaGreat
namespace Go.Proofs.YtokilnhpepbjlaaGreat
open Go Go.RowKit Go.Proofs.YtokilnhpepbjlaaGreat.Calc
set_option linter.unusedVariables false
set_option linter.unusedSimpArgs false
set_option maxRecDepth 100000
set_option maxHeartbeats 8000000
attribute [local irreducible] Tri TriL TriP CallT stepV stepW thenQ inQ endQ
theorem vB_of {a b : Bool} (h : a = b) : retB [vB a] = vB b := by rw [h];rfl
theorem vI_ret {a b : Int} (h : a = b) : retB [vI a] = vI b := by rw [h];rfl
theorem vS_of {a b : ByteArray} (h : a = b) : retB [vS a] = vS b := by rw [h];rfl
theorem sp32 (s : ByteArray) : PC 32 [vS s] (fun r => r = vB (inS BS s)) := by
  intro S T M
  refine callT_go [] [] Tryz.func32 rfl Tryz.ntmps32 Tryz.results32 ?_
  repeat' (first | apply triL_nil | (apply V;rfl;(first | (apply E_mv;rfl) | (apply E_as;rfl))) | (apply Vp;rfl;rfl;apply fnT;rfl;apply call_wk;rfl;apply sp27d;rfl;rfl;rintro _ ⟨(_ | _),rfl,hin_⟩) | (apply Vw;rfl;(apply W_bsL;rfl;(apply elT;rfl);(apply tyT;rfl);rfl;decide;rfl;rfl)) | (apply s_region;rfl) | apply tri_ret | (apply end_q _ (.inr rfl);(exact List.prefix_append _ _);(focus repeat (first | apply R_nil | (apply R_tmp;rfl)));rfl))
  · exact vB_of (inS_false.2 fun h => by cases hin_.2 h).symm
  · exact vB_of (inS_iff.2 (hin_.1 rfl)).symm
theorem sp33 (p : List Cl) (name : ByteArray) (hp : p.length ≤ 1000000) : PC 33 [vP p,vS name] (fun r => r = vI (findI p name)) := by
  intro S T M
  refine callT_go [] [] Tryz.func33 rfl Tryz.ntmps33 Tryz.results33 ?_
  repeat' (first | apply triL_nil | (apply V;rfl;(apply E_as;rfl)) | (apply Vw;rfl;(apply W_bxL;rfl;rfl;rfl)) | (apply s_region;rfl) | apply tri_seq | apply tri_block)
  refine tri_fix (fun k : Nat => p.length - k) (fun k => [(1,vS name),(2,.ptr (S.length + 0) 0),(5,vI k)]) (fun k => k ≤ p.length ∧ ∀ (i : Nat) (c : Cl),i < k → p[i]? = some c → c.name ≠ name) 0 ⟨Nat.zero_le _,fun i c h => by omega⟩ ⟨rfl,rfl,rfl,trivial⟩ ?_
  rintro k ⟨hk,hpre⟩
  repeat' (first | apply triL_nil | (apply V;rfl;(first | (apply E_mv;rfl) | (apply E_as;rfl) | (apply E_fa;(apply plT;rfl);rfl;rfl;decide) | (apply E_ld;(apply tyT;rfl);rfl;(apply at_;rfl;rfl);rfl) | (apply E_len;(apply elT;rfl);rfl;rfl))) | (apply Vd;rfl;(apply E_lss;rfl;rfl);all_goals intro h_) | (apply s_region;rfl) | apply tri_seq | apply tri_block | apply tri_skip | apply tri_exit | apply tri_ret | (apply tri_condT;rfl) | (apply tri_condF;rfl) | (apply end_q _ (.inr rfl);(exact List.prefix_append _ _);(focus repeat (first | apply R_nil | (apply R_tmp;rfl)));rfl) | apply p_then | apply p_in | apply p_thenE)
  · obtain ⟨c,hc⟩ : ∃ c,p[k]? = some c := ⟨_,List.getElem?_eq_getElem (by omega)⟩
    repeat' (first | apply triL_nil | (apply V;rfl;(first | (apply E_mv;rfl) | (apply E_as;rfl) | (apply E_fe;(apply plT;rfl);rfl;rfl;decide) | (apply E_le;(apply tyT;rfl);rfl;rfl) | (apply E_add64;rfl;rfl;rfl;omega) | (apply E_ial (c := c);apply elT;rfl;rfl;rfl;rfl;exact encCl_len;omega;simpa using hc))) | (apply Vd;rfl;(apply E_seql;rfl;rfl);all_goals intro h_) | (apply s_region;rfl) | (apply tri_region;rfl) | apply tri_skip | apply tri_ret | (apply tri_condT;rfl) | (apply tri_condF;rfl) | (apply end_q _ (.inr rfl);(exact List.prefix_append _ _);(focus repeat (first | apply R_nil | (apply R_tmp;rfl)));rfl) | apply p_then | apply p_inN | apply p_inR | apply p_thenR)
    · exact vI_ret (findI_at hc h_ hpre).symm
    · refine ⟨k + 1,by omega,⟨by omega,fun i c' hi hc' => ?_⟩,⟨rfl,rfl,vI_of (by omega),trivial⟩,rfl⟩
      by_cases hik : i = k
      · subst hik
        obtain rfl := Option.some.inj (hc.symm.trans hc')
        assumption
      · exact hpre i c' (by omega) hc'
  · exact vI_ret (findI_none fun i c hc => hpre i c (by have := (List.getElem?_eq_some_iff.1 hc).1;omega) hc).symm
theorem sp25 (p : List Cl) (a : ByteArray) (hp : p.length ≤ 1000000) : PC 25 [vP p,vS a] (fun r => r = vB (isC p a)) := by
  have h32 := sp32 a
  have h33 := sp33 p a hp
  unfold isC
  cases hb : inS BS a
  all_goals
    rw [hb] at h32
    intro S T M
    refine callT_go [] [] Tryz.func25 rfl Tryz.ntmps25 Tryz.results25 ?_
    repeat' (first | apply triL_nil | (apply V;rfl;(first | (apply E_mv;rfl) | (apply E_as;rfl) | (apply E_lda;(apply tyT;rfl);rfl;(apply at_;rfl;rfl);rfl) | (apply E_pkT;rfl;rfl) | (apply E_pkF;rfl;rfl))) | (apply Vp;rfl;rfl;apply fnT;rfl;apply h32;rintro _ rfl) | (apply Vp;rfl;rfl;apply fnT;rfl;apply h33;rintro _ rfl) | (apply Vd;rfl;(apply E_geq;rfl;rfl);all_goals intro h_) | (apply Vo;rfl) | (apply Vw;rfl;(apply W_bxL;rfl;rfl;rfl)) | (apply s_region;rfl) | apply tri_ret | (apply end_q _ (.inr rfl);(exact List.prefix_append _ _);(focus repeat (first | apply R_nil | (apply R_tmp;rfl)));rfl))
    all_goals first | exact vB_of rfl | exact vB_of (by simp [h_])
theorem sp14 (p : List Cl) (a : ByteArray) (hp : p.length ≤ 1000000) : PC 14 [vP p,vS a] (fun r => r = vS (supC p a)) := by
  have h32 := sp32 a
  have h33 := sp33 p a hp
  unfold supC
  rcases findI_spec p a with ⟨hf,_⟩ | ⟨j,hj,hf,_,_⟩
  · cases hb : inS BS a
    all_goals
      rw [hb] at h32
      rw [hf] at h33
      intro S T M
      refine callT_go [] [] Tryz.func14 rfl Tryz.ntmps14 Tryz.results14 ?_
      repeat' (first | apply triL_nil | (apply V;rfl;(first | (apply E_mv;rfl) | (apply E_as;rfl) | (apply E_fa;(apply plT;rfl);rfl;rfl;decide) | (apply E_lda;(apply tyT;rfl);rfl;(apply at_;rfl;rfl);rfl) | (apply E_ld;(apply tyT;rfl);rfl;(apply at_;rfl;rfl);rfl))) | (apply Vp;rfl;rfl;apply fnT;rfl;apply h32;rintro _ rfl) | (apply Vp;rfl;rfl;apply fnT;rfl;apply h33;rintro _ rfl) | (apply Vd;rfl;(first | (apply E_geq;rfl;rfl) | (apply E_seql;rfl;rfl));all_goals intro h_) | (apply Vw;rfl;(apply W_bxL;rfl;rfl;rfl)) | (apply s_region;rfl) | apply tri_seq | apply tri_skip | apply tri_ret | (apply tri_condT;rfl) | (apply tri_condF;rfl) | (apply end_q _ (.inr rfl);(exact List.prefix_append _ _);(focus repeat (first | apply R_nil | (apply R_tmp;rfl)));rfl) | apply p_then | apply p_thenR)
      all_goals first | (exfalso;omega) | exact vS_of (by rw [if_pos rfl,if_pos (show a = EXC from h_)];rfl) | exact vS_of (by rw [if_pos rfl,if_neg (show ¬ a = EXC from h_)];rfl) | exact vS_of (by rw [if_neg (by decide),if_pos (by omega)];rfl)
  · obtain ⟨c,hc⟩ : ∃ c,p[j]? = some c := ⟨_,List.getElem?_eq_getElem hj⟩
    cases hb : inS BS a
    all_goals
      rw [hb] at h32
      rw [hf] at h33
      intro S T M
      refine callT_go [] [] Tryz.func14 rfl Tryz.ntmps14 Tryz.results14 ?_
      repeat' (first | apply triL_nil | (apply V;rfl;(first | (apply E_mv;rfl) | (apply E_as;rfl) | (apply E_fa;(apply plT;rfl);rfl;rfl;decide) | (apply E_fe;(apply plT;rfl);rfl;rfl;decide) | (apply E_lda;(apply tyT;rfl);rfl;(apply at_;rfl;rfl);rfl) | (apply E_ld;(apply tyT;rfl);rfl;(apply at_;rfl;rfl);rfl) | (apply E_le;(apply tyT;rfl);rfl;rfl) | (apply E_ial (c := c);apply elT;rfl;rfl;rfl;rfl;exact encCl_len;omega;simpa using hc))) | (apply Vp;rfl;rfl;apply fnT;rfl;apply h32;rintro _ rfl) | (apply Vp;rfl;rfl;apply fnT;rfl;apply h33;rintro _ rfl) | (apply Vd;rfl;(first | (apply E_geq;rfl;rfl) | (apply E_seql;rfl;rfl));all_goals intro h_) | (apply Vw;rfl;(apply W_bxL;rfl;rfl;rfl)) | (apply s_region;rfl) | apply tri_seq | apply tri_skip | apply tri_ret | (apply tri_condT;rfl) | (apply tri_condF;rfl) | (apply end_q _ (.inr rfl);(exact List.prefix_append _ _);(focus repeat (first | apply R_nil | (apply R_tmp;rfl)));rfl) | apply p_then | apply p_thenR)
      all_goals first | (exfalso;omega) | exact vS_of (by rw [if_pos rfl,if_pos (show a = EXC from h_)];rfl) | exact vS_of (by rw [if_pos rfl,if_neg (show ¬ a = EXC from h_)];rfl) | exact vS_of (by rw [if_neg (by decide),if_neg (by omega),hf];unfold clAt;rw [show ((j : Int)).toNat = j from rfl,hc];rfl)
theorem sp28 (p : List Cl) (a0 : ByteArray) (hp : p.length ≤ 1000000) : PC 28 [vP p,vS a0] (fun r => r = .d (encL encStr (chC p a0))) := by
  intro S T M
  refine callT_go [] [] Tryz.func28 rfl Tryz.ntmps28 Tryz.results28 ?_
  repeat' (first | apply triL_nil | (apply V;rfl;(apply E_as;rfl)) | (apply Vw;rfl;(apply W_bxL;rfl;rfl;rfl)) | (apply s_region;rfl) | apply tri_seq | apply tri_block)
  refine tri_ownX 5 9 1 rfl rfl ?_
  refine tri_grow (fun k : Nat × ByteArray × List ByteArray => k.1) (fun k => [(1,vS k.2.1),(2,.ptr (S.length + 0) 0),(5,.own 9 1 (T.length + 0) (k.2.2.flatMap encStr) k.2.2.length)]) (fun k S1 T1 => k.2.2.Nodup ∧ (∀ x ∈ k.2.2,isC p x = true) ∧ k.2.2.length + k.1 = p.length + 6 ∧ chG p k.1 k.2.1 k.2.2 = chC p a0 ∧ S.length ≤ S1.length ∧ T <+: T1 ∧ S1[S.length + 0]? = some ([.d (encL encCl p)],25) ∧ T1[T.length + 0]? = some (k.2.2.flatMap encStr).length) (p.length + 6,a0,[]) ⟨by simp,by simp,by simp,rfl,by simp,by simp,at_ rfl rfl,by simp⟩ ⟨rfl,rfl,rfl,trivial⟩ ?_
  rintro ⟨n,a,acc⟩ S1 T1 ⟨hn,hs,he,hch,hS,hT,hb,hTg⟩
  dsimp only at hn hs he hch hTg ⊢
  have hlen := room hn hs
  obtain ⟨m,rfl⟩ : ∃ m,n = m + 1 := ⟨n - 1,by omega⟩
  rw [chG] at hch
  have h25 := sp25 p a hp
  have h14 := sp14 p a hp
  cases hi : isC p a
  · rw [hi] at h25 hch
    rw [if_neg (by decide)] at hch
    repeat' (first | apply triL_nil | (apply V;rfl;(first | (apply E_mv;rfl) | (apply E_as;rfl) | (apply E_lda;(apply tyT;rfl);rfl;(apply at_old;assumption);rfl) | (apply E_pkF;rfl;rfl))) | (apply Vp;rfl;rfl;apply fnT;rfl;apply h25;rintro _ rfl) | (apply Vo;rfl) | (apply s_region;rfl) | apply tri_seq | apply tri_exit | apply tri_ret | (apply tri_condF;rfl) | (apply end_q _ (.inr rfl);(apply pre_app;assumption);(focus repeat (first | apply R_nil | (apply R_tmp;rfl)));rfl) | apply p_then | apply p_in | apply p_thenE)
    rw [← hch]
    rfl
  · rw [hi] at h25 hch
    rw [if_pos rfl] at hch
    repeat' (first | apply triL_nil | (apply V;rfl;(first | (apply E_mv;rfl) | (apply E_as;rfl) | (apply E_lda;(apply tyT;rfl);rfl;(apply at_old;assumption);rfl) | (apply E_pkT;rfl;rfl) | (apply E_not;rfl))) | (apply Vp;rfl;rfl;apply fnT;rfl;apply h25;rintro _ rfl) | (apply Vp;rfl;rfl;apply fnT;rfl;apply call_wk;rfl;apply (sp27 acc a);rintro _ ⟨(_ | _),rfl,hin_⟩) | (apply Vp;rfl;rfl;apply fnT;rfl;apply h14;rintro _ rfl) | (apply Vw;rfl;(first | (apply W_bsL;rfl;(apply elT;rfl);(apply tyT;rfl);rfl;decide;rfl;rfl) | (apply W_ap;(apply elT;rfl);(apply tyT;rfl);(apply byT;rfl);rfl;rfl;rfl;decide;rfl;(apply A_ownLO (c := a);omega;omega;assumption)))) | (apply s_region;rfl) | apply tri_seq | (apply tri_region;rfl) | apply tri_block | apply tri_skip | apply tri_exit | apply tri_ret | (apply tri_condT;rfl) | (apply tri_condF;rfl) | (apply end_q _ (.inr rfl);(apply pre_app;assumption);(focus repeat (first | apply R_nil | (apply R_tmp;rfl)));rfl) | apply p_then | apply p_in | apply p_inN | apply p_thenE)
    · have hna : a ∉ acc := fun h => by cases hin_.2 h
      rw [if_neg (by rw [inS_false.2 hna];decide)] at hch
      refine ⟨(m,supC p a,acc ++ [a]),_,_,by dsimp only;omega,⟨nodup_snoc hn hna,fun x hx => ?_,by simp only [List.length_append,List.length_singleton];omega,hch,by simp only [List.length_append];omega,pre_app (pre_set hT (by omega)),at_old hb,at_set (List.getElem?_eq_some_iff.1 hTg).1⟩,⟨rfl,rfl,rfl,trivial⟩,rfl⟩
      rcases List.mem_append.1 hx with h | h
      · exact hs x h
      · rw [List.mem_singleton.1 h]
        exact hi
    · rw [if_pos (inS_iff.2 (hin_.1 rfl))] at hch
      rw [← hch]
      rfl
end Go.Proofs.YtokilnhpepbjlaaGreat
namespace Go.Proofs.YtokilnhpepbjlaaGreat
open Go Go.RowKit Go.Proofs.YtokilnhpepbjlaaGreat.Calc
set_option linter.unusedVariables false
set_option linter.unusedSimpArgs false
set_option maxRecDepth 100000
set_option maxHeartbeats 8000000
attribute [local irreducible] Tri TriL TriP CallT stepV stepW thenQ inQ endQ
theorem sp26 (p : List Cl) (a : ByteArray) (hp : p.length ≤ 1000000) : PC 26 [vP p,vS a] (fun r => r = vB (typeC p a)) := by
  have h25 := sp25 p a hp
  unfold typeC
  cases hb : isC p a
  all_goals
    rw [hb] at h25
    intro S T M
    refine callT_go [] [] Tryz.func26 rfl Tryz.ntmps26 Tryz.results26 ?_
    repeat' (first | apply triL_nil | (apply V;rfl;(first | (apply E_mv;rfl) | (apply E_as;rfl) | (apply E_lda;(apply tyT;rfl);rfl;(apply at_;rfl;rfl);rfl) | (apply E_pkT;rfl;rfl) | (apply E_pkF;rfl;rfl))) | (apply Vp;rfl;rfl;apply fnT;rfl;apply h25;rintro _ rfl) | (apply Vd;rfl;(apply E_seql;rfl;rfl);all_goals intro h_) | (apply Vo;rfl) | (apply Vw;rfl;(apply W_bxL;rfl;rfl;rfl)) | (apply s_region;rfl) | apply tri_ret | (apply end_q _ (.inr rfl);(exact List.prefix_append _ _);(focus repeat (first | apply R_nil | (apply R_tmp;rfl)));rfl))
    all_goals exact vB_of (by simp_all)
theorem sp76 (p : List Cl) (hp : p.length ≤ 1000000) : PC 76 [vP p] (fun r => r = .tup [vI (checkC p).1,vI (checkC p).2]) := by
  intro S T M
  refine callT_go [] [] Tryz.func76 rfl Tryz.ntmps76 Tryz.results76 ?_
  repeat' (first | apply triL_nil | (apply V;rfl;(apply E_as;rfl)) | (apply Vw;rfl;(apply W_bxL;rfl;rfl;rfl)) | (apply s_region;rfl) | apply tri_seq | apply tri_block)
  refine tri_grow (fun k : Nat => p.length - k) (fun k => [(1,.ptr (S.length + 0) 0),(4,vI k)]) (fun k S1 T1 => k ≤ p.length ∧ S.length ≤ S1.length ∧ T <+: T1 ∧ S1[S.length + 0]? = some ([.d (encL encCl p)],25) ∧ chk1 p p 0 = chk1 p (p.drop k) k) 0 ⟨Nat.zero_le _,by simp,by simp,at_ rfl rfl,by rw [List.drop_zero]⟩ ⟨rfl,rfl,trivial⟩ ?_
  rintro k S1 T1 ⟨hk,hS,hT,hb,hch⟩
  repeat' (first | apply triL_nil | (apply V;rfl;(first | (apply E_mv;rfl) | (apply E_as;rfl) | (apply E_fa;(apply plT;rfl);rfl;rfl;decide) | (apply E_ld;(apply tyT;rfl);rfl;(apply at_old;assumption);rfl) | (apply E_len;(apply elT;rfl);rfl;rfl))) | (apply Vd;rfl;(apply E_lss;rfl;rfl);all_goals intro h_) | (apply s_region;rfl) | apply tri_seq | apply tri_block | apply tri_skip | apply tri_exit | (apply tri_condT;rfl) | (apply tri_condF;rfl) | apply p_then | apply p_in | apply p_thenE)
  · obtain ⟨c,hc⟩ : ∃ c,p[k]? = some c := ⟨_,List.getElem?_eq_getElem (by omega)⟩
    have hd : p.drop k = c :: p.drop (k + 1) := by
      obtain ⟨hk',rfl⟩ := List.getElem?_eq_some_iff.1 hc
      exact List.drop_eq_getElem_cons hk'
    rw [hd,chk1] at hch
    have h32 := sp32 c.name
    have h33 := sp33 p c.name hp
    cases hi : inS BS c.name
    all_goals
      rw [hi] at h32 hch
      repeat' (first | apply triL_nil | (apply V;rfl;(first | (apply E_mv;rfl) | (apply E_as;rfl) | (apply E_fa;(apply plT;rfl);rfl;rfl;decide) | (apply E_lda;(apply tyT;rfl);rfl;(first | (apply at_;rfl;rfl) | (apply at_old;assumption));rfl) | (apply E_ld;(apply tyT;rfl);rfl;(first | (apply at_;rfl;rfl) | (apply at_old;assumption));rfl) | (apply E_lea;(apply tyT;rfl);rfl;(first | rfl | apply encEx_len | apply encSm_len)) | (apply E_pkT;rfl;rfl) | (apply E_pkF;rfl;rfl) | (apply E_add64;rfl;rfl;rfl;omega) | (apply E_ial (c := c);apply elT;rfl;rfl;rfl;rfl;exact encCl_len;omega;simpa using hc))) | (apply Vp;rfl;rfl;apply fnT;rfl;apply h32;rintro _ rfl) | (apply Vp;rfl;rfl;apply fnT;rfl;apply h33;rintro _ rfl) | (apply Vd;rfl;(apply E_neq;rfl;rfl);all_goals intro h_) | (apply Vo;rfl) | (apply Vw;rfl;(apply W_alL;rfl;(apply tyT;rfl))) | (apply Vs;rfl;(apply W_stL;rfl;(apply tyT;rfl);rfl;rfl;rfl;(first | apply okC_new | (apply okC_ge;omega));rfl;rfl;(first | decide | (apply Nat.le_of_ble_eq_true;rfl)))) | (apply s_region;rfl) | (apply tri_region;rfl) | apply tri_skip | apply tri_ret | (apply tri_condT;rfl) | (apply tri_condF;rfl) | (apply end_q _ (.inr rfl);(apply pre_app;assumption);(focus repeat (first | apply R_nil | (apply R_tmp;rfl)));rfl) | apply p_then | apply p_inN | apply p_inR | apply p_thenR)
    · rw [if_pos (.inr h_)] at hch
      unfold checkC
      rw [hch]
      rfl
    · rw [if_neg (by simp;exact Classical.not_not.1 h_)] at hch
      exact ⟨k + 1,_,_,by omega,⟨by omega,by simp only [List.length_append];omega,pre_app hT,at_old hb,hch⟩,⟨rfl,vI_of (by omega),trivial⟩,rfl⟩
    · rw [if_pos (.inl rfl)] at hch
      unfold checkC
      rw [hch]
      rfl
  · rw [List.drop_of_length_le (by omega),chk1] at hch
    refine tri_grow (fun k : Nat => p.length - k) (fun k => [(1,.ptr (S.length + 0) 0),(6,vI k)]) (fun k S1 T1 => k ≤ p.length ∧ S.length ≤ S1.length ∧ T <+: T1 ∧ S1[S.length + 0]? = some ([.d (encL encCl p)],25) ∧ chk2 p p 0 = chk2 p (p.drop k) k) 0 ⟨Nat.zero_le _,by first | exact hS | (simp only [List.length_append];omega),by first | exact hT | exact pre_app hT,by first | exact hb | exact at_old hb,by rw [List.drop_zero]⟩ ⟨rfl,rfl,trivial⟩ ?_
    clear hS hT hb hk
    rintro k S1 T1 ⟨hk,hS,hT,hb,hch2⟩
    repeat' (first | apply triL_nil | (apply V;rfl;(first | (apply E_mv;rfl) | (apply E_as;rfl) | (apply E_fa;(apply plT;rfl);rfl;rfl;decide) | (apply E_ld;(apply tyT;rfl);rfl;(apply at_old;assumption);rfl) | (apply E_len;(apply elT;rfl);rfl;rfl))) | (apply Vd;rfl;(apply E_lss;rfl;rfl);all_goals intro h_) | (apply s_region;rfl) | apply tri_seq | apply tri_block | apply tri_skip | apply tri_exit | apply tri_ret | (apply tri_condT;rfl) | (apply tri_condF;rfl) | (apply end_q _ (.inr rfl);(apply pre_app;assumption);(focus repeat (first | apply R_nil | (apply R_tmp;rfl)));rfl) | apply p_then | apply p_in | apply p_thenE)
    · obtain ⟨c,hc⟩ : ∃ c,p[k]? = some c := ⟨_,List.getElem?_eq_getElem (by omega)⟩
      have hd : p.drop k = c :: p.drop (k + 1) := by
        obtain ⟨hk',rfl⟩ := List.getElem?_eq_some_iff.1 hc
        exact List.drop_eq_getElem_cons hk'
      rw [hd,chk2] at hch2
      have h25 := sp25 p c.super hp
      have h28 := sp28 p c.name hp
      have hin : isC p c.name = true := by
        unfold isC
        rw [Bool.or_eq_true]
        exact .inr (decide_eq_true (mem_fi (List.mem_of_getElem? hc)))
      obtain ⟨U,hU⟩ := ch_self hin
      have hlen := ch_len p c.name
      have hlast : (chC p c.name)[(((chC p c.name).length : Int) - 1).toNat]? = some (lastS (chC p c.name)) := by
        unfold lastS
        rw [show (((chC p c.name).length : Int) - 1).toNat = (chC p c.name).length - 1 by omega]
        rw [List.getElem?_eq_getElem (by rw [hU];simp)]
        rfl
      have hpos : 0 < (chC p c.name).length := by rw [hU];simp
      have h14 := sp14 p (lastS (chC p c.name)) hp
      have h25' := sp25 p (supC p (lastS (chC p c.name))) hp
      generalize lastS (chC p c.name) = z at *
      generalize supC p z = z' at *
      cases hi : isC p c.super <;> cases hj : isC p z'
      all_goals
        rw [hi] at h25 hch2
        rw [hj] at h25' hch2
        repeat' (first | apply triL_nil | (apply V;rfl;(first | (apply E_mv;rfl) | (apply E_as;rfl) | (apply E_fa;(apply plT;rfl);rfl;rfl;decide) | (apply E_lda;(apply tyT;rfl);rfl;(first | (apply at_;rfl;rfl) | (apply at_old;assumption));rfl) | (apply E_ld;(apply tyT;rfl);rfl;(first | (apply at_;rfl;rfl) | (apply at_old;assumption));rfl) | (apply E_lea;(apply tyT;rfl);rfl;(first | rfl | apply encEx_len | apply encSm_len)) | (apply E_le;(apply tyT;rfl);rfl;rfl) | (apply E_len;(apply elT;rfl);rfl;rfl) | (apply E_not;rfl) | (apply E_add64;rfl;rfl;rfl;omega) | (apply E_sub64;rfl;rfl;rfl;omega) | (apply E_ial (c := c);apply elT;rfl;rfl;rfl;rfl;exact encCl_len;omega;simpa using hc) | (apply E_ial (c := z);apply elT;rfl;rfl;rfl;rfl;exact encStr_len;omega;exact hlast))) | (apply s_drawn (nt := 71) (.take 0 (.take 1 (.take 2 (.take 3 (.take 4 (.take 5 (.take 6 (.one 7 (.take 8 .nil))))))))) [] [];exact mixed;rfl;decide +kernel) | (apply Vp;rfl;rfl;apply fnT;rfl;apply h25;rintro _ rfl) | (apply Vp;rfl;rfl;apply fnT;rfl;apply h28;rintro _ rfl) | (apply oP;rfl;rfl;rfl;apply fnT;rfl;apply h14;rintro _ rfl) | (apply Vp;rfl;rfl;apply fnT;rfl;apply h25';rintro _ rfl) | (apply Vd;rfl;(apply E_seql;rfl;rfl);all_goals intro h_) | (apply Vw;rfl;(apply W_alL;rfl;(apply tyT;rfl))) | (apply Vs;rfl;(apply W_stL;rfl;(apply tyT;rfl);rfl;rfl;rfl;(first | apply okC_new | (apply okC_ge;omega));rfl;rfl;(first | decide | (apply Nat.le_of_ble_eq_true;rfl)))) | (apply s_region;rfl) | apply tri_seq | (apply tri_region;rfl) | apply tri_skip | apply tri_exit | apply tri_ret | (apply tri_condT;rfl) | (apply tri_condF;rfl) | (apply end_q _ (.inr rfl);(apply pre_app;assumption);(focus repeat (first | apply R_nil | (apply R_tmp;rfl)));rfl) | apply p_then | apply p_in | apply p_inN | apply p_inR | apply p_thenR | apply p_thenE | apply d_nil | (apply tV;rfl;rfl;(first | (apply E_mv;rfl) | (apply E_as;rfl) | (apply E_fa;(apply plT;rfl);rfl;rfl;decide) | (apply E_lda;(apply tyT;rfl);rfl;(first | (apply at_;rfl;rfl) | (apply at_old;assumption));rfl) | (apply E_ld;(apply tyT;rfl);rfl;(first | (apply at_;rfl;rfl) | (apply at_old;assumption));rfl) | (apply E_lea;(apply tyT;rfl);rfl;(first | rfl | apply encEx_len | apply encSm_len)) | (apply E_le;(apply tyT;rfl);rfl;rfl) | (apply E_len;(apply elT;rfl);rfl;rfl) | (apply E_not;rfl) | (apply E_add64;rfl;rfl;rfl;omega) | (apply E_sub64;rfl;rfl;rfl;omega) | (apply E_ial (c := c);apply elT;rfl;rfl;rfl;rfl;exact encCl_len;omega;simpa using hc) | (apply E_ial (c := z);apply elT;rfl;rfl;rfl;rfl;exact encStr_len;omega;exact hlast));rfl))
        all_goals first
          | (rw [if_pos (show c.super = NIL from h_)] at hch2;exact ⟨k + 1,_,_,by omega,⟨by omega,by simp only [List.length_append];omega,pre_app hT,at_old hb,hch2⟩,⟨rfl,vI_of (by omega),trivial⟩,rfl⟩)
          | (rw [if_neg (show ¬ c.super = NIL from h_),if_pos rfl] at hch2;unfold checkC;rw [hch,hch2];rfl)
          | (rw [if_neg (show ¬ c.super = NIL from h_),if_neg (by decide),if_pos rfl] at hch2;unfold checkC;rw [hch,hch2];rfl)
          | (rw [if_neg (show ¬ c.super = NIL from h_),if_neg (by decide),if_neg (by decide)] at hch2;exact ⟨k + 1,_,_,by omega,⟨by omega,by simp only [List.length_append];omega,pre_app hT,at_old hb,hch2⟩,⟨rfl,vI_of (by omega),trivial⟩,rfl⟩)
    · rw [List.drop_of_length_le (by omega),chk2] at hch2
      unfold checkC
      rw [hch,hch2]
      rfl
theorem sp109 (p : List Cl) (hp : p.length ≤ 1000000) : PC 109 [vP p] (fun r => r = vB (decide ((checkC p).1 = 0))) := by
  have h76 := sp76 p hp
  intro S T M
  refine callT_go [] [] Tryz.func109 rfl Tryz.ntmps109 Tryz.results109 ?_
  repeat' (first | apply triL_nil | (apply V;rfl;(first | (apply E_mv;rfl) | (apply E_as;rfl) | (apply E_lda;(apply tyT;rfl);rfl;(apply at_;rfl;rfl);rfl) | (apply E_ex;rfl;rfl))) | (apply Vp;rfl;rfl;apply fnT;rfl;apply h76;rintro _ rfl) | (apply Vd;rfl;(apply E_eql;rfl;rfl);all_goals intro h_) | (apply Vw;rfl;(apply W_bxL;rfl;rfl;rfl)) | (apply s_region;rfl) | apply tri_ret | (apply end_q _ (.inr rfl);(exact List.prefix_append _ _);(focus repeat (first | apply R_nil | (apply R_tmp;rfl)));rfl))
  all_goals exact vB_of (by simp [h_])
def Small (p : List Cl) : Prop := p.length ≤ 1000000 ∧ ∀ c ∈ p,c.fields.length ≤ 1000000
def vClA (c : Cl) : BV := .agg [vS c.name,vS c.super,.d (encL encFi c.fields),.d (encL encMe c.methods)]
theorem classC_eq (p : List Cl) (a : ByteArray) : (∃ (j : Nat) (c : Cl),p[j]? = some c ∧ findI p a = (j : Int) ∧ classC p a = c) ∨ (findI p a = -1 ∧ classC p a = ⟨⟨#[]⟩,⟨#[]⟩,[],[]⟩) := by
  rcases findI_spec p a with ⟨hf,_⟩ | ⟨j,hj,hf,_,_⟩
  · exact .inr ⟨hf,by unfold classC;rw [if_neg (by omega)]⟩
  · refine .inl ⟨j,p[j],List.getElem?_eq_getElem hj,hf,?_⟩
    unfold classC clAt
    rw [if_pos (by omega),hf]
    rw [show ((j : Int)).toNat = j from rfl,List.getElem?_eq_getElem hj]
    rfl
theorem class_fields {p : List Cl} (hp : Small p) (a : ByteArray) : (classC p a).fields.length ≤ 1000000 := by
  rcases classC_eq p a with ⟨j,c,hc,_,h⟩ | ⟨_,h⟩
  · rw [h];exact hp.2 c (List.mem_of_getElem? hc)
  · rw [h];simp
theorem sp128 (p : List Cl) (a : ByteArray) (hp : p.length ≤ 1000000) : PC 128 [vP p,vS a] (fun r => r = vClA (classC p a)) := by
  have h33 := sp33 p a hp
  rcases classC_eq p a with ⟨j,c,hc,hf,h⟩ | ⟨hf,h⟩
  · rw [h]
    rw [hf] at h33
    have hj := (List.getElem?_eq_some_iff.1 hc).1
    intro S T M
    refine callT_go [] [] Tryz.func128 rfl Tryz.ntmps128 Tryz.results128 ?_
    repeat' (first | apply triL_nil | (apply V;rfl;(first | (apply E_mv;rfl) | (apply E_as;rfl) | (apply E_fa;(apply plT;rfl);rfl;rfl;decide) | (apply E_lda;(apply tyT;rfl);rfl;(apply at_;rfl;rfl);rfl) | (apply E_ld;(apply tyT;rfl);rfl;(apply at_;rfl;rfl);rfl) | (apply E_lea;(apply tyT;rfl);rfl;(first | rfl | apply encEx_len | apply encSm_len)) | (apply E_bd;(apply plT;rfl);rfl) | (apply E_ial (c := c);apply elT;rfl;rfl;rfl;rfl;exact encCl_len;omega;simpa using hc))) | (apply Vp;rfl;rfl;apply fnT;rfl;apply h33;rintro _ rfl) | (apply Vd;rfl;(apply E_geq;rfl;rfl);all_goals intro h_) | (apply Vw;rfl;(first | (apply W_alL;rfl;(apply tyT;rfl)) | (apply W_bxL;rfl;rfl;rfl))) | (apply Vs;rfl;(apply W_stL;rfl;(apply tyT;rfl);rfl;rfl;rfl;(first | apply okC_new | (apply okC_ge;omega));rfl;rfl;(first | decide | (apply Nat.le_of_ble_eq_true;rfl)))) | (apply s_region;rfl) | apply tri_seq | apply tri_skip | apply tri_ret | (apply tri_condT;rfl) | (apply tri_condF;rfl) | (apply end_q _ (.inr rfl);(exact List.prefix_append _ _);(focus repeat (first | apply R_nil | (apply R_cell;rfl;rfl;apply tyT;rfl;rfl;rfl)));rfl) | apply p_then | apply p_thenR)
    all_goals first | rfl | (exfalso;omega)
  · rw [h]
    rw [hf] at h33
    intro S T M
    refine callT_go [] [] Tryz.func128 rfl Tryz.ntmps128 Tryz.results128 ?_
    repeat' (first | apply triL_nil | (apply V;rfl;(first | (apply E_mv;rfl) | (apply E_as;rfl) | (apply E_fa;(apply plT;rfl);rfl;rfl;decide) | (apply E_lda;(apply tyT;rfl);rfl;(apply at_;rfl;rfl);rfl) | (apply E_ld;(apply tyT;rfl);rfl;(apply at_;rfl;rfl);rfl) | (apply E_bd;(apply plT;rfl);rfl))) | (apply Vp;rfl;rfl;apply fnT;rfl;apply h33;rintro _ rfl) | (apply Vd;rfl;(apply E_geq;rfl;rfl);all_goals intro h_) | (apply Vw;rfl;(first | (apply W_alL;rfl;(apply tyT;rfl)) | (apply W_bxL;rfl;rfl;rfl))) | (apply Vs;rfl;(apply W_stL;rfl;(apply tyT;rfl);rfl;rfl;rfl;(first | apply okC_new | (apply okC_ge;omega));rfl;rfl;(first | decide | (apply Nat.le_of_ble_eq_true;rfl)))) | (apply s_region;rfl) | apply tri_seq | apply tri_skip | apply tri_ret | (apply tri_condT;rfl) | (apply tri_condF;rfl) | (apply end_q _ (.inr rfl);(exact List.prefix_append _ _);(focus repeat (first | apply R_nil | (apply R_cell;rfl;rfl;apply tyT;rfl;rfl;rfl)));rfl) | apply p_then | (show TriL _ _ _ _ _ _;exfalso;omega))
    all_goals first | rfl | (exfalso;omega)
end Go.Proofs.YtokilnhpepbjlaaGreat
namespace Go.Proofs.YtokilnhpepbjlaaGreat
open Go Go.RowKit Go.Proofs.YtokilnhpepbjlaaGreat.Calc
set_option linter.unusedVariables false
set_option linter.unusedSimpArgs false
set_option maxRecDepth 100000
set_option maxHeartbeats 8000000
attribute [local irreducible] Tri TriL TriP CallT stepV stepW thenQ inQ endQ
theorem findF_spec (p : List Fi) (a : ByteArray) : (findF p a = -1 ∧ ∀ x ∈ p,x.name ≠ a) ∨ (∃ j : Nat,∃ h : j < p.length,findF p a = j ∧ (p[j]).name = a ∧ ∀ (j' : Nat) (h' : j' < j),(p[j']'(by omega)).name ≠ a) := by
  unfold findF
  cases h : p.findIdx? (fun c => decide (c.name = a)) with
  | none =>
    refine .inl ⟨rfl,fun x hx e => ?_⟩
    have := List.findIdx?_eq_none_iff.1 h x hx
    simp [e] at this
  | some j =>
    obtain ⟨hj,h1,h2⟩ := List.findIdx?_eq_some_iff_getElem.1 h
    exact .inr ⟨j,hj,rfl,by simpa using h1,fun j' h' => by simpa using h2 j' h'⟩
theorem findF_at {p : List Fi} {a : ByteArray} {k : Nat} {c : Fi} (hc : p[k]? = some c) (hn : c.name = a) (hpre : ∀ (i : Nat) (c' : Fi),i < k → p[i]? = some c' → c'.name ≠ a) : findF p a = k := by
  obtain ⟨hk,rfl⟩ := List.getElem?_eq_some_iff.1 hc
  rcases findF_spec p a with ⟨_,h⟩ | ⟨j,hj,h1,h2,h3⟩
  · exact absurd hn (h _ (List.getElem_mem hk))
  · rw [h1]
    rcases Nat.lt_trichotomy j k with h | h | h
    · exact absurd h2 (hpre j _ h (List.getElem?_eq_getElem hj))
    · rw [h]
    · exact absurd hn (h3 k h)
theorem findF_none {p : List Fi} {a : ByteArray} (hpre : ∀ (i : Nat) (c' : Fi),p[i]? = some c' → c'.name ≠ a) : findF p a = -1 := by
  rcases findF_spec p a with ⟨h,_⟩ | ⟨j,hj,h1,h2,h3⟩
  · exact h
  · exact absurd h2 (hpre j _ (List.getElem?_eq_getElem hj))
theorem drop_at {α : Type} {l : List α} {k : Nat} {c : α} (hc : l[k]? = some c) : l.drop k = c :: l.drop (k + 1) := by
  obtain ⟨hk',rfl⟩ := List.getElem?_eq_some_iff.1 hc
  exact List.drop_eq_getElem_cons hk'
theorem sp110 (p : List Cl) (a name : ByteArray) (hp : Small p) : PC 110 [vP p,vS a,vS name] (fun r => r = vI (ownF p a name)) := by
  have h128 := sp128 p a hp.1
  have hfl := class_fields hp a
  unfold ownF
  unfold vClA at h128
  generalize classC p a = c at *
  obtain ⟨cn,csup,cf,cm⟩ := c
  dsimp only at *
  intro S T M
  refine callT_go [] [] Tryz.func110 rfl Tryz.ntmps110 Tryz.results110 ?_
  repeat' (first | apply triL_nil | (apply V;rfl;(first | (apply E_mv;rfl) | (apply E_as;rfl) | (apply E_lda;(apply tyT;rfl);rfl;(apply at_;rfl;rfl);rfl))) | (apply Vp;rfl;rfl;apply fnT;rfl;apply h128;rintro _ rfl) | (apply Vw;rfl;(first | (apply W_alL;rfl;(apply tyT;rfl)) | (apply W_bxL;rfl;rfl;rfl))) | (apply Vs;rfl;(apply W_stL;rfl;(apply tyT;rfl);rfl;rfl;rfl;(first | apply okC_new | (apply okC_ge;omega));rfl;rfl;(first | decide | (apply Nat.le_of_ble_eq_true;rfl)))) | (apply s_region;rfl) | apply tri_seq | apply tri_block)
  refine tri_fix (fun k : Nat => cf.length - k) (fun k => [(2,vS name),(7,.ptr (S.length + 1) 0),(8,vI k)]) (fun k => k ≤ cf.length ∧ ∀ (i : Nat) (c : Fi),i < k → cf[i]? = some c → c.name ≠ name) 0 ⟨Nat.zero_le _,fun i c h => by omega⟩ ⟨rfl,rfl,rfl,trivial⟩ ?_
  rintro k ⟨hk,hpre⟩
  repeat' (first | apply triL_nil | (apply V;rfl;(first | (apply E_mv;rfl) | (apply E_as;rfl) | (apply E_fa;(apply plT;rfl);rfl;rfl;decide) | (apply E_ld;(apply tyT;rfl);rfl;(apply at_;rfl;rfl);rfl) | (apply E_len;(apply elT;rfl);rfl;rfl))) | (apply Vd;rfl;(apply E_lss;rfl;rfl);all_goals intro h_) | (apply s_region;rfl) | apply tri_seq | apply tri_block | apply tri_skip | apply tri_exit | apply tri_ret | (apply tri_condT;rfl) | (apply tri_condF;rfl) | (apply end_q _ (.inr rfl);(exact List.prefix_append _ _);(focus repeat (first | apply R_nil | (apply R_tmp;rfl)));rfl) | apply p_then | apply p_in | apply p_thenE)
  · obtain ⟨c,hc⟩ : ∃ c,cf[k]? = some c := ⟨_,List.getElem?_eq_getElem (by omega)⟩
    repeat' (first | apply triL_nil | (apply V;rfl;(first | (apply E_mv;rfl) | (apply E_as;rfl) | (apply E_fe;(apply plT;rfl);rfl;rfl;decide) | (apply E_le;(apply tyT;rfl);rfl;rfl) | (apply E_add64;rfl;rfl;rfl;omega) | (apply E_ial (c := c);apply elT;rfl;rfl;rfl;rfl;exact encFi_len;omega;simpa using hc))) | (apply Vd;rfl;(apply E_seql;rfl;rfl);all_goals intro h_) | (apply s_region;rfl) | (apply tri_region;rfl) | apply tri_skip | apply tri_ret | (apply tri_condT;rfl) | (apply tri_condF;rfl) | (apply end_q _ (.inr rfl);(exact List.prefix_append _ _);(focus repeat (first | apply R_nil | (apply R_tmp;rfl)));rfl) | apply p_then | apply p_inN | apply p_inR | apply p_thenR)
    · exact vI_ret (findF_at hc h_ hpre).symm
    · refine ⟨k + 1,by omega,⟨by omega,fun i c' hi hc' => ?_⟩,⟨rfl,rfl,vI_of (by omega),trivial⟩,rfl⟩
      by_cases hik : i = k
      · subst hik
        obtain rfl := Option.some.inj (hc.symm.trans hc')
        assumption
      · exact hpre i c' (by omega) hc'
  · exact vI_ret (findF_none fun i c hc => hpre i c (by have := (List.getElem?_eq_some_iff.1 hc).1;omega) hc).symm
theorem sp77 (p : List Cl) (hp : Small p) : PC 77 [vP p] (fun r => r = .tup [vI (checkF p).1,vI (checkF p).2]) := by
  have h109 := sp109 p hp.1
  have hp1 := hp.1
  unfold checkF
  by_cases he : (checkC p).1 = 0
  case neg =>
    rw [if_pos he]
    rw [decide_eq_false he] at h109
    intro S T M
    refine callT_go [] [] Tryz.func77 rfl Tryz.ntmps77 Tryz.results77 ?_
    repeat' (first | apply triL_nil | (apply V;rfl;(first | (apply E_as;rfl) | (apply E_lda;(apply tyT;rfl);rfl;(apply at_;rfl;rfl);rfl) | (apply E_not;rfl))) | (apply Vp;rfl;rfl;apply fnT;rfl;apply h109;rintro _ rfl) | (apply Vw;rfl;(apply W_bxL;rfl;rfl;rfl)) | (apply s_region;rfl) | apply tri_seq | apply tri_ret | (apply tri_condT;rfl) | (apply end_q _ (.inr rfl);(exact List.prefix_append _ _);(focus repeat (first | apply R_nil | (apply R_tmp;rfl)));rfl) | apply p_thenR)
    rfl
  rw [if_neg (fun h => h he)]
  rw [decide_eq_true he] at h109
  intro S T M
  refine callT_go [] [] Tryz.func77 rfl Tryz.ntmps77 Tryz.results77 ?_
  repeat' (first | apply triL_nil | (apply V;rfl;(first | (apply E_as;rfl) | (apply E_lda;(apply tyT;rfl);rfl;(apply at_;rfl;rfl);rfl) | (apply E_not;rfl))) | (apply Vp;rfl;rfl;apply fnT;rfl;apply h109;rintro _ rfl) | (apply Vw;rfl;(apply W_bxL;rfl;rfl;rfl)) | (apply s_region;rfl) | apply tri_seq | apply tri_block | apply tri_skip | (apply tri_condF;rfl) | apply p_then)
  refine tri_fix (fun k : Nat => p.length - k) (fun k => [(1,.ptr (S.length + 0) 0),(4,vI k)]) (fun k => k ≤ p.length ∧ chkF p p 0 = chkF p (p.drop k) k) 0 ⟨Nat.zero_le _,by rw [List.drop_zero]⟩ ⟨rfl,rfl,trivial⟩ ?_
  rintro k ⟨hk,hch⟩
  repeat' (first | apply triL_nil | (apply V;rfl;(first | (apply E_mv;rfl) | (apply E_as;rfl) | (apply E_fa;(apply plT;rfl);rfl;rfl;decide) | (apply E_ld;(apply tyT;rfl);rfl;(apply at_;rfl;rfl);rfl) | (apply E_len;(apply elT;rfl);rfl;rfl))) | (apply Vd;rfl;(apply E_lss;rfl;rfl);all_goals intro h_) | (apply s_region;rfl) | apply tri_seq | apply tri_block | apply tri_skip | apply tri_exit | apply tri_ret | (apply tri_condT;rfl) | (apply tri_condF;rfl) | (apply end_q _ (.inr rfl);(exact List.prefix_append _ _);(focus repeat (first | apply R_nil | (apply R_tmp;rfl)));rfl) | apply p_then | apply p_in | apply p_thenE)
  · obtain ⟨c,hc⟩ : ∃ c,p[k]? = some c := ⟨_,List.getElem?_eq_getElem (by omega)⟩
    rw [drop_at hc,chkF] at hch
    have hfl := hp.2 c (List.mem_of_getElem? hc)
    repeat' (first | apply triL_nil | (apply V;rfl;(first | (apply E_as;rfl) | (apply E_fe;(apply plT;rfl);rfl;rfl;decide) | (apply E_le;(apply tyT;rfl);rfl;rfl) | (apply E_ial (c := c);apply elT;rfl;rfl;rfl;rfl;exact encCl_len;omega;simpa using hc))) | (apply s_region;rfl) | apply tri_seq | apply tri_block)
    refine tri_fix (fun j : Nat => c.fields.length - j) (fun j => [(1,.ptr (S.length + 0) 0),(4,vI k),(5,.d (encL encFi c.fields)),(6,vI j)]) (fun j => j ≤ c.fields.length ∧ chkF1 p c.name c.fields 0 = chkF1 p c.name (c.fields.drop j) j) 0 ⟨Nat.zero_le _,by rw [List.drop_zero]⟩ ⟨rfl,rfl,rfl,rfl,trivial⟩ ?_
    rintro j ⟨hj,hc1⟩
    repeat' (first | apply triL_nil | (apply V;rfl;(first | (apply E_mv;rfl) | (apply E_as;rfl) | (apply E_len;(apply elT;rfl);rfl;rfl))) | (apply Vd;rfl;(apply E_lss;rfl;rfl);all_goals intro h_) | (apply s_region;rfl) | apply tri_seq | apply tri_block | apply tri_skip | apply tri_exit | (apply tri_condT;rfl) | (apply tri_condF;rfl) | apply p_then | apply p_in | apply p_thenE)
    · obtain ⟨f,hf⟩ : ∃ f,c.fields[j]? = some f := ⟨_,List.getElem?_eq_getElem (by omega)⟩
      rw [drop_at hf,chkF1] at hc1
      have h110 := sp110 p c.name f.name hp
      repeat' (first | apply triL_nil | (apply V;rfl;(first | (apply E_mv;rfl) | (apply E_as;rfl) | (apply E_fa;(apply plT;rfl);rfl;rfl;decide) | (apply E_fe;(apply plT;rfl);rfl;rfl;decide) | (apply E_lda;(apply tyT;rfl);rfl;(apply at_;rfl;rfl);rfl) | (apply E_ld;(apply tyT;rfl);rfl;(apply at_;rfl;rfl);rfl) | (apply E_le;(apply tyT;rfl);rfl;rfl) | (apply E_add64;rfl;rfl;rfl;omega) | (apply E_ial (c := c);apply elT;rfl;rfl;rfl;rfl;exact encCl_len;omega;simpa using hc) | (apply E_ial (c := f);apply elT;rfl;rfl;rfl;rfl;exact encFi_len;omega;simpa using hf))) | (apply t_drawn (nt := 61) (.take 0 (.take 1 (.take 2 (.take 3 (.take 4 (.take 5 (.take 6 (.take 7 (.take 8 (.take 9 (.take 10 (.take 11 (.take 13 (.one 12 (.take 14 .nil))))))))))))))) [] [];exact mixed;rfl;decide +kernel) | (apply oP;rfl;rfl;rfl;apply fnT;rfl;apply h110;rintro _ rfl) | (apply s_region;rfl) | (apply tri_region;rfl) | apply tri_skip | apply tri_ret | (apply tri_condT;rfl) | (apply tri_condF;rfl) | (apply end_q _ (.inr rfl);(exact List.prefix_append _ _);(focus repeat (first | apply R_nil | (apply R_tmp;rfl)));rfl) | apply p_then | apply p_inN | apply p_inR | apply p_thenR | apply d_nil | (apply tV;rfl;rfl;(first | (apply E_mv;rfl) | (apply E_as;rfl) | (apply E_fa;(apply plT;rfl);rfl;rfl;decide) | (apply E_fe;(apply plT;rfl);rfl;rfl;decide) | (apply E_lda;(apply tyT;rfl);rfl;(apply at_;rfl;rfl);rfl) | (apply E_ld;(apply tyT;rfl);rfl;(apply at_;rfl;rfl);rfl) | (apply E_le;(apply tyT;rfl);rfl;rfl) | (apply E_add64;rfl;rfl;rfl;omega) | (apply E_ial (c := c);apply elT;rfl;rfl;rfl;rfl;exact encCl_len;omega;simpa using hc) | (apply E_ial (c := f);apply elT;rfl;rfl;rfl;rfl;exact encFi_len;omega;simpa using hf));rfl) | (apply tVd;rfl;rfl;(apply E_neq;rfl;rfl);rfl;all_goals intro h_))
      · rw [if_pos h_] at hc1
        rw [if_pos hc1] at hch
        rw [hch]
        rfl
      · rw [if_neg h_] at hc1
        exact ⟨j + 1,by omega,⟨by omega,hc1⟩,⟨rfl,rfl,rfl,vI_of (by omega),trivial⟩,rfl⟩
    · rw [List.drop_of_length_le (by omega),chkF1] at hc1
      rw [if_neg (by rw [hc1];decide)] at hch
      refine tri_fix (fun j : Nat => c.fields.length - j) (fun j => [(1,.ptr (S.length + 0) 0),(4,vI k),(5,.d (encL encFi c.fields)),(7,vI j)]) (fun j => j ≤ c.fields.length ∧ chkF2 p c.fields = chkF2 p (c.fields.drop j)) 0 ⟨Nat.zero_le _,by rw [List.drop_zero]⟩ ⟨rfl,rfl,rfl,rfl,trivial⟩ ?_
      clear hc1
      rintro j ⟨hj,hc2⟩
      repeat' (first | apply triL_nil | (apply V;rfl;(first | (apply E_mv;rfl) | (apply E_as;rfl) | (apply E_len;(apply elT;rfl);rfl;rfl) | (apply E_add64;rfl;rfl;rfl;omega))) | (apply Vd;rfl;(apply E_lss;rfl;rfl);all_goals intro h_) | (apply s_region;rfl) | apply tri_seq | (apply tri_region;rfl) | apply tri_block | apply tri_skip | apply tri_exit | (apply tri_condT;rfl) | (apply tri_condF;rfl) | apply p_then | apply p_in | apply p_inN | apply p_thenE)
      · obtain ⟨f,hf⟩ : ∃ f,c.fields[j]? = some f := ⟨_,List.getElem?_eq_getElem (by omega)⟩
        rw [drop_at hf,chkF2] at hc2
        have h26 := sp26 p f.typ hp1
        cases ht : typeC p f.typ
        all_goals
          rw [ht] at h26 hc2
          repeat' (first | apply triL_nil | (apply V;rfl;(first | (apply E_mv;rfl) | (apply E_as;rfl) | (apply E_fe;(apply plT;rfl);rfl;rfl;decide) | (apply E_lda;(apply tyT;rfl);rfl;(apply at_;rfl;rfl);rfl) | (apply E_le;(apply tyT;rfl);rfl;rfl) | (apply E_not;rfl) | (apply E_add64;rfl;rfl;rfl;omega) | (apply E_ial (c := f);apply elT;rfl;rfl;rfl;rfl;exact encFi_len;omega;simpa using hf))) | (apply t_drawn (nt := 61) (.take 0 (.take 1 (.take 2 (.take 3 (.take 4 (.take 5 (.one 6 (.take 7 .nil)))))))) [] [];exact mixed;rfl;decide +kernel) | (apply oP;rfl;rfl;rfl;apply fnT;rfl;apply h26;rintro _ rfl) | (apply s_region;rfl) | (apply tri_region;rfl) | apply tri_skip | apply tri_ret | (apply tri_condT;rfl) | (apply tri_condF;rfl) | (apply end_q _ (.inr rfl);(exact List.prefix_append _ _);(focus repeat (first | apply R_nil | (apply R_tmp;rfl)));rfl) | apply p_then | apply p_inN | apply p_inR | apply p_thenR | apply d_nil | (apply tV;rfl;rfl;(first | (apply E_mv;rfl) | (apply E_as;rfl) | (apply E_fe;(apply plT;rfl);rfl;rfl;decide) | (apply E_lda;(apply tyT;rfl);rfl;(apply at_;rfl;rfl);rfl) | (apply E_le;(apply tyT;rfl);rfl;rfl) | (apply E_not;rfl) | (apply E_add64;rfl;rfl;rfl;omega) | (apply E_ial (c := f);apply elT;rfl;rfl;rfl;rfl;exact encFi_len;omega;simpa using hf));rfl))
        · rw [if_neg (by decide)] at hc2
          rw [if_pos hc2] at hch
          rw [hch]
          rfl
        · rw [if_pos rfl] at hc2
          exact ⟨j + 1,by omega,⟨by omega,hc2⟩,⟨rfl,rfl,rfl,vI_of (by omega),trivial⟩,rfl⟩
      · rw [List.drop_of_length_le (by omega),chkF2] at hc2
        rw [if_neg (by rw [hc2];decide)] at hch
        exact ⟨k + 1,by omega,⟨by omega,hch⟩,⟨rfl,vI_of (by omega),trivial⟩,rfl⟩
  · rw [List.drop_of_length_le (by omega),chkF] at hch
    rw [hch]
    rfl
def subC (p : List Cl) (a b : ByteArray) : Bool := if a = NULL then decide (b = NULL) || isC p b else if typeC p a = true ∧ typeC p b = true then decide (a = b) || inS (chC p a) b else false
theorem sp11 (p : List Cl) (a b : ByteArray) (hp : p.length ≤ 1000000) : PC 11 [vP p,vS a,vS b] (fun r => r = vB (subC p a b)) := by
  have h25 := sp25 p b hp
  have h26 := sp26 p a hp
  have h26' := sp26 p b hp
  have h28 := sp28 p a hp
  unfold subC
  cases hi : isC p b <;> cases ha : typeC p a <;> cases hb : typeC p b
  all_goals
    rw [hi] at h25
    rw [ha] at h26
    rw [hb] at h26'
    intro S T M
    refine callT_go [] [] Tryz.func11 rfl Tryz.ntmps11 Tryz.results11 ?_
    repeat' (first | apply triL_nil | (apply V;rfl;(first | (apply E_mv;rfl) | (apply E_as;rfl) | (apply E_lda;(apply tyT;rfl);rfl;(apply at_;rfl;rfl);rfl) | (apply E_pkT;rfl;rfl) | (apply E_pkF;rfl;rfl) | (apply E_not;rfl))) | (apply Vp;rfl;rfl;apply fnT;rfl;apply h25;rintro _ rfl) | (apply Vp;rfl;rfl;apply fnT;rfl;apply h26;rintro _ rfl) | (apply Vp;rfl;rfl;apply fnT;rfl;apply h26';rintro _ rfl) | (apply Vp;rfl;rfl;apply fnT;rfl;apply h28;rintro _ rfl) | (apply Vp;rfl;rfl;apply fnT;rfl;apply (sp27 (chC p a) b);rintro _ ⟨(_ | _),rfl,hin_⟩) | (apply Vd;rfl;(apply E_seql;rfl;rfl);all_goals intro h_) | (apply Vo;rfl) | (apply Vw;rfl;(apply W_bxL;rfl;rfl;rfl)) | (apply s_region;rfl) | apply tri_seq | apply tri_block | apply tri_skip | apply tri_ret | (apply tri_condT;rfl) | (apply tri_condF;rfl) | (apply end_q _ (.inr rfl);(exact List.prefix_append _ _);(focus repeat (first | apply R_nil | (apply R_tmp;rfl)));rfl) | apply p_then | apply p_inN | apply p_inR | apply p_thenR)
    all_goals
      refine vB_of ?_
      unfold NULL
      first
        | (have q := inS_iff.2 (hin_.1 rfl);simp_all;done)
        | (have q := inS_false.2 (fun h => by cases hin_.2 h);simp_all;done)
        | (simp_all;done)
end Go.Proofs.YtokilnhpepbjlaaGreat
namespace Go.Proofs.YtokilnhpepbjlaaGreat
open Go Go.RowKit Go.Proofs.YtokilnhpepbjlaaGreat.Calc
set_option linter.unusedVariables false
set_option linter.unusedSimpArgs false
set_option maxRecDepth 100000
set_option maxHeartbeats 8000000
attribute [local irreducible] Tri TriL TriP CallT stepV stepW thenQ inQ endQ
def findS (l : List ByteArray) (a : ByteArray) : Int :=
  match l.findIdx? (fun c => decide (c = a)) with
  | some i => i
  | none => -1
theorem findS_spec (p : List ByteArray) (a : ByteArray) : (findS p a = -1 ∧ ∀ x ∈ p,x ≠ a) ∨ (∃ j : Nat,∃ h : j < p.length,findS p a = j ∧ p[j] = a ∧ ∀ (j' : Nat) (h' : j' < j),(p[j']'(by omega)) ≠ a) := by
  unfold findS
  cases h : p.findIdx? (fun c => decide (c = a)) with
  | none =>
    refine .inl ⟨rfl,fun x hx e => ?_⟩
    have := List.findIdx?_eq_none_iff.1 h x hx
    simp [e] at this
  | some j =>
    obtain ⟨hj,h1,h2⟩ := List.findIdx?_eq_some_iff_getElem.1 h
    exact .inr ⟨j,hj,rfl,by simpa using h1,fun j' h' => by simpa using h2 j' h'⟩
theorem findS_at {p : List ByteArray} {a c : ByteArray} {k : Nat} (hc : p[k]? = some c) (hn : c = a) (hpre : ∀ (i : Nat) (c' : ByteArray),i < k → p[i]? = some c' → c' ≠ a) : findS p a = k := by
  obtain ⟨hk,rfl⟩ := List.getElem?_eq_some_iff.1 hc
  rcases findS_spec p a with ⟨_,h⟩ | ⟨j,hj,h1,h2,h3⟩
  · exact absurd hn (h _ (List.getElem_mem hk))
  · rw [h1]
    rcases Nat.lt_trichotomy j k with h | h | h
    · exact absurd h2 (hpre j _ h (List.getElem?_eq_getElem hj))
    · rw [h]
    · exact absurd hn (h3 k h)
theorem findS_none {p : List ByteArray} {a : ByteArray} (hpre : ∀ (i : Nat) (c' : ByteArray),p[i]? = some c' → c' ≠ a) : findS p a = -1 := by
  rcases findS_spec p a with ⟨h,_⟩ | ⟨j,hj,h1,h2,h3⟩
  · exact h
  · exact absurd h2 (hpre j _ (List.getElem?_eq_getElem hj))
theorem findS_in (p : List ByteArray) (a : ByteArray) : decide (0 ≤ findS p a) = inS p a := by
  rw [Bool.eq_iff_iff,decide_eq_true_eq,inS_iff]
  rcases findS_spec p a with ⟨h,hn⟩ | ⟨j,hj,h1,h2,h3⟩
  · exact ⟨fun h0 => by omega,fun hm => absurd rfl (hn a hm)⟩
  · exact ⟨fun _ => h2 ▸ List.getElem_mem hj,fun _ => by omega⟩
theorem sp85 (l : List ByteArray) (s : ByteArray) (hl : l.length ≤ 1000000000) : PC 85 [.d (encL encStr l),vS s] (fun r => r = vI (findS l s)) := by
  intro S T M
  refine callT_go [] [] Tryz.func85 rfl Tryz.ntmps85 Tryz.results85 ?_
  repeat' (first | apply triL_nil | (apply V;rfl;(first | (apply E_mv;rfl) | (apply E_as;rfl) | (apply E_len;(apply elT;rfl);rfl;rfl))) | (apply s_region;rfl) | apply tri_seq | apply tri_block)
  refine tri_fix (fun k : Nat => l.length - k) (fun k => [(0,.d (encL encStr l)),(1,vS s),(7,vI l.length),(8,vI k)]) (fun k => k ≤ l.length ∧ ∀ (i : Nat) (c : ByteArray),i < k → l[i]? = some c → c ≠ s) 0 ⟨Nat.zero_le _,fun i c h => by omega⟩ ⟨rfl,rfl,rfl,rfl,trivial⟩ ?_
  rintro k ⟨hk,hpre⟩
  repeat' (first | apply triL_nil | (apply V;rfl;(first | (apply E_mv;rfl) | (apply E_as;rfl))) | (apply Vd;rfl;(apply E_lss;rfl;rfl);all_goals intro h_) | (apply s_region;rfl) | apply tri_seq | apply tri_block | apply tri_skip | apply tri_exit | apply tri_ret | (apply tri_condT;rfl) | (apply tri_condF;rfl) | (apply end_q _ (.inr rfl);(exact List.prefix_append _ _);(focus repeat (first | apply R_nil | (apply R_tmp;rfl)));rfl) | apply p_then | apply p_in | apply p_thenE)
  · obtain ⟨c,hc⟩ : ∃ c,l[k]? = some c := ⟨_,List.getElem?_eq_getElem (by omega)⟩
    repeat' (first | apply triL_nil | (apply V;rfl;(first | (apply E_mv;rfl) | (apply E_as;rfl) | (apply E_le;(apply tyT;rfl);rfl;rfl) | (apply E_add64;rfl;rfl;rfl;omega) | (apply E_ial (c := c);apply elT;rfl;rfl;rfl;rfl;exact encStr_len;omega;simpa using hc))) | (apply Vd;rfl;(apply E_seql;rfl;rfl);all_goals intro h_) | (apply s_region;rfl) | (apply tri_region;rfl) | apply tri_skip | apply tri_ret | (apply tri_condT;rfl) | (apply tri_condF;rfl) | (apply end_q _ (.inr rfl);(exact List.prefix_append _ _);(focus repeat (first | apply R_nil | (apply R_tmp;rfl)));rfl) | apply p_then | apply p_inN | apply p_inR | apply p_thenR)
    · exact vI_ret (findS_at hc (Eq.symm h_) hpre).symm
    · refine ⟨k + 1,by omega,⟨by omega,fun i c' hi hc' => ?_⟩,⟨rfl,rfl,rfl,vI_of (by omega),trivial⟩,rfl⟩
      by_cases hik : i = k
      · subst hik
        obtain rfl := Option.some.inj (hc.symm.trans hc')
        intro e
        exact absurd e.symm (by assumption)
      · exact hpre i c' (by omega) hc'
  · exact vI_ret (findS_none fun i c hc => hpre i c (by have := (List.getElem?_eq_some_iff.1 hc).1;omega) hc).symm
theorem sp54 (l : List ByteArray) (s : ByteArray) (hl : l.length ≤ 1000000000) : PC 54 [.d (encL encStr l),vS s] (fun r => r = vB (inS l s)) := by
  have h85 := sp85 l s hl
  have hin := findS_in l s
  intro S T M
  refine callT_go [] [] Tryz.func54 rfl Tryz.ntmps54 Tryz.results54 ?_
  repeat' (first | apply triL_nil | (apply V;rfl;(first | (apply E_mv;rfl) | (apply E_as;rfl))) | (apply Vp;rfl;rfl;apply fnT;rfl;apply h85;rintro _ rfl) | (apply Vd;rfl;(apply E_geq;rfl;rfl);all_goals intro h_) | (apply s_region;rfl) | apply tri_ret | (apply end_q _ (.inr rfl);(exact List.prefix_append _ _);(focus repeat (first | apply R_nil | (apply R_tmp;rfl)));rfl))
  all_goals exact vB_of (by rw [← hin];simp [h_])
theorem sp54d {ds : List DV} {n : Nat} {l : List ByteArray} {s : ByteArray} (h : strsOf ds = some l) (hn : l.length = n) (hl : l.length ≤ 1000000000) : PC 54 [.d (.sl ds n),vS s] (fun r => r = vB (inS l s)) := by
  subst hn
  rw [strsOf_eq h]
  exact sp54 l s hl
theorem sp82 (s : ByteArray) : PC 82 [vS s] (fun r => r = vB (inS BS s)) := by
  intro S T M
  refine callT_go [] [] Tryz.func82 rfl Tryz.ntmps82 Tryz.results82 ?_
  repeat' (first | apply triL_nil | (apply V;rfl;(first | (apply E_mv;rfl) | (apply E_as;rfl))) | (apply Vp;rfl;rfl;apply fnT;rfl;apply call_wk;rfl;apply sp54d;rfl;rfl;decide;rintro _ rfl) | (apply Vw;rfl;(apply W_bsL;rfl;(apply elT;rfl);(apply tyT;rfl);rfl;decide;rfl;rfl)) | (apply s_region;rfl) | apply tri_ret | (apply end_q _ (.inr rfl);(exact List.prefix_append _ _);(focus repeat (first | apply R_nil | (apply R_tmp;rfl)));rfl))
  rfl
abbrev NC (name : ByteArray) (f : Nat) (args : Nat → List BV) (R : BV → Prop) : Prop := ∀ S T M id,S[id]? = some ([vS name],9) → CallT Tryz.prog [] [] f (args id) ⟨S,T,M⟩ (fun r s => s = ⟨S,T,M⟩ ∧ R r)
theorem sp116 (c : Cl) (name : ByteArray) : NC name 116 (fun id => [.agg ((encCl c).map .d),.ptr id 0]) (fun r => r = vB (decide (c.name = name))) := by
  intro S T M id hid
  refine callT_go [] [] Tryz.func116 rfl Tryz.ntmps116 Tryz.results116 ?_
  repeat' (first | apply triL_nil | (apply V;rfl;(first | (apply E_as;rfl) | (apply E_fa;(apply plT;rfl);rfl;rfl;decide) | (apply E_ld;(apply tyT;rfl);rfl;(first | (apply at_;rfl;rfl) | (apply at_old;assumption));rfl))) | (apply Vd;rfl;(apply E_seql;rfl;rfl);all_goals intro h_) | (apply Vw;rfl;(apply W_bxL;rfl;rfl;rfl)) | (apply s_region;rfl) | apply tri_ret | (apply end_q _ (.inr rfl);(exact List.prefix_append _ _);(focus repeat (first | apply R_nil | (apply R_tmp;rfl)));rfl))
  all_goals exact vB_of (by simp [h_])
theorem sp115 (p : List Cl) (name : ByteArray) (hp : p.length ≤ 1000000) : NC name 115 (fun id => [.d (encL encCl p),.fn 116 [.ptr id 0]]) (fun r => r = vI (findI p name)) := by
  intro S T M id hid
  refine callT_go [] [] Tryz.func115 rfl Tryz.ntmps115 Tryz.results115 ?_
  repeat' (first | apply triL_nil | (apply V;rfl;(first | (apply E_mv;rfl) | (apply E_as;rfl) | (apply E_len;(apply elT;rfl);rfl;rfl))) | (apply s_region;rfl) | apply tri_seq | apply tri_block)
  refine tri_fix (fun k : Nat => p.length - k) (fun k => [(0,.d (encL encCl p)),(1,.fn 116 [.ptr id 0]),(7,vI p.length),(8,vI k)]) (fun k => k ≤ p.length ∧ ∀ (i : Nat) (c : Cl),i < k → p[i]? = some c → c.name ≠ name) 0 ⟨Nat.zero_le _,fun i c h => by omega⟩ ⟨rfl,rfl,rfl,rfl,trivial⟩ ?_
  rintro k ⟨hk,hpre⟩
  repeat' (first | apply triL_nil | (apply V;rfl;(first | (apply E_mv;rfl) | (apply E_as;rfl))) | (apply Vd;rfl;(apply E_lss;rfl;rfl);all_goals intro h_) | (apply s_region;rfl) | apply tri_seq | apply tri_block | apply tri_skip | apply tri_exit | apply tri_ret | (apply tri_condT;rfl) | (apply tri_condF;rfl) | (apply end_q _ (.inr rfl);(exact List.prefix_append _ _);(focus repeat (first | apply R_nil | (apply R_tmp;rfl)));rfl) | apply p_then | apply p_in | apply p_thenE)
  · obtain ⟨c,hc⟩ : ∃ c,p[k]? = some c := ⟨_,List.getElem?_eq_getElem (by omega)⟩
    have h116 := sp116 c name
    by_cases hcn : c.name = name
    · rw [decide_eq_true hcn] at h116
      repeat' (first | apply triL_nil | (apply V;rfl;(first | (apply E_mv;rfl) | (apply E_as;rfl) | (apply E_lea;(apply tyT;rfl);rfl;(first | rfl | apply encEx_len | apply encSm_len)) | (apply E_ial (c := c);apply elT;rfl;rfl;rfl;rfl;exact encCl_len;omega;simpa using hc))) | (apply Vp;rfl;rfl;apply fnT;rfl;apply h116;(first | (apply at_old;assumption) | assumption);rintro _ rfl) | (apply s_region;rfl) | apply tri_ret | (apply tri_condT;rfl) | (apply end_q _ (.inr rfl);(exact List.prefix_append _ _);(focus repeat (first | apply R_nil | (apply R_tmp;rfl)));rfl) | apply p_inR | apply p_thenR)
      exact vI_ret (findI_at hc hcn hpre).symm
    · rw [decide_eq_false hcn] at h116
      repeat' (first | apply triL_nil | (apply V;rfl;(first | (apply E_mv;rfl) | (apply E_lea;(apply tyT;rfl);rfl;(first | rfl | apply encEx_len | apply encSm_len)) | (apply E_add64;rfl;rfl;rfl;omega) | (apply E_ial (c := c);apply elT;rfl;rfl;rfl;rfl;exact encCl_len;omega;simpa using hc))) | (apply Vp;rfl;rfl;apply fnT;rfl;apply h116;(first | (apply at_old;assumption) | assumption);rintro _ rfl) | (apply tri_region;rfl) | apply tri_skip | (apply tri_condF;rfl) | apply p_then | apply p_inN)
      refine ⟨k + 1,by omega,⟨by omega,fun i c' hi hc' => ?_⟩,⟨rfl,rfl,rfl,vI_of (by omega),trivial⟩,rfl⟩
      by_cases hik : i = k
      · subst hik
        obtain rfl := Option.some.inj (hc.symm.trans hc')
        assumption
      · exact hpre i c' (by omega) hc'
  · exact vI_ret (findI_none fun i c hc => hpre i c (by have := (List.getElem?_eq_some_iff.1 hc).1;omega) hc).symm
theorem sp83 (p : List Cl) (name : ByteArray) (hp : p.length ≤ 1000000) : PC 83 [vP p,vS name] (fun r => r = vI (findI p name)) := by
  have h115 := sp115 p name hp
  intro S T M
  refine callT_go [] [] Tryz.func83 rfl Tryz.ntmps83 Tryz.results83 ?_
  repeat' (first | apply triL_nil | (apply V;rfl;(first | (apply E_as;rfl) | (apply E_fa;(apply plT;rfl);rfl;rfl;decide) | (apply E_ld;(apply tyT;rfl);rfl;(apply at_;rfl;rfl);rfl) | (apply E_mf;rfl))) | (apply Vp;rfl;rfl;apply fnT;rfl;apply h115;(first | (apply at_;rfl;rfl) | (apply at_old;assumption) | assumption);rintro _ rfl) | (apply Vw;rfl;(apply W_bxL;rfl;rfl;rfl)) | (apply s_region;rfl) | apply tri_ret | (apply end_q _ (.inr rfl);(exact List.prefix_append _ _);(focus repeat (first | apply R_nil | (apply R_tmp;rfl)));rfl))
  rfl
theorem sp53 (p : List Cl) (a : ByteArray) (hp : p.length ≤ 1000000) : PC 53 [vP p,vS a] (fun r => r = vB (isC p a)) := by
  have h32 := sp82 a
  have h33 := sp83 p a hp
  unfold isC
  cases hb : inS BS a
  all_goals
    rw [hb] at h32
    intro S T M
    refine callT_go [] [] Tryz.func53 rfl Tryz.ntmps53 Tryz.results53 ?_
    repeat' (first | apply triL_nil | (apply V;rfl;(first | (apply E_mv;rfl) | (apply E_as;rfl) | (apply E_lda;(apply tyT;rfl);rfl;(apply at_;rfl;rfl);rfl) | (apply E_pkT;rfl;rfl) | (apply E_pkF;rfl;rfl))) | (apply Vp;rfl;rfl;apply fnT;rfl;apply h32;rintro _ rfl) | (apply Vp;rfl;rfl;apply fnT;rfl;apply h33;rintro _ rfl) | (apply Vd;rfl;(apply E_geq;rfl;rfl);all_goals intro h_) | (apply Vo;rfl) | (apply Vw;rfl;(apply W_bxL;rfl;rfl;rfl)) | (apply s_region;rfl) | apply tri_ret | (apply end_q _ (.inr rfl);(exact List.prefix_append _ _);(focus repeat (first | apply R_nil | (apply R_tmp;rfl)));rfl))
    all_goals first | exact vB_of rfl | exact vB_of (by simp [h_])
theorem sp55 (p : List Cl) (a : ByteArray) (hp : p.length ≤ 1000000) : PC 55 [vP p,vS a] (fun r => r = vS (supC p a)) := by
  have h32 := sp82 a
  have h33 := sp83 p a hp
  unfold supC
  rcases findI_spec p a with ⟨hf,_⟩ | ⟨j,hj,hf,_,_⟩
  · cases hb : inS BS a
    all_goals
      rw [hb] at h32
      rw [hf] at h33
      intro S T M
      refine callT_go [] [] Tryz.func55 rfl Tryz.ntmps55 Tryz.results55 ?_
      repeat' (first | apply triL_nil | (apply V;rfl;(first | (apply E_mv;rfl) | (apply E_as;rfl) | (apply E_fa;(apply plT;rfl);rfl;rfl;decide) | (apply E_lda;(apply tyT;rfl);rfl;(apply at_;rfl;rfl);rfl) | (apply E_ld;(apply tyT;rfl);rfl;(apply at_;rfl;rfl);rfl))) | (apply Vp;rfl;rfl;apply fnT;rfl;apply h32;rintro _ rfl) | (apply Vp;rfl;rfl;apply fnT;rfl;apply h33;rintro _ rfl) | (apply Vd;rfl;(first | (apply E_lss;rfl;rfl) | (apply E_seql;rfl;rfl));all_goals intro h_) | (apply Vw;rfl;(apply W_bxL;rfl;rfl;rfl)) | (apply s_region;rfl) | apply tri_seq | apply tri_skip | apply tri_ret | (apply tri_condT;rfl) | (apply tri_condF;rfl) | (apply end_q _ (.inr rfl);(exact List.prefix_append _ _);(focus repeat (first | apply R_nil | (apply R_tmp;rfl)));rfl) | apply p_then | apply p_thenR | (show TriL _ _ _ _ _ _;exfalso;omega))
      all_goals first | (exfalso;omega) | exact vS_of (by rw [if_pos rfl,if_pos (show a = EXC from h_)];rfl) | exact vS_of (by rw [if_pos rfl,if_neg (show ¬ a = EXC from h_)];rfl) | exact vS_of (by rw [if_neg (by decide),if_pos (by omega)];rfl)
  · obtain ⟨c,hc⟩ : ∃ c,p[j]? = some c := ⟨_,List.getElem?_eq_getElem hj⟩
    cases hb : inS BS a
    all_goals
      rw [hb] at h32
      rw [hf] at h33
      intro S T M
      refine callT_go [] [] Tryz.func55 rfl Tryz.ntmps55 Tryz.results55 ?_
      repeat' (first | apply triL_nil | (apply V;rfl;(first | (apply E_mv;rfl) | (apply E_as;rfl) | (apply E_fa;(apply plT;rfl);rfl;rfl;decide) | (apply E_fe;(apply plT;rfl);rfl;rfl;decide) | (apply E_lda;(apply tyT;rfl);rfl;(apply at_;rfl;rfl);rfl) | (apply E_ld;(apply tyT;rfl);rfl;(apply at_;rfl;rfl);rfl) | (apply E_le;(apply tyT;rfl);rfl;rfl) | (apply E_ial (c := c);apply elT;rfl;rfl;rfl;rfl;exact encCl_len;omega;simpa using hc))) | (apply Vp;rfl;rfl;apply fnT;rfl;apply h32;rintro _ rfl) | (apply Vp;rfl;rfl;apply fnT;rfl;apply h33;rintro _ rfl) | (apply Vd;rfl;(first | (apply E_lss;rfl;rfl) | (apply E_seql;rfl;rfl));all_goals intro h_) | (apply Vw;rfl;(apply W_bxL;rfl;rfl;rfl)) | (apply s_region;rfl) | apply tri_seq | apply tri_skip | apply tri_ret | (apply tri_condT;rfl) | (apply tri_condF;rfl) | (apply end_q _ (.inr rfl);(exact List.prefix_append _ _);(focus repeat (first | apply R_nil | (apply R_tmp;rfl)));rfl) | apply p_then | apply p_thenR)
      all_goals first | (exfalso;omega) | exact vS_of (by rw [if_pos rfl,if_pos (show a = EXC from h_)];rfl) | exact vS_of (by rw [if_pos rfl,if_neg (show ¬ a = EXC from h_)];rfl) | exact vS_of (by rw [if_neg (by decide),if_neg (by omega),hf];unfold clAt;rw [show ((j : Int)).toNat = j from rfl,hc];rfl)
theorem sp29 (p : List Cl) (a0 : ByteArray) (hp : p.length ≤ 1000000) : PC 29 [vP p,vS a0] (fun r => r = .d (encL encStr (chC p a0))) := by
  intro S T M
  refine callT_go [] [] Tryz.func29 rfl Tryz.ntmps29 Tryz.results29 ?_
  repeat' (first | apply triL_nil | (apply V;rfl;(apply E_as;rfl)) | (apply Vw;rfl;(apply W_bxL;rfl;rfl;rfl)) | (apply s_region;rfl) | apply tri_seq | apply tri_block)
  refine tri_ownX 5 9 1 rfl rfl ?_
  refine tri_grow (fun k : Nat × ByteArray × List ByteArray => k.1) (fun k => [(1,vS k.2.1),(2,.ptr (S.length + 0) 0),(5,.own 9 1 (T.length + 0) (k.2.2.flatMap encStr) k.2.2.length)]) (fun k S1 T1 => k.2.2.Nodup ∧ (∀ x ∈ k.2.2,isC p x = true) ∧ k.2.2.length + k.1 = p.length + 6 ∧ chG p k.1 k.2.1 k.2.2 = chC p a0 ∧ S.length ≤ S1.length ∧ T <+: T1 ∧ S1[S.length + 0]? = some ([.d (encL encCl p)],25) ∧ T1[T.length + 0]? = some (k.2.2.flatMap encStr).length) (p.length + 6,a0,[]) ⟨by simp,by simp,by simp,rfl,by simp,by simp,at_ rfl rfl,by simp⟩ ⟨rfl,rfl,rfl,trivial⟩ ?_
  rintro ⟨n,a,acc⟩ S1 T1 ⟨hn,hs,he,hch,hS,hT,hb,hTg⟩
  dsimp only at hn hs he hch hTg ⊢
  have hlen := room hn hs
  obtain ⟨m,rfl⟩ : ∃ m,n = m + 1 := ⟨n - 1,by omega⟩
  rw [chG] at hch
  have h25 := sp53 p a hp
  have h14 := sp55 p a hp
  have h54 := sp54 acc a (by omega)
  cases hi : isC p a
  · rw [hi] at h25 hch
    rw [if_neg (by decide)] at hch
    repeat' (first | apply triL_nil | (apply V;rfl;(first | (apply E_mv;rfl) | (apply E_as;rfl) | (apply E_lda;(apply tyT;rfl);rfl;(apply at_old;assumption);rfl) | (apply E_pkF;rfl;rfl))) | (apply Vp;rfl;rfl;apply fnT;rfl;apply h25;rintro _ rfl) | (apply Vo;rfl) | (apply s_region;rfl) | apply tri_seq | apply tri_exit | apply tri_ret | (apply tri_condF;rfl) | (apply end_q _ (.inr rfl);(apply pre_app;assumption);(focus repeat (first | apply R_nil | (apply R_tmp;rfl)));rfl) | apply p_then | apply p_in | apply p_thenE)
    rw [← hch]
    rfl
  · rw [hi] at h25 hch
    rw [if_pos rfl] at hch
    cases hin : inS acc a
    · rw [hin] at h54 hch
      rw [if_neg (by decide)] at hch
      repeat' (first | apply triL_nil | (apply V;rfl;(first | (apply E_mv;rfl) | (apply E_as;rfl) | (apply E_lda;(apply tyT;rfl);rfl;(apply at_old;assumption);rfl) | (apply E_pkT;rfl;rfl) | (apply E_not;rfl))) | (apply Vp;rfl;rfl;apply fnT;rfl;apply h25;rintro _ rfl) | (apply Vp;rfl;rfl;apply fnT;rfl;apply call_wk;rfl;apply h54;rintro _ rfl) | (apply Vp;rfl;rfl;apply fnT;rfl;apply h14;rintro _ rfl) | (apply Vw;rfl;(first | (apply W_bsL;rfl;(apply elT;rfl);(apply tyT;rfl);rfl;decide;rfl;rfl) | (apply W_ap;(apply elT;rfl);(apply tyT;rfl);(apply byT;rfl);rfl;rfl;rfl;decide;rfl;(apply A_ownLO (c := a);omega;omega;assumption)))) | (apply s_region;rfl) | apply tri_seq | (apply tri_region;rfl) | apply tri_block | apply tri_skip | (apply tri_condT;rfl) | apply p_then | apply p_inN)
      have hna : a ∉ acc := inS_false.1 hin
      refine ⟨(m,supC p a,acc ++ [a]),_,_,by dsimp only;omega,⟨nodup_snoc hn hna,fun x hx => ?_,by simp only [List.length_append,List.length_singleton];omega,hch,by simp only [List.length_append];omega,pre_app (pre_set hT (by omega)),at_old hb,at_set (List.getElem?_eq_some_iff.1 hTg).1⟩,⟨rfl,rfl,rfl,trivial⟩,rfl⟩
      rcases List.mem_append.1 hx with h | h
      · exact hs x h
      · rw [List.mem_singleton.1 h]
        exact hi
    · rw [hin] at h54 hch
      rw [if_pos rfl] at hch
      repeat' (first | apply triL_nil | (apply V;rfl;(first | (apply E_mv;rfl) | (apply E_as;rfl) | (apply E_lda;(apply tyT;rfl);rfl;(apply at_old;assumption);rfl) | (apply E_pkT;rfl;rfl) | (apply E_not;rfl))) | (apply Vp;rfl;rfl;apply fnT;rfl;apply h25;rintro _ rfl) | (apply Vp;rfl;rfl;apply fnT;rfl;apply call_wk;rfl;apply h54;rintro _ rfl) | (apply s_region;rfl) | apply tri_seq | apply tri_exit | apply tri_ret | (apply tri_condF;rfl) | (apply end_q _ (.inr rfl);(apply pre_app;assumption);(focus repeat (first | apply R_nil | (apply R_tmp;rfl)));rfl) | apply p_then | apply p_in | apply p_thenE)
      rw [← hch]
      rfl
theorem sp52 (p : List Cl) (a : ByteArray) (hp : p.length ≤ 1000000) : PC 52 [vP p,vS a] (fun r => r = vB (typeC p a)) := by
  have h25 := sp53 p a hp
  unfold typeC
  cases hb : isC p a
  all_goals
    rw [hb] at h25
    intro S T M
    refine callT_go [] [] Tryz.func52 rfl Tryz.ntmps52 Tryz.results52 ?_
    repeat' (first | apply triL_nil | (apply V;rfl;(first | (apply E_mv;rfl) | (apply E_as;rfl) | (apply E_lda;(apply tyT;rfl);rfl;(apply at_;rfl;rfl);rfl) | (apply E_pkT;rfl;rfl) | (apply E_pkF;rfl;rfl))) | (apply Vp;rfl;rfl;apply fnT;rfl;apply h25;rintro _ rfl) | (apply Vd;rfl;(apply E_seql;rfl;rfl);all_goals intro h_) | (apply Vo;rfl) | (apply Vw;rfl;(apply W_bxL;rfl;rfl;rfl)) | (apply s_region;rfl) | apply tri_ret | (apply end_q _ (.inr rfl);(exact List.prefix_append _ _);(focus repeat (first | apply R_nil | (apply R_tmp;rfl)));rfl))
    all_goals exact vB_of (by simp_all)
end Go.Proofs.YtokilnhpepbjlaaGreat
namespace Go.Proofs.YtokilnhpepbjlaaGreat
open Go Go.RowKit Go.Proofs.YtokilnhpepbjlaaGreat.Calc
set_option linter.unusedVariables false
set_option linter.unusedSimpArgs false
set_option maxRecDepth 100000
set_option maxHeartbeats 8000000
def nifOf (P : Program) (t : Nat) : Bool := match P.underlying t with
  | some (.interface _) => false
  | some _ => true
  | none => false
section
variable {P : Program} {st : St} {ρ : Rg} {x : Operand} {t u : Nat}
theorem E_mi {d : DV} (hn : nifOf P t = true) (hx : (evB ρ x).bind toD = some d) : stepV P st ρ (.makeInterface t x) = some (.d (.iface t d)) := by
  unfold nifOf at hn
  unfold stepV
  split at hn
  · cases hn
  · rename_i d' h1 h2
    simp only [h2]
    rw [hx]
    cases d' <;> first | rfl | (exfalso;exact h1 _ h2)
  · cases hn
theorem E_taT {d : DV} {ag : Bool} {sz : Nat} {z : List BV} (hn : nifOf P t = true) (ht : tyOf P t = some (ag,sz,z)) (hx : evB ρ x = some (.d (.iface t d))) : stepV P st ρ (.typeAssert x u t true) = some (.tup [ofD d,vB true]) := by
  unfold nifOf at hn
  unfold stepV
  split at hn
  · cases hn
  · rename_i d' h1 h2
    simp only [h2,hx,ht]
    cases d' <;> first | rfl | (exfalso;exact h1 _ h2)
  · cases hn
theorem E_taF {sz : Nat} {z : List BV} (hn : nifOf P t = true) (ht : tyOf P t = some (true,sz,z)) (hx : evB ρ x = some (.d (.flat .nilIface))) : stepV P st ρ (.typeAssert x u t true) = some (.tup [.agg z,vB false]) := by
  unfold nifOf at hn
  unfold stepV
  split at hn
  · cases hn
  · rename_i d' h1 h2
    simp only [h2,hx,ht]
    cases d' <;> first | rfl | (exfalso;exact h1 _ h2)
  · cases hn
end
theorem nif114 : nifOf Tryz.prog 114 = true := by kernel_rfl
attribute [local irreducible] Tri TriL TriP CallT stepV stepW thenQ inQ endQ
abbrev QC (p : List Cl) (f : Nat) (args : Nat → List BV) (R : BV → Prop) : Prop := ∀ S T M id,S[id]? = some ([.d (encL encCl p)],25) → CallT Tryz.prog [] [] f (args id) ⟨S,T,M⟩ (fun r s => s = ⟨S,T,M⟩ ∧ R r)
def g81 (p : List Cl) (k : Nat) (c : Cl) : Int := if inS BS c.name = true ∨ findI p c.name < k then 6 else 0
def g84 (p : List Cl) (k : Nat) (c : Cl) : Int := if c.super = NIL then 0 else if isC p c.super = false then 7 else if inS (chC p c.name) (supC p (lastS (chC p c.name))) = true then 8 else 0
theorem sp81 (p : List Cl) (k : Nat) (c : Cl) (hp : p.length ≤ 1000000) : QC p 81 (fun id => [vI k,.agg ((encCl c).map .d),.ptr id 0]) (fun r => r = vI (g81 p k c)) := by
  have h82 := sp82 c.name
  have h83 := sp83 p c.name hp
  unfold g81
  cases hb : inS BS c.name
  all_goals
    rw [hb] at h82
    intro S T M id hid
    refine callT_go [] [] Tryz.func81 rfl Tryz.ntmps81 Tryz.results81 ?_
    repeat' (first | apply triL_nil | (apply V;rfl;(first | (apply E_mv;rfl) | (apply E_as;rfl) | (apply E_fa;(apply plT;rfl);rfl;rfl;decide) | (apply E_lda;(apply tyT;rfl);rfl;(first | (apply at_;rfl;rfl) | (apply at_old;assumption));rfl) | (apply E_ld;(apply tyT;rfl);rfl;(first | (apply at_;rfl;rfl) | (apply at_old;assumption));rfl) | (apply E_pkT;rfl;rfl) | (apply E_pkF;rfl;rfl))) | (apply Vp;rfl;rfl;apply fnT;rfl;apply h82;rintro _ rfl) | (apply Vp;rfl;rfl;apply fnT;rfl;apply h83;rintro _ rfl) | (apply Vd;rfl;(apply E_lss;rfl;rfl);all_goals intro h_) | (apply Vo;rfl) | (apply Vw;rfl;(apply W_bxL;rfl;rfl;rfl)) | (apply s_region;rfl) | apply tri_seq | apply tri_skip | apply tri_ret | (apply tri_condT;rfl) | (apply tri_condF;rfl) | (apply end_q _ (.inr rfl);(exact List.prefix_append _ _);(focus repeat (first | apply R_nil | (apply R_tmp;rfl)));rfl) | apply p_then | apply p_thenR)
    all_goals exact vI_ret (by simp_all)
theorem sp84 (p : List Cl) (k : Nat) (c : Cl) (hp : p.length ≤ 1000000) (hc : c ∈ p) : QC p 84 (fun id => [vI k,.agg ((encCl c).map .d),.ptr id 0]) (fun r => r = vI (g84 p k c)) := by
  have h53 := sp53 p c.super hp
  have h29 := sp29 p c.name hp
  have hin : isC p c.name = true := by
    unfold isC
    rw [Bool.or_eq_true]
    exact .inr (decide_eq_true (mem_fi hc))
  obtain ⟨U,hU⟩ := ch_self hin
  have hlen := ch_len p c.name
  have hlast : (chC p c.name)[(((chC p c.name).length : Int) - 1).toNat]? = some (lastS (chC p c.name)) := by
    unfold lastS
    rw [show (((chC p c.name).length : Int) - 1).toNat = (chC p c.name).length - 1 by omega]
    rw [List.getElem?_eq_getElem (by rw [hU];simp)]
    rfl
  have hpos : 0 < (chC p c.name).length := by rw [hU];simp
  have h55 := sp55 p (lastS (chC p c.name)) hp
  have h54 := sp54 (chC p c.name) (supC p (lastS (chC p c.name))) (by omega)
  unfold g84
  generalize lastS (chC p c.name) = z at *
  generalize supC p z = z' at *
  cases hi : isC p c.super <;> cases hj : inS (chC p c.name) z'
  all_goals
    rw [hi] at h53
    rw [hj] at h54
    intro S T M id hid
    refine callT_go [] [] Tryz.func84 rfl Tryz.ntmps84 Tryz.results84 ?_
    repeat' (first | apply triL_nil | (apply V;rfl;(first | (apply E_mv;rfl) | (apply E_as;rfl) | (apply E_fa;(apply plT;rfl);rfl;rfl;decide) | (apply E_lda;(apply tyT;rfl);rfl;(first | (apply at_;rfl;rfl) | (apply at_old;assumption));rfl) | (apply E_ld;(apply tyT;rfl);rfl;(first | (apply at_;rfl;rfl) | (apply at_old;assumption));rfl) | (apply E_le;(apply tyT;rfl);rfl;rfl) | (apply E_len;(apply elT;rfl);rfl;rfl) | (apply E_not;rfl) | (apply E_sub64;rfl;rfl;rfl;omega) | (apply E_ial (c := z);apply elT;rfl;rfl;rfl;rfl;exact encStr_len;omega;exact hlast))) | (apply s_drawn (nt := 31) (.take 0 (.take 1 (.take 2 (.take 3 (.take 4 (.take 5 (.take 6 (.one 7 (.take 8 .nil))))))))) [] [];exact mixed;rfl;decide +kernel) | (apply Vp;rfl;rfl;apply fnT;rfl;apply h53;rintro _ rfl) | (apply Vp;rfl;rfl;apply fnT;rfl;apply h29;rintro _ rfl) | (apply oP;rfl;rfl;rfl;apply fnT;rfl;apply h55;rintro _ rfl) | (apply Vp;rfl;rfl;apply fnT;rfl;apply h54;rintro _ rfl) | (apply Vd;rfl;(apply E_seql;rfl;rfl);all_goals intro h_) | (apply Vw;rfl;(apply W_bxL;rfl;rfl;rfl)) | (apply s_region;rfl) | apply tri_seq | apply tri_skip | apply tri_ret | (apply tri_condT;rfl) | (apply tri_condF;rfl) | (apply end_q _ (.inr rfl);(exact List.prefix_append _ _);(focus repeat (first | apply R_nil | (apply R_tmp;rfl)));rfl) | apply p_then | apply p_thenR | apply d_nil | (apply tV;rfl;rfl;(first | (apply E_mv;rfl) | (apply E_as;rfl) | (apply E_fa;(apply plT;rfl);rfl;rfl;decide) | (apply E_lda;(apply tyT;rfl);rfl;(first | (apply at_;rfl;rfl) | (apply at_old;assumption));rfl) | (apply E_ld;(apply tyT;rfl);rfl;(first | (apply at_;rfl;rfl) | (apply at_old;assumption));rfl) | (apply E_le;(apply tyT;rfl);rfl;rfl) | (apply E_len;(apply elT;rfl);rfl;rfl) | (apply E_not;rfl) | (apply E_sub64;rfl;rfl;rfl;omega) | (apply E_ial (c := z);apply elT;rfl;rfl;rfl;rfl;exact encStr_len;omega;exact hlast));rfl))
    all_goals exact vI_ret (by unfold NIL;simp_all)
def lookG (g : Nat → Cl → Int) : List Cl → Nat → Option (Int × Nat)
  | [],_ => none
  | c :: l,k => if g k c ≠ 0 then some (g k c,k) else lookG g l (k + 1)
def vLook : Option (Int × Nat) → BV
  | none => .d (.flat .nilIface)
  | some (e,k) => .d (.iface 114 (.agg [dI e,dI k]))
theorem sp80 (p : List Cl) (f : Nat) (g : Nat → Cl → Int) (hf : fnOK Tryz.prog f = true) (hp : p.length ≤ 1000000) (h : ∀ (k : Nat) (c : Cl),p[k]? = some c → QC p f (fun id => [vI k,.agg ((encCl c).map .d),.ptr id 0]) (fun r => r = vI (g k c))) : QC p 80 (fun id => [vP p,.fn f [.ptr id 0]]) (fun r => r = vLook (lookG g p 0)) := by
  intro S T M id hid
  refine callT_go [] [] Tryz.func80 rfl Tryz.ntmps80 Tryz.results80 ?_
  repeat' (first | apply triL_nil | (apply V;rfl;(first | (apply E_mv;rfl) | (apply E_as;rfl) | (apply E_fa;(apply plT;rfl);rfl;rfl;decide) | (apply E_ld;(apply tyT;rfl);rfl;(apply at_;rfl;rfl);rfl) | (apply E_len;(apply elT;rfl);rfl;rfl))) | (apply Vw;rfl;(apply W_bxL;rfl;rfl;rfl)) | (apply s_region;rfl) | apply tri_seq | apply tri_block)
  refine tri_grow (fun k : Nat => p.length - k) (fun k => [(1,.fn f [.ptr id 0]),(9,.d (encL encCl p)),(10,vI p.length),(11,vI k)]) (fun k S1 T1 => k ≤ p.length ∧ S.length ≤ S1.length ∧ T <+: T1 ∧ S1[id]? = some ([.d (encL encCl p)],25) ∧ lookG g p 0 = lookG g (p.drop k) k) 0 ⟨Nat.zero_le _,by simp,by simp,by first | exact at_old hid | exact hid,by rw [List.drop_zero]⟩ ⟨rfl,rfl,rfl,rfl,trivial⟩ ?_
  rintro k S1 T1 ⟨hk,hS,hT,hb,hl⟩
  repeat' (first | apply triL_nil | (apply V;rfl;(first | (apply E_mv;rfl) | (apply E_as;rfl))) | (apply Vd;rfl;(apply E_lss;rfl;rfl);all_goals intro h_) | (apply s_region;rfl) | apply tri_seq | apply tri_block | apply tri_skip | apply tri_exit | apply tri_ret | (apply tri_condT;rfl) | (apply tri_condF;rfl) | (apply end_q _ (.inr rfl);(apply pre_app;assumption);(focus repeat (first | apply R_nil | (apply R_tmp;rfl)));rfl) | apply p_then | apply p_in | apply p_thenE)
  · obtain ⟨c,hc⟩ : ∃ c,p[k]? = some c := ⟨_,List.getElem?_eq_getElem (by omega)⟩
    rw [drop_at hc,lookG] at hl
    have hlaw := h k c hc
    repeat' (first | apply triL_nil | (apply V;rfl;(first | (apply E_mv;rfl) | (apply E_as;rfl) | (apply E_lda;(apply tyT;rfl);rfl;(apply at_;rfl;rfl);rfl) | (apply E_lea;(apply tyT;rfl);rfl;(first | rfl | apply encEx_len | apply encSm_len)) | (apply E_bd;(apply plT;rfl);rfl) | (apply E_add64;rfl;rfl;rfl;omega) | (apply E_ial (c := c);apply elT;rfl;rfl;rfl;rfl;exact encCl_len;omega;simpa using hc) | (apply E_mi;exact nif114;rfl))) | (apply Vp;rfl;rfl;exact hf;apply hlaw;(first | (apply at_old;assumption) | assumption);rintro _ rfl) | (apply Vd;rfl;(apply E_neq;rfl;rfl);all_goals intro h_) | (apply Vw;rfl;(apply W_alL;rfl;(apply tyT;rfl))) | (apply Vs;rfl;(apply W_stL;rfl;(apply tyT;rfl);rfl;rfl;rfl;(first | apply okC_new | (apply okC_ge;omega));rfl;rfl;(first | decide | (apply Nat.le_of_ble_eq_true;rfl)))) | (apply s_region;rfl) | (apply tri_region;rfl) | apply tri_skip | apply tri_ret | (apply tri_condT;rfl) | (apply tri_condF;rfl) | (apply end_q _ (.inr rfl);(apply pre_app;assumption);(focus repeat (first | apply R_nil | (apply R_tmp;rfl)));rfl) | apply p_then | apply p_inN | apply p_inR | apply p_thenR)
    · rw [if_pos h_] at hl
      rw [hl]
      rfl
    · rw [if_neg h_] at hl
      exact ⟨k + 1,_,_,by omega,⟨by omega,by simp only [List.length_append];omega,pre_app hT,at_old hb,hl⟩,⟨rfl,rfl,rfl,vI_of (by omega),trivial⟩,rfl⟩
  · rw [List.drop_of_length_le (by omega),lookG] at hl
    rw [hl]
    rfl
end Go.Proofs.YtokilnhpepbjlaaGreat
namespace Go.Proofs.YtokilnhpepbjlaaGreat
open Go Go.RowKit Go.Proofs.YtokilnhpepbjlaaGreat.Calc
set_option linter.unusedVariables false
set_option linter.unusedSimpArgs false
set_option maxRecDepth 100000
set_option maxHeartbeats 8000000
attribute [local irreducible] Tri TriL TriP CallT stepV stepW thenQ inQ endQ
theorem findI_le {p : List Cl} {k : Nat} {c : Cl} (hc : p[k]? = some c) : 0 ≤ findI p c.name ∧ findI p c.name ≤ k := by
  obtain ⟨hk,rfl⟩ := List.getElem?_eq_some_iff.1 hc
  rcases findI_spec p (p[k]).name with ⟨_,h⟩ | ⟨j,hj,h1,h2,h3⟩
  · exact absurd rfl (h _ (List.getElem_mem hk))
  · rw [h1]
    refine ⟨by omega,?_⟩
    by_cases hjk : j ≤ k
    · omega
    · exact absurd rfl (h3 k (by omega))
theorem drop_cons {α : Type} {p l : List α} {i : Nat} {c : α} (h : p.drop i = c :: l) : p[i]? = some c ∧ p.drop (i + 1) = l := by
  have hl : i < p.length := by
    by_cases hl : i < p.length
    · exact hl
    · rw [List.drop_of_length_le (by omega)] at h
      cases h
  rw [List.drop_eq_getElem_cons hl] at h
  injection h with h1 h2
  exact ⟨by rw [List.getElem?_eq_getElem hl,h1],h2⟩
theorem look1_eq (p : List Cl) : ∀ (l : List Cl) (i : Nat),p.drop i = l → lookG (g81 p) l i = (chk1 p l i).map fun i => (6,i)
  | [],i,h => rfl
  | c :: l,i,h => by
    obtain ⟨hc,h'⟩ := drop_cons h
    have hle := findI_le hc
    have ih := look1_eq p l (i + 1) h'
    rw [lookG,chk1]
    have e : (inS BS c.name = true ∨ findI p c.name < i) ↔ (inS BS c.name = true ∨ findI p c.name ≠ i) := by
      constructor
      · rintro (h | h)
        · exact .inl h
        · exact .inr (by omega)
      · rintro (h | h)
        · exact .inl h
        · exact .inr (by omega)
    by_cases hq : inS BS c.name = true ∨ findI p c.name < i
    · have : g81 p i c = 6 := by unfold g81;rw [if_pos hq]
      rw [if_pos (by rw [this];decide),this,if_pos (e.1 hq)]
      rfl
    · have : g81 p i c = 0 := by unfold g81;rw [if_neg hq]
      rw [if_neg (by rw [this];decide),if_neg (fun h => hq (e.2 h))]
      exact ih
theorem last_in (p : List Cl) (c : Cl) (hc : c ∈ p) : inS (chC p c.name) (supC p (lastS (chC p c.name))) = isC p (supC p (lastS (chC p c.name))) := by
  have hin : isC p c.name = true := by
    unfold isC
    rw [Bool.or_eq_true]
    exact .inr (decide_eq_true (mem_fi hc))
  obtain ⟨U,hU⟩ := ch_self hin
  obtain ⟨z,hw,hz,_⟩ := ch_walk p c.name
  rw [hw.last (by rw [hU];simp)]
  rw [Bool.eq_iff_iff,inS_iff]
  constructor
  · intro h
    exact hw.all z h
  · intro h
    rcases hz with hz | hz
    · rw [h] at hz;cases hz
    · exact hz
theorem look2_eq (p : List Cl) : ∀ (l : List Cl) (i : Nat),p.drop i = l → lookG (g84 p) l i = chk2 p l i
  | [],i,h => rfl
  | c :: l,i,h => by
    obtain ⟨hc,h'⟩ := drop_cons h
    have ih := look2_eq p l (i + 1) h'
    have hlast := last_in p c (List.mem_of_getElem? hc)
    rw [lookG,chk2]
    by_cases h1 : c.super = NIL
    · have hg : g84 p i c = 0 := by unfold g84;rw [if_pos h1]
      rw [if_neg (show ¬ (g84 p i c ≠ 0) by rw [hg];decide),if_pos h1]
      exact ih
    · rw [if_neg h1]
      cases h2 : isC p c.super
      · have hg : g84 p i c = 7 := by unfold g84;rw [if_neg h1,h2];rfl
        rw [if_pos (show g84 p i c ≠ 0 by rw [hg];decide),hg,if_pos rfl]
      · rw [if_neg (show ¬ (true = false) by decide)]
        cases h3 : isC p (supC p (lastS (chC p c.name)))
        · have hg : g84 p i c = 0 := by unfold g84;rw [if_neg h1,h2,hlast,h3];rfl
          rw [if_neg (show ¬ (g84 p i c ≠ 0) by rw [hg];decide),if_neg (show ¬ (false = true) by decide)]
          exact ih
        · have hg : g84 p i c = 8 := by unfold g84;rw [if_neg h1,h2,hlast,h3];rfl
          rw [if_pos (show g84 p i c ≠ 0 by rw [hg];decide),hg,if_pos rfl]
theorem sp49 (p : List Cl) (hp : p.length ≤ 1000000) : PC 49 [vP p] (fun r => r = .tup [vI (checkC p).1,vI (checkC p).2]) := by
  have ha := sp80 p 81 (g81 p) (fnT rfl) hp fun k c hc => sp81 p k c hp
  have hb := sp80 p 84 (g84 p) (fnT rfl) hp fun k c hc => sp84 p k c hp (List.mem_of_getElem? hc)
  rw [look1_eq p p 0 rfl] at ha
  rw [look2_eq p p 0 rfl] at hb
  unfold checkC
  rcases h1 : chk1 p p 0 with _ | i
  · rw [h1] at ha
    rcases h2 : chk2 p p 0 with _ | ⟨e,j⟩
    · rw [h2] at hb
      intro S T M
      refine callT_go [] [] Tryz.func49 rfl Tryz.ntmps49 Tryz.results49 ?_
      repeat' (first | apply triL_nil | (apply V;rfl;(first | (apply E_mv;rfl) | (apply E_as;rfl) | (apply E_lda;(apply tyT;rfl);rfl;(apply at_;rfl;rfl);rfl) | (apply E_ex;rfl;rfl) | (apply E_mf;rfl) | (apply E_mf;rfl) | (apply E_taF;exact nif114;apply tyT;rfl;rfl))) | (apply Vp;rfl;rfl;apply fnT;rfl;apply ha;(first | (apply at_;rfl;rfl) | (apply at_old;assumption) | assumption);rintro _ rfl) | (apply Vp;rfl;rfl;apply fnT;rfl;apply hb;(first | (apply at_;rfl;rfl) | (apply at_old;assumption) | assumption);rintro _ rfl) | (apply Vw;rfl;(first | (apply W_alL;rfl;(apply tyT;rfl)) | (apply W_bxL;rfl;rfl;rfl))) | (apply Vs;rfl;(apply W_stL;rfl;(apply tyT;rfl);rfl;rfl;rfl;(first | apply okC_new | (apply okC_ge;omega));rfl;rfl;(first | decide | (apply Nat.le_of_ble_eq_true;rfl)))) | (apply s_region;rfl) | apply tri_seq | apply tri_skip | apply tri_ret | (apply tri_condF;rfl) | (apply end_q _ (.inr rfl);(exact List.prefix_append _ _);(focus repeat (first | apply R_nil | (apply R_tmp;rfl)));rfl) | apply p_then)
      rfl
    · rw [h2] at hb
      intro S T M
      refine callT_go [] [] Tryz.func49 rfl Tryz.ntmps49 Tryz.results49 ?_
      repeat' (first | apply triL_nil | (apply V;rfl;(first | (apply E_mv;rfl) | (apply E_as;rfl) | (apply E_fa;(apply plT;rfl);rfl;rfl;decide) | (apply E_lda;(apply tyT;rfl);rfl;(apply at_;rfl;rfl);rfl) | (apply E_ld;(apply tyT;rfl);rfl;(apply at_;rfl;rfl);rfl) | (apply E_ex;rfl;rfl) | (apply E_mf;rfl) | (apply E_mf;rfl) | (apply E_taF;exact nif114;apply tyT;rfl;rfl) | (apply E_taT;exact nif114;apply tyT;rfl;rfl))) | (apply s_drawn (nt := 32) (.take 0 (.take 1 (.take 2 (.take 3 (.take 4 (.take 5 .nil)))))) [] [];exact mixed;rfl;decide +kernel) | (apply s_drawn (nt := 32) (.take 0 (.take 1 (.take 2 (.take 3 (.take 4 (.take 5 .nil)))))) [] [];exact mixed;rfl;decide +kernel) | (apply Vp;rfl;rfl;apply fnT;rfl;apply ha;(first | (apply at_;rfl;rfl) | (apply at_old;assumption) | assumption);rintro _ rfl) | (apply Vp;rfl;rfl;apply fnT;rfl;apply hb;(first | (apply at_;rfl;rfl) | (apply at_old;assumption) | assumption);rintro _ rfl) | (apply Vw;rfl;(first | (apply W_alL;rfl;(apply tyT;rfl)) | (apply W_bxL;rfl;rfl;rfl))) | (apply Vs;rfl;(apply W_stL;rfl;(apply tyT;rfl);rfl;rfl;rfl;(first | apply okC_new | (apply okC_ge;omega));rfl;rfl;(first | decide | (apply Nat.le_of_ble_eq_true;rfl)))) | (apply s_region;rfl) | apply tri_seq | apply tri_skip | apply tri_ret | (apply tri_condT;rfl) | (apply tri_condF;rfl) | (apply end_q _ (.inr rfl);(exact List.prefix_append _ _);(focus repeat (first | apply R_nil | (apply R_tmp;rfl)));rfl) | apply p_then | apply p_thenR | apply d_nil | (apply tV;rfl;rfl;(first | (apply E_mv;rfl) | (apply E_as;rfl) | (apply E_fa;(apply plT;rfl);rfl;rfl;decide) | (apply E_lda;(apply tyT;rfl);rfl;(apply at_;rfl;rfl);rfl) | (apply E_ld;(apply tyT;rfl);rfl;(apply at_;rfl;rfl);rfl) | (apply E_ex;rfl;rfl) | (apply E_mf;rfl) | (apply E_mf;rfl) | (apply E_taF;exact nif114;apply tyT;rfl;rfl) | (apply E_taT;exact nif114;apply tyT;rfl;rfl));rfl))
      rfl
  · rw [h1] at ha
    intro S T M
    refine callT_go [] [] Tryz.func49 rfl Tryz.ntmps49 Tryz.results49 ?_
    repeat' (first | apply triL_nil | (apply V;rfl;(first | (apply E_mv;rfl) | (apply E_as;rfl) | (apply E_fa;(apply plT;rfl);rfl;rfl;decide) | (apply E_lda;(apply tyT;rfl);rfl;(apply at_;rfl;rfl);rfl) | (apply E_ld;(apply tyT;rfl);rfl;(apply at_;rfl;rfl);rfl) | (apply E_ex;rfl;rfl) | (apply E_mf;rfl) | (apply E_mf;rfl) | (apply E_taT;exact nif114;apply tyT;rfl;rfl))) | (apply s_drawn (nt := 32) (.take 0 (.take 1 (.take 2 (.take 3 (.take 4 (.take 5 .nil)))))) [] [];exact mixed;rfl;decide +kernel) | (apply s_drawn (nt := 32) (.take 0 (.take 1 (.take 2 (.take 3 (.take 4 (.take 5 .nil)))))) [] [];exact mixed;rfl;decide +kernel) | (apply Vp;rfl;rfl;apply fnT;rfl;apply ha;(first | (apply at_;rfl;rfl) | (apply at_old;assumption) | assumption);rintro _ rfl) | (apply Vw;rfl;(first | (apply W_alL;rfl;(apply tyT;rfl)) | (apply W_bxL;rfl;rfl;rfl))) | (apply Vs;rfl;(apply W_stL;rfl;(apply tyT;rfl);rfl;rfl;rfl;(first | apply okC_new | (apply okC_ge;omega));rfl;rfl;(first | decide | (apply Nat.le_of_ble_eq_true;rfl)))) | (apply s_region;rfl) | apply tri_seq | apply tri_ret | (apply tri_condT;rfl) | (apply end_q _ (.inr rfl);(exact List.prefix_append _ _);(focus repeat (first | apply R_nil | (apply R_tmp;rfl)));rfl) | apply p_thenR | apply d_nil | (apply tV;rfl;rfl;(first | (apply E_mv;rfl) | (apply E_as;rfl) | (apply E_fa;(apply plT;rfl);rfl;rfl;decide) | (apply E_lda;(apply tyT;rfl);rfl;(apply at_;rfl;rfl);rfl) | (apply E_ld;(apply tyT;rfl);rfl;(apply at_;rfl;rfl);rfl) | (apply E_ex;rfl;rfl) | (apply E_mf;rfl) | (apply E_mf;rfl) | (apply E_taT;exact nif114;apply tyT;rfl;rfl));rfl))
    rfl
end Go.Proofs.YtokilnhpepbjlaaGreat
namespace Go.Proofs.YtokilnhpepbjlaaGreat
open Go Go.RowKit Go.Proofs.YtokilnhpepbjlaaGreat.Calc
set_option linter.unusedVariables false
set_option linter.unusedSimpArgs false
set_option maxRecDepth 100000
set_option maxHeartbeats 8000000
attribute [local irreducible] Tri TriL TriP CallT stepV stepW thenQ inQ endQ
theorem nif30 : nifOf Tryz.prog 30 = true := by kernel_rfl
theorem sp19 (p : List Cl) (hp : p.length ≤ 1000000) : PC 19 [vP p] (fun r => r = vB (decide ((checkC p).1 = 0))) := by
  have h49 := sp49 p hp
  generalize checkC p = r at *
  obtain ⟨e,i⟩ := r
  dsimp only at *
  intro S T M
  refine callT_go [] [] Tryz.func19 rfl Tryz.ntmps19 Tryz.results19 ?_
  repeat' (first | apply triL_nil | (apply V;rfl;(first | (apply E_mv;rfl) | (apply E_as;rfl) | (apply E_lda;(apply tyT;rfl);rfl;(apply at_;rfl;rfl);rfl) | (apply E_ex;rfl;rfl))) | (apply Vp;rfl;rfl;apply fnT;rfl;apply h49;rintro _ rfl) | (apply Vd;rfl;(apply E_eql;rfl;rfl);all_goals intro h_) | (apply Vw;rfl;(apply W_bxL;rfl;rfl;rfl)) | (apply s_region;rfl) | apply tri_ret | (apply end_q _ (.inr rfl);(exact List.prefix_append _ _);(focus repeat (first | apply R_nil | (apply R_tmp;rfl)));rfl))
  all_goals exact vB_of (by simp [h_])
def vAny (p : List Cl) (a : ByteArray) : BV := if 0 ≤ findI p a then .d (.iface 30 (.agg (encCl (clAt p (findI p a))))) else .d (.flat .nilIface)
theorem sp56 (p : List Cl) (a : ByteArray) (hp : p.length ≤ 1000000) : PC 56 [vP p,vS a] (fun r => r = vAny p a) := by
  have h83 := sp83 p a hp
  unfold vAny
  rcases findI_spec p a with ⟨hf,_⟩ | ⟨j,hj,hf,_,_⟩
  · rw [hf] at h83 ⊢
    intro S T M
    refine callT_go [] [] Tryz.func56 rfl Tryz.ntmps56 Tryz.results56 ?_
    repeat' (first | apply triL_nil | (apply V;rfl;(first | (apply E_mv;rfl) | (apply E_as;rfl) | (apply E_fa;(apply plT;rfl);rfl;rfl;decide) | (apply E_lda;(apply tyT;rfl);rfl;(apply at_;rfl;rfl);rfl) | (apply E_ld;(apply tyT;rfl);rfl;(apply at_;rfl;rfl);rfl))) | (apply Vp;rfl;rfl;apply fnT;rfl;apply h83;rintro _ rfl) | (apply Vd;rfl;(apply E_geq;rfl;rfl);all_goals intro h_) | (apply Vw;rfl;(apply W_bxL;rfl;rfl;rfl)) | (apply s_region;rfl) | apply tri_seq | apply tri_skip | apply tri_ret | (apply tri_condT;rfl) | (apply tri_condF;rfl) | (apply end_q _ (.inr rfl);(exact List.prefix_append _ _);(focus repeat (first | apply R_nil | (apply R_tmp;rfl)));rfl) | apply p_then | (show TriL _ _ _ _ _ _;exfalso;omega))
    all_goals first | (exfalso;omega) | (rw [if_neg (by decide)];rfl)
  · obtain ⟨c,hc⟩ : ∃ c,p[j]? = some c := ⟨_,List.getElem?_eq_getElem hj⟩
    rw [hf] at h83 ⊢
    rw [if_pos (by omega)]
    have hcl : clAt p (j : Int) = c := by
      unfold clAt
      rw [show ((j : Int)).toNat = j from rfl,hc]
      rfl
    rw [hcl]
    intro S T M
    refine callT_go [] [] Tryz.func56 rfl Tryz.ntmps56 Tryz.results56 ?_
    repeat' (first | apply triL_nil | (apply V;rfl;(first | (apply E_mv;rfl) | (apply E_as;rfl) | (apply E_fa;(apply plT;rfl);rfl;rfl;decide) | (apply E_lda;(apply tyT;rfl);rfl;(apply at_;rfl;rfl);rfl) | (apply E_ld;(apply tyT;rfl);rfl;(apply at_;rfl;rfl);rfl) | (apply E_lea;(apply tyT;rfl);rfl;(first | rfl | apply encEx_len | apply encSm_len)) | (apply E_ial (c := c);apply elT;rfl;rfl;rfl;rfl;exact encCl_len;omega;simpa using hc) | (apply E_mi;exact nif30;rfl))) | (apply Vp;rfl;rfl;apply fnT;rfl;apply h83;rintro _ rfl) | (apply Vd;rfl;(apply E_geq;rfl;rfl);all_goals intro h_) | (apply Vw;rfl;(apply W_bxL;rfl;rfl;rfl)) | (apply s_region;rfl) | apply tri_seq | apply tri_skip | apply tri_ret | (apply tri_condT;rfl) | (apply tri_condF;rfl) | (apply end_q _ (.inr rfl);(exact List.prefix_append _ _);(focus repeat (first | apply R_nil | (apply R_tmp;rfl)));rfl) | apply p_then | apply p_thenR)
    all_goals first | (exfalso;omega) | rfl
theorem sp31 (p : List Cl) (a : ByteArray) (hp : p.length ≤ 1000000) : PC 31 [vP p,vS a] (fun r => r = .d (encL encFi (classC p a).fields)) := by
  have h56 := sp56 p a hp
  unfold vAny at h56
  unfold classC
  by_cases h0 : 0 ≤ findI p a
  · rw [if_pos h0] at h56 ⊢
    generalize clAt p (findI p a) = c at *
    obtain ⟨cn,csup,cf,cm⟩ := c
    intro S T M
    refine callT_go [] [] Tryz.func31 rfl Tryz.ntmps31 Tryz.results31 ?_
    repeat' (first | apply triL_nil | (apply V;rfl;(first | (apply E_mv;rfl) | (apply E_as;rfl) | (apply E_fa;(apply plT;rfl);rfl;rfl;decide) | (apply E_lda;(apply tyT;rfl);rfl;(apply at_;rfl;rfl);rfl) | (apply E_ld;(apply tyT;rfl);rfl;(apply at_;rfl;rfl);rfl) | (apply E_ex;rfl;rfl) | (apply E_not;rfl) | (apply E_taT;exact nif30;apply tyT;rfl;rfl))) | (apply Vp;rfl;rfl;apply fnT;rfl;apply h56;rintro _ rfl) | (apply Vw;rfl;(first | (apply W_alL;rfl;(apply tyT;rfl)) | (apply W_bxL;rfl;rfl;rfl))) | (apply Vs;rfl;(apply W_stL;rfl;(apply tyT;rfl);rfl;rfl;rfl;(first | apply okC_new | (apply okC_ge;omega));rfl;rfl;(first | decide | (apply Nat.le_of_ble_eq_true;rfl)))) | (apply s_region;rfl) | apply tri_seq | apply tri_skip | apply tri_ret | (apply tri_condF;rfl) | (apply end_q _ (.inr rfl);(exact List.prefix_append _ _);(focus repeat (first | apply R_nil | (apply R_tmp;rfl)));rfl) | apply p_then)
    rfl
  · rw [if_neg h0] at h56 ⊢
    intro S T M
    refine callT_go [] [] Tryz.func31 rfl Tryz.ntmps31 Tryz.results31 ?_
    repeat' (first | apply triL_nil | (apply V;rfl;(first | (apply E_mv;rfl) | (apply E_as;rfl) | (apply E_lda;(apply tyT;rfl);rfl;(apply at_;rfl;rfl);rfl) | (apply E_ex;rfl;rfl) | (apply E_not;rfl) | (apply E_taF;exact nif30;apply tyT;rfl;rfl))) | (apply Vp;rfl;rfl;apply fnT;rfl;apply h56;rintro _ rfl) | (apply Vw;rfl;(first | (apply W_alL;rfl;(apply tyT;rfl)) | (apply W_bxL;rfl;rfl;rfl))) | (apply Vs;rfl;(apply W_stL;rfl;(apply tyT;rfl);rfl;rfl;rfl;(first | apply okC_new | (apply okC_ge;omega));rfl;rfl;(first | decide | (apply Nat.le_of_ble_eq_true;rfl)))) | (apply s_region;rfl) | apply tri_seq | apply tri_ret | (apply tri_condT;rfl) | (apply end_q _ (.inr rfl);(exact List.prefix_append _ _);(focus repeat (first | apply R_nil | (apply R_tmp;rfl)));rfl) | apply p_thenR)
    rfl
theorem sp51 (c : Fi) (name : ByteArray) : NC name 51 (fun id => [.agg ((encFi c).map .d),.ptr id 0]) (fun r => r = vB (decide (c.name = name))) := by
  intro S T M id hid
  refine callT_go [] [] Tryz.func51 rfl Tryz.ntmps51 Tryz.results51 ?_
  repeat' (first | apply triL_nil | (apply V;rfl;(first | (apply E_as;rfl) | (apply E_fa;(apply plT;rfl);rfl;rfl;decide) | (apply E_ld;(apply tyT;rfl);rfl;(first | (apply at_;rfl;rfl) | (apply at_old;assumption));rfl))) | (apply Vd;rfl;(apply E_seql;rfl;rfl);all_goals intro h_) | (apply Vw;rfl;(apply W_bxL;rfl;rfl;rfl)) | (apply s_region;rfl) | apply tri_ret | (apply end_q _ (.inr rfl);(exact List.prefix_append _ _);(focus repeat (first | apply R_nil | (apply R_tmp;rfl)));rfl))
  all_goals exact vB_of (by simp [h_])
theorem sp50 (l : List Fi) (name : ByteArray) (hl : l.length ≤ 1000000) : NC name 50 (fun id => [.d (encL encFi l),.fn 51 [.ptr id 0]]) (fun r => r = vI (findF l name)) := by
  intro S T M id hid
  refine callT_go [] [] Tryz.func50 rfl Tryz.ntmps50 Tryz.results50 ?_
  repeat' (first | apply triL_nil | (apply V;rfl;(first | (apply E_mv;rfl) | (apply E_as;rfl) | (apply E_len;(apply elT;rfl);rfl;rfl))) | (apply s_region;rfl) | apply tri_seq | apply tri_block)
  refine tri_fix (fun k : Nat => l.length - k) (fun k => [(0,.d (encL encFi l)),(1,.fn 51 [.ptr id 0]),(7,vI l.length),(8,vI k)]) (fun k => k ≤ l.length ∧ ∀ (i : Nat) (c : Fi),i < k → l[i]? = some c → c.name ≠ name) 0 ⟨Nat.zero_le _,fun i c h => by omega⟩ ⟨rfl,rfl,rfl,rfl,trivial⟩ ?_
  rintro k ⟨hk,hpre⟩
  repeat' (first | apply triL_nil | (apply V;rfl;(first | (apply E_mv;rfl) | (apply E_as;rfl))) | (apply Vd;rfl;(apply E_lss;rfl;rfl);all_goals intro h_) | (apply s_region;rfl) | apply tri_seq | apply tri_block | apply tri_skip | apply tri_exit | apply tri_ret | (apply tri_condT;rfl) | (apply tri_condF;rfl) | (apply end_q _ (.inr rfl);(exact List.prefix_append _ _);(focus repeat (first | apply R_nil | (apply R_tmp;rfl)));rfl) | apply p_then | apply p_in | apply p_thenE)
  · obtain ⟨c,hc⟩ : ∃ c,l[k]? = some c := ⟨_,List.getElem?_eq_getElem (by omega)⟩
    have h51 := sp51 c name
    by_cases hcn : c.name = name
    · rw [decide_eq_true hcn] at h51
      repeat' (first | apply triL_nil | (apply V;rfl;(first | (apply E_mv;rfl) | (apply E_as;rfl) | (apply E_lea;(apply tyT;rfl);rfl;(first | rfl | apply encEx_len | apply encSm_len)) | (apply E_ial (c := c);apply elT;rfl;rfl;rfl;rfl;exact encFi_len;omega;simpa using hc))) | (apply Vp;rfl;rfl;apply fnT;rfl;apply h51;(first | (apply at_old;assumption) | assumption);rintro _ rfl) | (apply s_region;rfl) | apply tri_ret | (apply tri_condT;rfl) | (apply end_q _ (.inr rfl);(exact List.prefix_append _ _);(focus repeat (first | apply R_nil | (apply R_tmp;rfl)));rfl) | apply p_inR | apply p_thenR)
      exact vI_ret (findF_at hc hcn hpre).symm
    · rw [decide_eq_false hcn] at h51
      repeat' (first | apply triL_nil | (apply V;rfl;(first | (apply E_mv;rfl) | (apply E_lea;(apply tyT;rfl);rfl;(first | rfl | apply encEx_len | apply encSm_len)) | (apply E_add64;rfl;rfl;rfl;omega) | (apply E_ial (c := c);apply elT;rfl;rfl;rfl;rfl;exact encFi_len;omega;simpa using hc))) | (apply Vp;rfl;rfl;apply fnT;rfl;apply h51;(first | (apply at_old;assumption) | assumption);rintro _ rfl) | (apply tri_region;rfl) | apply tri_skip | (apply tri_condF;rfl) | apply p_then | apply p_inN)
      refine ⟨k + 1,by omega,⟨by omega,fun i c' hi hc' => ?_⟩,⟨rfl,rfl,rfl,vI_of (by omega),trivial⟩,rfl⟩
      by_cases hik : i = k
      · subst hik
        obtain rfl := Option.some.inj (hc.symm.trans hc')
        assumption
      · exact hpre i c' (by omega) hc'
  · exact vI_ret (findF_none fun i c hc => hpre i c (by have := (List.getElem?_eq_some_iff.1 hc).1;omega) hc).symm
theorem sp21 (p : List Cl) (a name : ByteArray) (hp : Small p) : PC 21 [vP p,vS a,vS name] (fun r => r = vI (ownF p a name)) := by
  have h31 := sp31 p a hp.1
  have h50 := sp50 (classC p a).fields name (class_fields hp a)
  unfold ownF
  intro S T M
  refine callT_go [] [] Tryz.func21 rfl Tryz.ntmps21 Tryz.results21 ?_
  repeat' (first | apply triL_nil | (apply V;rfl;(first | (apply E_mv;rfl) | (apply E_as;rfl) | (apply E_lda;(apply tyT;rfl);rfl;(apply at_;rfl;rfl);rfl) | (apply E_mf;rfl))) | (apply Vp;rfl;rfl;apply fnT;rfl;apply h31;rintro _ rfl) | (apply Vp;rfl;rfl;apply fnT;rfl;apply h50;(first | (apply at_;rfl;rfl) | (apply at_old;assumption) | assumption);rintro _ rfl) | (apply Vw;rfl;(apply W_bxL;rfl;rfl;rfl)) | (apply s_region;rfl) | apply tri_ret | (apply end_q _ (.inr rfl);(exact List.prefix_append _ _);(focus repeat (first | apply R_nil | (apply R_tmp;rfl)));rfl))
  rfl
theorem chk1_none {p : List Cl} : ∀ {l : List Cl} {i : Nat},chk1 p l i = none → ∀ (j : Nat) (c : Cl),l[j]? = some c → findI p c.name = ((i + j : Nat) : Int)
  | [],i,h,j,c,hc => by simp at hc
  | x :: l,i,h,j,c,hc => by
    rw [chk1] at h
    by_cases hq : inS BS x.name = true ∨ findI p x.name ≠ i
    · rw [if_pos hq] at h;cases h
    · rw [if_neg hq] at h
      cases j with
      | zero =>
        obtain rfl : x = c := by simpa using hc
        have h2 : ¬ findI p x.name ≠ i := fun h3 => hq (.inr h3)
        simpa using h2
      | succ j =>
        have := chk1_none h j c (by simpa using hc)
        rw [this]
        omega
theorem classC_self {p : List Cl} (h : (checkC p).1 = 0) {k : Nat} {c : Cl} (hc : p[k]? = some c) : classC p c.name = c := by
  have h1 : chk1 p p 0 = none := by
    unfold checkC at h
    rcases h1 : chk1 p p 0 with _ | i
    · rfl
    · rw [h1] at h;exact absurd h (show ¬ (6 : Int) = 0 by decide)
  have h2 := chk1_none h1 k c hc
  unfold classC
  rw [h2,if_pos (by omega)]
  unfold clAt
  rw [show (((0 + k : Nat) : Int)).toNat = k by omega,hc]
  rfl
theorem own_le {p : List Cl} (h : (checkC p).1 = 0) {k j : Nat} {c : Cl} {f : Fi} (hc : p[k]? = some c) (hf : c.fields[j]? = some f) : ownF p c.name f.name ≤ j := by
  unfold ownF
  rw [classC_self h hc]
  obtain ⟨hj,rfl⟩ := List.getElem?_eq_some_iff.1 hf
  rcases findF_spec c.fields (c.fields[j]).name with ⟨h1,_⟩ | ⟨i,hi,h1,h2,h3⟩
  · omega
  · rw [h1]
    by_cases hij : i ≤ j
    · omega
    · exact absurd rfl (h3 j (by omega))
theorem sp23 (p : List Cl) (hp : Small p) : PC 23 [vP p] (fun r => r = .tup [vI (checkF p).1,vI (checkF p).2]) := by
  have h19 := sp19 p hp.1
  have hp1 := hp.1
  unfold checkF
  by_cases he : (checkC p).1 = 0
  case neg =>
    rw [if_pos he]
    rw [decide_eq_false he] at h19
    intro S T M
    refine callT_go [] [] Tryz.func23 rfl Tryz.ntmps23 Tryz.results23 ?_
    repeat' (first | apply triL_nil | (apply V;rfl;(first | (apply E_as;rfl) | (apply E_lda;(apply tyT;rfl);rfl;(apply at_;rfl;rfl);rfl) | (apply E_not;rfl))) | (apply Vp;rfl;rfl;apply fnT;rfl;apply h19;rintro _ rfl) | (apply Vw;rfl;(apply W_bxL;rfl;rfl;rfl)) | (apply s_region;rfl) | apply tri_seq | apply tri_ret | (apply tri_condT;rfl) | (apply end_q _ (.inr rfl);(exact List.prefix_append _ _);(focus repeat (first | apply R_nil | (apply R_tmp;rfl)));rfl) | apply p_thenR)
    rfl
  rw [if_neg (fun h => h he)]
  rw [decide_eq_true he] at h19
  intro S T M
  refine callT_go [] [] Tryz.func23 rfl Tryz.ntmps23 Tryz.results23 ?_
  repeat' (first | apply triL_nil | (apply V;rfl;(first | (apply E_mv;rfl) | (apply E_as;rfl) | (apply E_fa;(apply plT;rfl);rfl;rfl;decide) | (apply E_lda;(apply tyT;rfl);rfl;(apply at_;rfl;rfl);rfl) | (apply E_ld;(apply tyT;rfl);rfl;(apply at_;rfl;rfl);rfl) | (apply E_len;(apply elT;rfl);rfl;rfl) | (apply E_not;rfl))) | (apply Vp;rfl;rfl;apply fnT;rfl;apply h19;rintro _ rfl) | (apply Vw;rfl;(apply W_bxL;rfl;rfl;rfl)) | (apply s_region;rfl) | apply tri_seq | apply tri_block | apply tri_skip | (apply tri_condF;rfl) | apply p_then)
  refine tri_grow (fun k : Nat => p.length - k) (fun k => [(1,.ptr (S.length + 0) 0),(14,.d (encL encCl p)),(15,vI p.length),(16,vI k)]) (fun k S1 T1 => k ≤ p.length ∧ S.length ≤ S1.length ∧ T <+: T1 ∧ S1[S.length + 0]? = some ([.d (encL encCl p)],25) ∧ chkF p p 0 = chkF p (p.drop k) k) 0 ⟨Nat.zero_le _,by simp,by simp,at_ rfl rfl,by rw [List.drop_zero]⟩ ⟨rfl,rfl,rfl,rfl,trivial⟩ ?_
  rintro k S1 T1 ⟨hk,hS,hT,hb,hch⟩
  repeat' (first | apply triL_nil | (apply V;rfl;(first | (apply E_mv;rfl) | (apply E_as;rfl))) | (apply Vd;rfl;(apply E_lss;rfl;rfl);all_goals intro h_) | (apply s_region;rfl) | apply tri_seq | apply tri_block | apply tri_skip | apply tri_exit | apply tri_ret | (apply tri_condT;rfl) | (apply tri_condF;rfl) | (apply end_q _ (.inr rfl);(apply pre_app;assumption);(focus repeat (first | apply R_nil | (apply R_tmp;rfl)));rfl) | apply p_then | apply p_in | apply p_thenE)
  · obtain ⟨c,hc⟩ : ∃ c,p[k]? = some c := ⟨_,List.getElem?_eq_getElem (by omega)⟩
    rw [drop_at hc,chkF] at hch
    have hfl := hp.2 c (List.mem_of_getElem? hc)
    have hcl := classC_self he hc
    repeat' (first | apply triL_nil | (apply V;rfl;(first | (apply E_mv;rfl) | (apply E_as;rfl) | (apply E_fa;(apply plT;rfl);rfl;rfl;decide) | (apply E_ld;(apply tyT;rfl);rfl;(apply at_;rfl;rfl);rfl) | (apply E_lea;(apply tyT;rfl);rfl;(first | rfl | apply encEx_len | apply encSm_len)) | (apply E_len;(apply elT;rfl);rfl;rfl) | (apply E_ial (c := c);apply elT;rfl;rfl;rfl;rfl;exact encCl_len;omega;simpa using hc))) | (apply Vw;rfl;(apply W_alL;rfl;(apply tyT;rfl))) | (apply Vs;rfl;(apply W_stL;rfl;(apply tyT;rfl);rfl;rfl;rfl;(first | apply okC_new | (apply okC_ge;omega));rfl;rfl;(first | decide | (apply Nat.le_of_ble_eq_true;rfl)))) | (apply s_region;rfl) | apply tri_seq | apply tri_block)
    refine tri_grow (fun j : Nat => c.fields.length - j) (fun j => [(1,.ptr (S.length + 0) 0),(4,vI k),(5,.ptr (S1.length + 0) 0),(14,.d (encL encCl p)),(15,vI p.length),(16,vI k),(22,.d (encL encFi c.fields)),(23,vI c.fields.length),(24,vI j)]) (fun j S2 T2 => j ≤ c.fields.length ∧ S1.length ≤ S2.length ∧ T <+: T2 ∧ S2[S.length + 0]? = some ([.d (encL encCl p)],25) ∧ S2[S1.length + 0]? = some ((encCl c).map .d,30) ∧ chkF1 p c.name c.fields 0 = chkF1 p c.name (c.fields.drop j) j) 0 ⟨Nat.zero_le _,by simp,pre_app hT,at_old hb,at_ rfl rfl,by rw [List.drop_zero]⟩ ⟨rfl,rfl,rfl,rfl,rfl,rfl,rfl,rfl,rfl,trivial⟩ ?_
    rintro j S2 T2 ⟨hj,hS2,hT2,hb2,hcb,hc1⟩
    repeat' (first | apply triL_nil | (apply V;rfl;(first | (apply E_mv;rfl) | (apply E_fa;(apply plT;rfl);rfl;rfl;decide) | (apply E_ld;(apply tyT;rfl);rfl;(apply at_old;assumption);rfl) | (apply E_len;(apply elT;rfl);rfl;rfl))) | (apply Vd;rfl;(apply E_lss;rfl;rfl);all_goals intro h_) | (apply s_region;rfl) | apply tri_seq | apply tri_block | apply tri_skip | apply tri_exit | (apply tri_condT;rfl) | (apply tri_condF;rfl) | apply p_then | apply p_in | apply p_thenE)
    · obtain ⟨f,hf⟩ : ∃ f,c.fields[j]? = some f := ⟨_,List.getElem?_eq_getElem (by omega)⟩
      rw [drop_at hf,chkF1] at hc1
      have h21 := sp21 p c.name f.name hp
      have hle := own_le he hc hf
      repeat' (first | apply triL_nil | (apply V;rfl;(first | (apply E_mv;rfl) | (apply E_as;rfl) | (apply E_fa;(apply plT;rfl);rfl;rfl;decide) | (apply E_lda;(apply tyT;rfl);rfl;(first | (apply at_;rfl;rfl) | (apply at_old;assumption));rfl) | (apply E_ld;(apply tyT;rfl);rfl;(first | (apply at_;rfl;rfl) | (apply at_old;assumption));rfl) | (apply E_lea;(apply tyT;rfl);rfl;(first | rfl | apply encEx_len | apply encSm_len)) | (apply E_add64;rfl;rfl;rfl;omega) | (apply E_ial (c := f);apply elT;rfl;rfl;rfl;rfl;exact encFi_len;omega;simpa using hf))) | (apply Vp;rfl;rfl;apply fnT;rfl;apply h21;rintro _ rfl) | (apply Vd;rfl;(apply E_lss;rfl;rfl);all_goals intro h_) | (apply Vw;rfl;(apply W_alL;rfl;(apply tyT;rfl))) | (apply Vs;rfl;(apply W_stL;rfl;(apply tyT;rfl);rfl;rfl;rfl;(first | apply okC_new | (apply okC_ge;omega));rfl;rfl;(first | decide | (apply Nat.le_of_ble_eq_true;rfl)))) | (apply s_region;rfl) | (apply tri_region;rfl) | apply tri_skip | apply tri_ret | (apply tri_condT;rfl) | (apply tri_condF;rfl) | (apply end_q _ (.inr rfl);(apply pre_app;assumption);(focus repeat (first | apply R_nil | (apply R_tmp;rfl)));rfl) | apply p_then | apply p_inN | apply p_inR | apply p_thenR)
      · rw [if_pos (show ownF p c.name f.name ≠ j by omega)] at hc1
        rw [if_pos hc1] at hch
        rw [hch]
        rfl
      · rw [if_neg (show ¬ ownF p c.name f.name ≠ j by omega)] at hc1
        exact ⟨j + 1,_,_,by omega,⟨by omega,by simp only [List.length_append];omega,pre_app hT2,at_old hb2,at_old hcb,hc1⟩,⟨rfl,rfl,rfl,rfl,rfl,rfl,rfl,rfl,vI_of (by omega),trivial⟩,rfl⟩
    · rw [List.drop_of_length_le (by omega),chkF1] at hc1
      rw [if_neg (by rw [hc1];decide)] at hch
      clear hc1
      refine tri_grow (fun j : Nat => c.fields.length - j) (fun j => [(1,.ptr (S.length + 0) 0),(4,vI k),(14,.d (encL encCl p)),(15,vI p.length),(16,vI k),(40,.d (encL encFi c.fields)),(41,vI c.fields.length),(42,vI j)]) (fun j S3 T3 => j ≤ c.fields.length ∧ S1.length ≤ S3.length ∧ T <+: T3 ∧ S3[S.length + 0]? = some ([.d (encL encCl p)],25) ∧ chkF2 p c.fields = chkF2 p (c.fields.drop j)) 0 ⟨Nat.zero_le _,by simpa using hS2,pre_app hT2,at_old hb2,by rw [List.drop_zero]⟩ ⟨rfl,rfl,rfl,rfl,rfl,rfl,rfl,rfl,trivial⟩ ?_
      clear hj hS2 hT2 hb2 hcb
      rintro j S3 T3 ⟨hj,hS3,hT3,hb3,hc2⟩
      repeat' (first | apply triL_nil | (apply V;rfl;(first | (apply E_mv;rfl) | (apply E_add64;rfl;rfl;rfl;omega))) | (apply Vd;rfl;(apply E_lss;rfl;rfl);all_goals intro h_) | (apply s_region;rfl) | apply tri_seq | (apply tri_region;rfl) | apply tri_block | apply tri_skip | apply tri_exit | (apply tri_condT;rfl) | (apply tri_condF;rfl) | apply p_then | apply p_in | apply p_inN | apply p_thenE)
      · obtain ⟨f,hf⟩ : ∃ f,c.fields[j]? = some f := ⟨_,List.getElem?_eq_getElem (by omega)⟩
        rw [drop_at hf,chkF2] at hc2
        have h52 := sp52 p f.typ hp1
        cases ht : typeC p f.typ
        all_goals
          rw [ht] at h52 hc2
          repeat' (first | apply triL_nil | (apply V;rfl;(first | (apply E_mv;rfl) | (apply E_as;rfl) | (apply E_fa;(apply plT;rfl);rfl;rfl;decide) | (apply E_lda;(apply tyT;rfl);rfl;(first | (apply at_;rfl;rfl) | (apply at_old;assumption));rfl) | (apply E_ld;(apply tyT;rfl);rfl;(first | (apply at_;rfl;rfl) | (apply at_old;assumption));rfl) | (apply E_lea;(apply tyT;rfl);rfl;(first | rfl | apply encEx_len | apply encSm_len)) | (apply E_not;rfl) | (apply E_add64;rfl;rfl;rfl;omega) | (apply E_ial (c := f);apply elT;rfl;rfl;rfl;rfl;exact encFi_len;omega;simpa using hf))) | (apply Vp;rfl;rfl;apply fnT;rfl;apply h52;rintro _ rfl) | (apply Vw;rfl;(apply W_alL;rfl;(apply tyT;rfl))) | (apply Vs;rfl;(apply W_stL;rfl;(apply tyT;rfl);rfl;rfl;rfl;(first | apply okC_new | (apply okC_ge;omega));rfl;rfl;(first | decide | (apply Nat.le_of_ble_eq_true;rfl)))) | (apply s_region;rfl) | (apply tri_region;rfl) | apply tri_skip | apply tri_ret | (apply tri_condT;rfl) | (apply tri_condF;rfl) | (apply end_q _ (.inr rfl);(apply pre_app;assumption);(focus repeat (first | apply R_nil | (apply R_tmp;rfl)));rfl) | apply p_then | apply p_inN | apply p_inR | apply p_thenR)
        · rw [if_neg (by decide)] at hc2
          rw [if_pos hc2] at hch
          rw [hch]
          rfl
        · rw [if_pos rfl] at hc2
          exact ⟨j + 1,_,_,by omega,⟨by omega,by simp only [List.length_append];omega,pre_app hT3,at_old hb3,hc2⟩,⟨rfl,rfl,rfl,rfl,rfl,rfl,rfl,vI_of (by omega),trivial⟩,rfl⟩
      · rw [List.drop_of_length_le (by omega),chkF2] at hc2
        rw [if_neg (by rw [hc2];decide)] at hch
        exact ⟨k + 1,_,_,by omega,⟨by omega,by simp only [List.length_append];omega,pre_app hT3,at_old hb3,hch⟩,⟨rfl,rfl,rfl,vI_of (by omega),trivial⟩,rfl⟩
  · rw [List.drop_of_length_le (by omega),chkF] at hch
    rw [hch]
    rfl
end Go.Proofs.YtokilnhpepbjlaaGreat
namespace Go.Proofs.YtokilnhpepbjlaaGreat.Calc
open Go Go.RowKit
set_option linter.unusedVariables false
def endN (P : Program) (rs : List ResultVar) (Wr : List Nat) (st0 : St) (Q : BV → St → Prop) : Post := fun ex ρ st =>
  (ex = .normal ∨ ex = .ret) ∧ ∃ l l' S' T',(resB P ρ st rs = some l ∨ (resB P ρ st rs).map wks = some l) ∧ lows S'.length T'.length l = some l' ∧
    (∀ id cs ty,S'[id]? = some (cs,ty) → (id < st0.S.length ∧ id ∉ Wr ∧ st0.S[id]? = some (cs,ty)) ∨ (∃ cs0,st.S[id]? = some (cs0,ty) ∧ lows S'.length T'.length cs0 = some cs)) ∧
    S'.length ≤ st.S.length ∧ st0.S.length ≤ S'.length ∧ T' <+: st.T ∧ st0.T.length ≤ T'.length ∧ Q (retB l') ⟨S',T',st.M⟩
theorem callT_bodyN {P : Program} {f : Nat} {fn : Func} {c : Code} {args : List BV} {st : St} {Q : BV → St → Prop} (Wr Wm : List Nat) (hf : P.funcs[f]? = some fn) (hb : fn.body = some c)
    (h : ∀ (x : Full) (a : Act),x.st = st → Good x → Regs fn.ntmps x (regsOf args) a → ∀ K : Exit → Act → World → Prop,(∀ ex ρ' z a',endN P fn.results.toList Wr st Q ex ρ' z.st → Step Wr Wm x z → Good z → Regs fn.ntmps z ρ' a' → K ex.to a' z.w) → c.wp P K a x.w) : CallT P Wr Wm f args st Q := by
  intro x vs hx hg hargs
  subst hx
  refine calls_of_wp hf hb (h x _ rfl hg ?_ _ (fun ex ρ z a hq hs hgz hr => ?_))
  · refine ⟨rfl,by simp;omega,fun t v ht => ?_⟩
    obtain ⟨u,hu,hru⟩ := hargs.get ht
    have hlt := (List.getElem?_eq_some_iff.1 hu).1
    have : (vs.toArray ++ Array.replicate (fn.ntmps - vs.toArray.size) undef).getD t undef = u := by
      rw [Array.getD_eq_getD_getElem?,Array.getElem?_append_left (by simpa using hlt)]
      simp [hu]
    rw [this]
    exact hru
  · obtain ⟨hex,l,l',S',T',q1,q2,q3,hz1,hSl,q4,q5,q6⟩ := hq
    obtain ⟨us,r1,r2⟩ : ∃ vs,(fn.results.toList.mapM (resSem a.tmps)).run P z.w = .ok vs z.w ∧ RepBs z l vs := by
      rcases q1 with q1 | q1
      · exact res_run hgz hr q1
      · obtain ⟨l0,q0,rfl⟩ := Option.map_eq_some_iff.1 q1
        obtain ⟨us,r1,r2⟩ := res_run hgz hr q0
        exact ⟨us,r1,wks_rep r2⟩
    obtain ⟨Tr,hT⟩ := q4
    have hTl : z.st.T.length = T'.length + Tr.length := by rw [← hT,List.length_append]
    have hTg : ∀ t,t < T'.length → T'[t]? = z.st.T[t]? := fun t ht => by rw [← hT,List.getElem?_append_left ht]
    let z' : Full := ⟨⟨S',T',z.st.M⟩,z.pb,z.pt,z.pm,z.F,z.w⟩
    have hless : Less z z' := ⟨rfl,rfl,rfl,rfl,rfl,rfl,hTg⟩
    have hstep : Step Wr Wm x z' := by
      refine ⟨hs.os,hs.tape,hs.output,hs.size,hs.frame,hs.keep,hSl,hs.ids,fun i h1 h2 => ?_,hs.mlen,hs.mids,hs.mfresh,fun t k ht => ?_,fun t b h1 h2 h3 => hs.tfresh t b h1 ?_ h3,hs.fro⟩
      · exact hs.fresh i h1 (Nat.lt_of_lt_of_le h2 hz1)
      · obtain ⟨k',g1,g2⟩ := hs.tags t k ht
        have := (List.getElem?_eq_some_iff.1 ht).1
        exact ⟨k',(hTg t (by omega)).trans g1,g2⟩
      · have : t < T'.length := h2
        omega
    have hgood : Good z' := by
      constructor
      · intro id cs ty hid
        have hz : id < z.st.S.length := Nat.lt_of_lt_of_le (List.getElem?_eq_some_iff.1 hid).1 hz1
        obtain ⟨us0,_,_,hF⟩ := hgz.box id _ _ (List.getElem?_eq_getElem hz)
        rcases q3 id cs ty hid with ⟨hid',h1,h2⟩ | ⟨cs0,h1,h2⟩
        · obtain ⟨us1,k1,k2,_⟩ := hg.box id cs ty h2
          have hsame := (hs.same hg).box id hid' h1
          refine ⟨us1,?_,k2.mono hstep,hF⟩
          show z.w.heap[z.pb id]? = _
          rw [hs.ids id hid',hsame]
          exact k1
        · obtain ⟨us1,k1,k2,_⟩ := hgz.box id cs0 ty h1
          refine ⟨us1,k1,lows_rep hless ?_ k2,hF⟩
          exact h2
      · intro i j hi hj e
        exact hgz.inj i j (Nat.lt_of_lt_of_le hi hz1) (Nat.lt_of_lt_of_le hj hz1) e
      · intro t k b ht hpt
        have htl := (List.getElem?_eq_some_iff.1 ht).1
        obtain ⟨k1,k2,k3,k4⟩ := hgz.tag t k b ((hTg t htl).symm.trans ht) hpt
        exact ⟨k1,k2,fun i hi => k3 i (Nat.lt_of_lt_of_le hi hz1),fun u hu he => k4 u (by have : u < T'.length := hu;omega) he⟩
      · intro id es hid
        obtain ⟨us0,c0,k1,k2,k3⟩ := hgz.map id es hid
        refine ⟨us0,c0,k1,k2,fun i e k y he hk => ?_⟩
        obtain ⟨k4,k5⟩ := k3 i e k y he hk
        exact ⟨k4,k5.mono hless.le⟩
      · exact hgz.mapinj
      · exact fun t b i ht hb hi => hgz.tmap t b i (by have : t < T'.length := ht;omega) hb hi
    have hres : RepBs z' l' us := lows_rep hless q2 r2
    have hret : (results fn a.tmps).run P z.w = .ok (if h : us.length = 1 then us[0] else .tuple us.toArray) z.w := by
      rw [results_eq,Array.mapM_eq_mapM_toList]
      simp only [Sem.run_bind,map_eq_pure_bind,Sem.run_pure,r1]
      simp
    have hrep : RepB z' (retB l') (if h : us.length = 1 then us[0] else .tuple us.toArray) := by
      have hlen := hres.length
      unfold retB
      split
      · rename_i b
        cases hres with
        | cons _ v _ vs' h1 h2 =>
          cases h2
          simpa using h1
      · rename_i hne
        split
        · rename_i h1
          exfalso
          rw [h1] at hlen
          match l',hlen,hne with
          | [b],_,hne => exact hne b rfl
        · exact .tup _ _ hres
    have hfin : bodyPost P fn (fun e w' => ∃ r v z,e = .returned v ∧ Q r z.st ∧ RepB z r v ∧ Good z ∧ Step Wr Wm x z ∧ z.w = w') .ret a z.w := ⟨hr.defers,_,hret,_,_,z',rfl,q6,hrep,hgood,hstep,rfl⟩
    rcases hex with rfl | rfl
    · exact hfin
    · exact hfin
theorem callT_goN {P : Program} {f : Nat} {fn : Func} {c : Code} {args : List BV} {S : List (List BV × Nat)} {T : List Nat} {M : List (List (Value × DV))} {Q : BV → St → Prop} (Wr Wm : List Nat) (hf : P.funcs[f]? = some fn) (hb : fn.body = some c) {nt : Nat} (hn : fn.ntmps = nt) {rs : Array ResultVar} (hr : fn.results = rs)
    (h : Tri ⟨P,nt,Wr,Wm,S.length,M.length⟩ c (regsOf args) ⟨S ++ [],T ++ [],M⟩ (endN P rs.toList Wr ⟨S,T,M⟩ Q)) : CallT P Wr Wm f args ⟨S,T,M⟩ Q := by
  subst hn hr
  rw [List.append_nil,List.append_nil] at h
  exact callT_bodyN Wr Wm hf hb fun x a hx hg hr K hK => h x x a (by rw [hx]) (by rw [hx]) (Step.refl _ _ _) hx hg hr K hK
end Go.Proofs.YtokilnhpepbjlaaGreat.Calc
namespace Go.Proofs.YtokilnhpepbjlaaGreat.Calc
open Go Go.RowKit
set_option linter.unusedVariables false
section
variable {P : Program} {ok okm : Nat → Bool} {o : Oper} {ρ : Rg} {st : St} {Q : Rg → St → Prop} {t : Nat} {k e : TypeId} {x i v : Operand}
end
end Go.Proofs.YtokilnhpepbjlaaGreat.Calc
namespace Go.Proofs.YtokilnhpepbjlaaGreat.Calc
open Go Go.RowKit
set_option linter.unusedVariables false
section
variable {P : Program} {ok okm : Nat → Bool} {o : Oper} {ρ : Rg} {st : St} {Q : Rg → St → Prop} {t : Nat} {k e : TypeId} {x i v : Operand} {b : Bool}
end
end Go.Proofs.YtokilnhpepbjlaaGreat.Calc
namespace Go.Proofs.YtokilnhpepbjlaaGreat.Calc
open Go Go.RowKit
set_option linter.unusedVariables false
theorem RepBs.setAt {x : Full} : ∀ {l : List BV} {vs : List Value},RepBs x l vs → ∀ {j : Nat} {b : BV},(∀ v,vs[j]? = some v → RepB x b v) → RepBs x (l.set j b) vs
  | _,_,.nil,j,b,h => .nil
  | _,_,.cons y v l vs h hs,0,b,hb => .cons _ _ _ _ (hb v rfl) hs
  | _,_,.cons y v l vs h hs,j + 1,b,hb => .cons _ _ _ _ h (RepBs.setAt hs fun v hv => hb v (by simpa using hv))
def boxSet (y : Full) (id : Nat) (c : List BV × Nat) : Full := { y with st := ⟨y.st.S.set id c,y.st.T,y.st.M⟩ }
theorem boxSet_le (y : Full) (id : Nat) (c : List BV × Nat) : Step [] [] y (boxSet y id c) where
  os := rfl
  tape := rfl
  output := rfl
  size := Nat.le_refl _
  frame := fun _ _ _ _ _ => rfl
  keep := Keep.refl _ _
  slen := by simp [boxSet]
  ids := fun _ _ => rfl
  fresh := fun i h1 h2 => by simp only [boxSet,List.length_set] at h2;omega
  mlen := Nat.le_refl _
  mids := fun _ _ => rfl
  mfresh := fun i h1 h2 => by simp only [boxSet] at h2;omega
  tags := fun t k h => ⟨k,h,Nat.le_refl _,fun _ => ⟨rfl,fun _ _ => rfl⟩,.inl rfl⟩
  tfresh := fun t b h1 h2 => by simp only [boxSet] at h2;omega
  fro := fun _ _ _ => rfl
theorem boxSet_good {y : Full} (hg : Good y) {id ty : Nat} {cs cs' : List BV} (hid : y.st.S[id]? = some (cs,ty)) (h : ∀ vs,RepBs y cs vs → RepBs y cs' vs) : Good (boxSet y id (cs',ty)) := by
  have hs := boxSet_le y id (cs',ty)
  constructor
  · intro i c t hi
    simp only [boxSet,List.getElem?_set] at hi
    split at hi
    · rename_i e
      subst e
      obtain ⟨us,h1,h2,h3⟩ := hg.box id cs ty hid
      split at hi
      · simp only [Option.some.injEq,Prod.mk.injEq] at hi
        obtain ⟨rfl,rfl⟩ := hi
        exact ⟨us,h1,(h us h2).mono hs,h3⟩
      · cases hi
    · obtain ⟨us,h1,h2,h3⟩ := hg.box i c t hi
      exact ⟨us,h1,h2.mono hs,h3⟩
  · intro i j hi hj e
    simp only [boxSet,List.length_set] at hi hj e
    exact hg.inj i j hi hj e
  · intro u k b hu hb
    obtain ⟨h1,h2,h3,h4⟩ := hg.tag u k b hu hb
    refine ⟨h1,h2,fun i hi => ?_,h4⟩
    simp only [boxSet,List.length_set] at hi
    exact h3 i hi
  · intro i es hi
    obtain ⟨us,c,h1,h2,h3⟩ := hg.map i es hi
    refine ⟨us,c,h1,h2,fun j e k y he hk => ?_⟩
    obtain ⟨h4,h5⟩ := h3 j e k y he hk
    exact ⟨h4,h5.mono hs.le⟩
  · exact hg.mapinj
  · exact hg.tmap
theorem tri_ownBox {C : Cx} {c : Code} {ρ : Rg} {S : List (List BV × Nat)} {T : List Nat} {M : List (List (Value × DV))} {Q : Post} {id ty j : Nat} {cs : List BV} (e sz : Nat) (hid : S[id]? = some (cs,ty)) (hj : cs[j]? = some (.tight [] 0))
    (h : Tri C c ρ ⟨S.set id (cs.set j (.own e sz T.length [] 0),ty),T ++ [0],M⟩ Q) : Tri C c ρ ⟨S,T,M⟩ Q := by
  intro x y a h1 h1m h2 h3 h4 h5 K hK
  have hS : y.st.S = S := by rw [h3]
  have hT : y.st.T = T := by rw [h3]
  have hM : y.st.M = M := by rw [h3]
  have g1 := tagged_good h4
  have hid1 : (tagged y).st.S[id]? = some (cs,ty) := by
    show y.st.S[id]? = _
    rw [hS]
    exact hid
  have g2 : Good (boxSet (tagged y) id (cs.set j (.own e sz T.length [] 0),ty)) := boxSet_good g1 hid1 fun vs hvs => by
    refine hvs.setAt fun v hv => ?_
    obtain ⟨w,hw1,hw2⟩ := hvs.get hj
    obtain rfl := Option.some.inj (hv.symm.trans hw1)
    rw [← hT]
    cases hw2 with
    | tight _ _ base hb => exact .own e sz _ [] 0 0 _ hb (by simp [tagged]) (Nat.le_refl _) (fun _ => .inr ⟨by simp [tagged],rfl,rfl,base,rfl⟩)
  have hst := (tagged_step y).trans (boxSet_le (tagged y) id (cs.set j (.own e sz T.length [] 0),ty))
  refine h x _ a h1 h1m (h2.trans' hst (fun i hi _ => by cases hi) (fun i hi _ => by cases hi)) ?_ g2 ⟨h5.defers,h5.size,fun t v ht => (h5.reg t v ht).mono hst⟩ K hK
  show (⟨y.st.S.set id _,y.st.T ++ [0],y.st.M⟩ : St) = _
  rw [hS,hT,hM]
end Go.Proofs.YtokilnhpepbjlaaGreat.Calc
namespace Go.Proofs.YtokilnhpepbjlaaGreat.Calc
open Go Go.RowKit
set_option linter.unusedVariables false
theorem tri_wkBox {C : Cx} {c : Code} {ρ : Rg} {S : List (List BV × Nat)} {T : List Nat} {M : List (List (Value × DV))} {Q : Post} {id ty : Nat} {cs : List BV} (hid : S[id]? = some (cs,ty)) (h : Tri C c ρ ⟨S.set id (wks cs,ty),T,M⟩ Q) : Tri C c ρ ⟨S,T,M⟩ Q := by
  intro x y a h1 h1m h2 h3 h4 h5 K hK
  have hS : y.st.S = S := by rw [h3]
  have hT : y.st.T = T := by rw [h3]
  have hM : y.st.M = M := by rw [h3]
  have hid1 : y.st.S[id]? = some (cs,ty) := by
    rw [hS]
    exact hid
  have g2 : Good (boxSet y id (wks cs,ty)) := boxSet_good h4 hid1 fun vs hvs => wks_rep hvs
  have hst := boxSet_le y id (wks cs,ty)
  refine h x _ a h1 h1m (h2.trans' hst (fun i hi _ => by cases hi) (fun i hi _ => by cases hi)) ?_ g2 ⟨h5.defers,h5.size,fun t v ht => (h5.reg t v ht).mono hst⟩ K hK
  show (⟨y.st.S.set id _,y.st.T,y.st.M⟩ : St) = _
  rw [hS,hT,hM]
theorem tri_wkNew {C : Cx} {c : Code} {ρ : Rg} {S L : List (List BV × Nat)} {T : List Nat} {M : List (List (Value × DV))} {Q : Post} {k ty : Nat} {cs : List BV} (hk : L[k]? = some (cs,ty)) (h : Tri C c ρ ⟨S ++ L.set k (wks cs,ty),T,M⟩ Q) : Tri C c ρ ⟨S ++ L,T,M⟩ Q := by
  refine tri_wkBox (id := S.length + k) (at_ rfl hk) ?_
  rw [set_at rfl]
  exact h
theorem A_ownXA {S : List (List BV × Nat)} {T X : List Nat} {M : List (List (Value × DV))} {e sz by' k n m nt : Nat} {cs ys : List DV} (hT : T.length = nt) (hX : X[k]? = some cs.length) (hy : ys.length = m * sz) (h1 : (n + m) * by' ≤ 140737488355328) (h2 : n + m ≤ 9223372036854775807) :
    appB e sz by' (.own e sz (nt + k) cs n) ys m ⟨S,T ++ X,M⟩ = some (⟨S,T ++ X.set k (cs ++ ys).length,M⟩,.own e sz (nt + k) (cs ++ ys) (n + m)) := by
  by_cases hm : m = 0
  · subst hm
    rw [Nat.zero_mul] at hy
    obtain rfl := List.eq_nil_of_length_eq_zero hy
    have hs : X.set k cs.length = X := by
      apply List.ext_getElem?
      intro i
      by_cases hi : k = i
      · subst hi
        rw [List.getElem?_set_self (List.getElem?_eq_some_iff.1 hX).1,hX]
      · rw [List.getElem?_set_ne hi]
    rw [List.append_nil,hs]
    simp [appB]
  · exact A_ownX hT hm h1 h2 hX
end Go.Proofs.YtokilnhpepbjlaaGreat.Calc
