import Derived.Test.YtddggdhkhfephaaQx2
import Derived.Test.YtddggdhkhfephaaFind
import Derived.Lib.Hide
import Derived.Outline
import Derived.Deep.RegionWith
import Derived.IntWalk
import Derived.StillTailTactics
namespace Go.Proofs.Ytddggdhkhfephaa
open Go.RowKit Go.Proofs.YtddggdhkhfephaaW.PrintWords Go.Proofs.YtddggdhkhfephaaW.PrintLast Go.Proofs.YtddggdhkhfephaaW.PrintMore Go.Proofs.Ytddggdhkhfephaa.Q

/-- Check's first look at a class: is its name a base one's, or an earlier one's? -/
def check1 (k : Nat) (l : List S34) (i : Int) (x : S34) : Option Int := (kin_Base.f k x.f0).bind fun b => if b = true then some 6 else (kin_Find.f l x.f0).bind fun t => if t < i then some 6 else some 0
/-- Check's second look. -/
def check2 (k : Nat) (l : List S34) (x : S34) : Option Int :=
  if x.f1.toList = [] then some 0 else (kin_Is.f k l x.f1).bind fun is => if is = true then (kin_Chain.f k l x.f0).bind fun ch => if 0 < ch.length ∧ ch.length ≤ 1000000000 then (kin_Super.f k l (rdOf ByteArray.empty ch ((ch.length : Int) - 1))).bind fun s => (slices_Contains_string_string.f k ch s).bind fun b => if b = true then some 8 else some 0 else none else some 7
/-- What look tells. -/
def lookZ (chk : Int → S34 → Option Int) : List S34 → Int → Option (Option (Int × Int))
  | [], _ => some none
  | x :: l, i => (chk i x).bind fun c => if c = 0 then lookZ chk l (i + 1) else some (some (c, i))

def RetI (v : Value) (w : World) (e : Ending) (w' : World) : Prop := e = .returned v ∧ Below w.heap.size w w'

set_option maxHeartbeats 2000000 in
set_option maxRecDepth 100000 in
theorem check1_calls (k : Nat) (A : Option Addr) (c : Nat) (l : List S34) (B : Nat) (i : Int) (x : S34) (v3 v4 : Value) (w : World) (r : Int) (hC : Hid (k34.C w A l.length l)) (hc : Hid (l.length ≤ c)) (hB : w.cell? ⟨B, 0, none⟩ = some (.slice A l.length c)) (h : Hid (check1 k l i x = some r)) :
    Calls Try.prog 17 #[.int .i64 i, .agg #[.string x.f0, .string x.f1, v3, v4], .pointer (some ⟨B, 0, none⟩)] w (RetL r w) := by
  have h_ := h.out
  unfold check1 at h_
  obtain ⟨b, hb, h_⟩ := Option.bind_eq_some_iff.mp h_
  have Hb := Lib.hid hb; clear hb h
  have hlt : B < w.heap.size := World.block_lt_of_cell? _ _ hB
  have HBw : Below w.heap.size w (w.alloc (.cells #[.string x.f0, .string x.f1, v3, v4] 34)) := (Below.refl _ _).alloc (Nat.le_refl _) _
  have hB1 : (w.alloc (.cells #[.string x.f0, .string x.f1, v3, v4] 34)).cell? ⟨B, 0, none⟩ = some (.slice A l.length c) := (World.cell?_alloc_lt _ _ _ hlt).trans hB
  have hN1 : (w.alloc (.cells #[.string x.f0, .string x.f1, v3, v4] 34)).cell? ⟨w.heap.size, 0, none⟩ = some (.string x.f0) := (blk_cell (heap_alloc_new _ _) 0).trans rfl
  have HB1 := Lib.hid hB1; clear hB1
  have HN1 := Lib.hid hN1; clear hN1
  cases b with
  | true =>
    obtain rfl : 6 = r := Option.some.inj h_
    go_enter Try.func17, Try.ntmps17
    go_wp2_with fail
    refine (kin_Base.calls k _ true _ Hb.out).mono ?_
    rintro e w1 ⟨rfl, hb1⟩
    go_wp2
    go_ret
    exact ⟨rfl, HBw.trans (hb1.mono (by simp))⟩
  | false =>
    rw [if_neg (by decide)] at h_
    obtain ⟨t, ht, h_⟩ := Option.bind_eq_some_iff.mp h_
    have Ht := Lib.hid ht; clear ht
    have H_ := Lib.hid h_; clear h_
    go_enter Try.func17, Try.ntmps17
    go_wp2_with fail
    refine (kin_Base.calls k _ false _ Hb.out).mono ?_
    rintro e w1 ⟨rfl, hb1⟩
    have c1 : w1.cell? ⟨B, 0, none⟩ = some (.slice A l.length c) := (hb1.cell (p := ⟨B, 0, none⟩) (by simp; omega)).trans HB1.out
    have c2 : w1.cell? ⟨w.heap.size, 0, none⟩ = some (.string x.f0) := (hb1.cell (p := ⟨w.heap.size, 0, none⟩) (by simp)).trans HN1.out
    have HBx := HBw.trans (hb1.mono (by simp))
    have HC1 := Lib.hid (Kd.C_below hC.out HBx)
    clear hb1
    go_wp2_with fail
    refine (kin_Find.calls A c l x.f0 t _ HC1.out hc.out Ht.out).mono ?_
    rintro e w2 ⟨rfl, hb2⟩
    have HBy := HBx.trans (hb2.mono HBx.size)
    clear hb2
    have h2 := H_.out
    by_cases hti : t < i
    · rw [if_pos hti] at h2
      obtain rfl : 6 = r := Option.some.inj h2
      go_wp2
      go_ret
      exact ⟨rfl, HBy⟩
    · rw [if_neg hti] at h2
      obtain rfl : 0 = r := Option.some.inj h2
      go_wp2
      go_ret
      exact ⟨rfl, HBy⟩

set_option maxHeartbeats 2000000 in
set_option maxRecDepth 100000 in
theorem check2_calls (k : Nat) (A : Option Addr) (c : Nat) (l : List S34) (B : Nat) (i : Int) (x : S34) (v3 v4 : Value) (w : World) (r : Int) (hC : Hid (k34.C w A l.length l)) (hc : Hid (l.length ≤ c)) (hB : w.cell? ⟨B, 0, none⟩ = some (.slice A l.length c)) (h : Hid (check2 k l x = some r)) :
    Calls Try.prog 19 #[.int .i64 i, .agg #[.string x.f0, .string x.f1, v3, v4], .pointer (some ⟨B, 0, none⟩)] w (RetL r w) := by
  have h_ := h.out
  unfold check2 at h_
  have hlt : B < w.heap.size := World.block_lt_of_cell? _ _ hB
  have HBw : Below w.heap.size w (w.alloc (.cells #[.string x.f0, .string x.f1, v3, v4] 34)) := (Below.refl _ _).alloc (Nat.le_refl _) _
  have hB1 : (w.alloc (.cells #[.string x.f0, .string x.f1, v3, v4] 34)).cell? ⟨B, 0, none⟩ = some (.slice A l.length c) := (World.cell?_alloc_lt _ _ _ hlt).trans hB
  have hN1 : (w.alloc (.cells #[.string x.f0, .string x.f1, v3, v4] 34)).cell? ⟨w.heap.size, 0, none⟩ = some (.string x.f0) := (blk_cell (heap_alloc_new _ _) 0).trans rfl
  have hN2 : (w.alloc (.cells #[.string x.f0, .string x.f1, v3, v4] 34)).cell? ⟨w.heap.size, 1, none⟩ = some (.string x.f1) := (blk_cell (heap_alloc_new _ _) 1).trans rfl
  by_cases h0 : x.f1.toList = []
  · rw [if_pos h0] at h_
    obtain rfl : 0 = r := Option.some.inj h_
    have h0b : x.f1.toList.isEmpty = true := by rw [h0]; rfl
    have h0c : (x.f1.toList == ([] : List UInt8)) = true := by rw [h0]; rfl
    clear h0
    go_enter Try.func19, Try.ntmps19
    go_wp2
    go_ret
    exact ⟨rfl, HBw⟩
  · rw [if_neg h0] at h_
    have h0b : x.f1.toList.isEmpty = false := by cases hx : x.f1.toList with | nil => exact absurd hx h0 | cons a b => rfl
    have h0c : (x.f1.toList == ([] : List UInt8)) = false := beq_eq_false_iff_ne.2 h0
    obtain ⟨b, hb, h_⟩ := Option.bind_eq_some_iff.mp h_
    have Hb := Lib.hid hb; clear hb h
    have HC1 := Lib.hid (Kd.C_below hC.out HBw)
    cases b with
    | false =>
      obtain rfl : 7 = r := Option.some.inj h_
      go_enter Try.func19, Try.ntmps19
      go_wp2_with fail
      refine (kin_Is.calls k A c l x.f1 false _ HC1.out hc.out Hb.out).mono ?_
      rintro e w1 ⟨rfl, hb1⟩
      go_wp2
      go_ret
      exact ⟨rfl, HBw.trans (hb1.mono (by simp))⟩
    | true =>
      rw [if_pos rfl] at h_
      obtain ⟨ch, hch, h_⟩ := Option.bind_eq_some_iff.mp h_
      have Hch := Lib.hid hch; clear hch
      have hpos2 : 0 < ch.length ∧ ch.length ≤ 1000000000 := by
        by_cases hp : 0 < ch.length ∧ ch.length ≤ 1000000000
        · exact hp
        · rw [if_neg hp] at h_; cases h_
      rw [if_pos hpos2] at h_
      obtain ⟨hpos, hmost⟩ := hpos2
      obtain ⟨s, hs, h_⟩ := Option.bind_eq_some_iff.mp h_
      have Hs := Lib.hid hs; clear hs
      obtain ⟨d, hd, h_⟩ := Option.bind_eq_some_iff.mp h_
      have Hd := Lib.hid hd; clear hd
      have H_ := Lib.hid h_; clear h_
      go_enter Try.func19, Try.ntmps19
      go_wp2_with fail
      refine (kin_Is.calls k A c l x.f1 true _ HC1.out hc.out Hb.out).mono ?_
      rintro e w1 ⟨rfl, hb1⟩
      have c1 : w1.cell? ⟨B, 0, none⟩ = some (.slice A l.length c) := (hb1.cell (p := ⟨B, 0, none⟩) (by simp; omega)).trans hB1
      have c2 : w1.cell? ⟨w.heap.size, 0, none⟩ = some (.string x.f0) := (hb1.cell (p := ⟨w.heap.size, 0, none⟩) (by simp)).trans hN1
      have HBx := HBw.trans (hb1.mono (by simp))
      have HC2 := Lib.hid (Kd.C_below hC.out HBx)
      have hw1 : w.heap.size < w1.heap.size := by have := hb1.size; simp at this; omega
      clear hb1 hB1 hN1 hN2
      go_wp2_with fail
      refine (kin_Chain.calls k A c l x.f0 ch _ HC2.out hc.out Hch.out).mono ?_
      rintro e w2 ⟨v0, rfl, hR, hb2⟩
      have c3 : w2.cell? ⟨B, 0, none⟩ = some (.slice A l.length c) := (hb2.cell (p := ⟨B, 0, none⟩) (by simp; omega)).trans c1
      have HBy := HBx.trans (hb2.mono HBx.size)
      have HC3 := Lib.hid (Kd.C_below hC.out HBy)
      clear hb2 c1 c2
      obtain ⟨Av, cv, rfl, hcv, hCv⟩ := Kd.R_reads hR
      obtain ⟨ad, e1, hlast⟩ := Kd.at_string hCv ((ch.length : Int) - 1) (by omega) (by omega)
      cases e1
      have HCv := Lib.hid hCv; clear hCv hR
      have g1 : 0 ≤ (ch.length : Int) - 1 := by omega
      have g2 : (ch.length : Int) - 1 < (ch.length : Int) := by omega
      have g3 : 1 ≤ ch.length := hpos
      have HC4 := Lib.hid (Kd.C_drew HC3.out)
      go_wp2_with fail
      have g4 : (1 : Int) ≤ (ch.length : Int) := by omega
      have hlast2 : w2.cell? (ad.add (ch.length - 1)) = some (Value.string (rdOf ByteArray.empty ch ((ch.length : Int) - 1))) := by rw [← hlast]; congr 2; omega
      generalize hnm : rdOf ByteArray.empty ch ((ch.length : Int) - 1) = nm at *
      have hw : IntKind.i64.wrap ((ch.length : Int) - 1) = (ch.length : Int) - 1 := IntWalk.i64_in _ (by omega)
      go_still_tail 7, (by kernel_rfl)
      change wpList _ _ _ _ _ w2.drew
      have HBz : Below w.heap.size w w2.drew := below_drew1 HBy
      have HCv2 := Lib.hid (Kd.C_drew HCv.out)
      clear HCv hlast hlast2 HC3 HBy hnm
      generalize w2.drew = w3 at *
      go_wp2_with fail
      refine (kin_Super.calls k A c l nm s _ HC4.out hc.out Hs.out).mono ?_
      rintro e w4 ⟨rfl, hb4⟩
      have HB4 := HBz.trans (hb4.mono HBz.size)
      have HCv3 := Lib.hid (Kd.C_below HCv2.out hb4)
      clear hb4
      go_wp2_with fail
      refine (slices_Contains_string_string.calls k (some ad) cv ch s d _ HCv3.out hcv Hd.out).mono ?_
      rintro e w5 ⟨rfl, hb5⟩
      obtain ⟨n5, rfl⟩ := hb5
      have HB5 : Below w.heap.size w (w4.drewN n5) := pw_below_drewN HB4 n5
      have h5 := H_.out
      cases d with
      | true =>
        obtain rfl : 8 = r := Option.some.inj h5
        go_wp2
        go_ret
        exact ⟨rfl, HB5⟩
      | false =>
        obtain rfl : 0 = r := Option.some.inj h5
        go_wp2
        go_ret
        exact ⟨rfl, HB5⟩

def lookV : Option (Int × Int) → Value
  | none => .nilIface
  | some (c, i) => .iface 46 (.agg #[.int .i64 c, .int .i64 i])

set_option maxHeartbeats 2000000 in
set_option maxRecDepth 100000 in
theorem look17_calls (chk : Int → S34 → Option Int) (A : Option Addr) (c : Nat) (l : List S34) (B : Nat) (w : World) (r : Option (Int × Int)) (hC : Hid (k34.C w A l.length l)) (_hc : Hid (l.length ≤ c)) (hB : Hid (w.cell? ⟨B, 0, none⟩ = some (.slice A l.length c))) (hl : l.length ≤ 9223372036854775806)
    (hn : Hid (∀ (i : Int) (x : S34) (v3 v4 : Value) (w : World) (r : Int), Hid (k34.C w A l.length l) → w.cell? ⟨B, 0, none⟩ = some (.slice A l.length c) → Hid (chk i x = some r) → Calls Try.prog 17 #[.int .i64 i, .agg #[.string x.f0, .string x.f1, v3, v4], .pointer (some ⟨B, 0, none⟩)] w (RetL r w)))
    (h : Hid (lookZ chk l 0 = some r)) :
    Calls Try.prog 16 #[.agg #[.slice A l.length c], .func (.func 17) #[] #[.pointer (some ⟨B, 0, none⟩)]] w (RetI (lookV r) w) := by
  have Hr : Hid (lookZ chk (l.drop 0) ((0 : Nat) : Int) = some r) := Lib.hid h.out
  have hlb : B < w.heap.size := World.block_lt_of_cell? _ _ hB.out
  have HBw : Below w.heap.size w (w.alloc (.cells #[.slice A l.length c] 25)) := (Below.refl _ _).alloc (Nat.le_refl _) _
  clear h
  go_enter Try.func16, Try.ntmps16
  go_wp2
  go_loopw [11] (fun vk wr => ∃ k : Nat, k ≤ l.length ∧ vk = .int .i64 k ∧ Hid (lookZ chk (l.drop k) (k : Int) = some r) ∧ Below w.heap.size w wr) (fun vk _ => l.length - (intOf vk).toNat)
  case atStart => exact ⟨0, Nat.zero_le _, rfl, Hr, HBw⟩
  case round =>
    obtain ⟨k, hk, rfl, hix, hbw⟩ := hrel
    clear Hr
    by_cases hlt : k < l.length
    · have hC2 := Kd.C_below hC.out hbw
      obtain ⟨ad, A2, c2, A3, c3, e, h0, h1, h2, h3, _⟩ := at_T34 hC2 (k : Int) (by omega) (by omega)
      cases e
      rw [Int.toNat_natCast] at h0 h1 h2 h3
      have hdrop : l.drop k = rd_T34 l (k : Int) :: l.drop (k + 1) := by
        rw [List.drop_eq_getElem_cons hlt]; congr 1
        unfold rd_T34; rw [Int.toNat_natCast, List.getD_eq_getElem?_getD, List.getElem?_eq_getElem hlt]; rfl
      have hst := hix.out
      rw [hdrop, lookZ] at hst
      obtain ⟨q, hq, hst⟩ := Option.bind_eq_some_iff.mp hst
      have Hst := Lib.hid hst; clear hst hdrop hix
      have Hq := Lib.hid hq; clear hq
      generalize rd_T34 l (k : Int) = x at *
      go_wp2_with fail
      have hcell : (wr.alloc (.cells #[.string x.f0, .string x.f1, .slice A2 x.f2.length c2, .slice A3 x.f3.length c3] 34)).cell? ⟨B, 0, none⟩ = some (.slice (some ad) l.length c) := (World.cell?_alloc_lt _ _ _ (Nat.lt_of_lt_of_le hlb hbw.size)).trans ((hbw.cell (p := ⟨B, 0, none⟩) hlb).trans hB.out)
      have HBr : Below w.heap.size w (wr.alloc (.cells #[.string x.f0, .string x.f1, .slice A2 x.f2.length c2, .slice A3 x.f3.length c3] 34)) := hbw.alloc hbw.size _
      refine (hn.out (k : Int) x _ _ _ q (Lib.hid (Kd.C_below hC.out HBr)) hcell Hq).mono ?_
      rintro e w2 ⟨rfl, hb2⟩
      have HB3 := HBr.trans (hb2.mono HBr.size)
      clear hb2 hcell
      have hst := Hst.out
      by_cases hq0 : q = 0
      · subst hq0
        rw [if_pos rfl] at hst
        have Hs2 := Lib.hid hst; clear hst Hst
        go_wp2
        go_roundw
        case rel => exact ⟨k + 1, by omega, by go_num, Lib.hid (by rw [← Hs2.out]; rfl), HB3⟩
        case measure => simp [intOf]; omega
      · rw [if_neg hq0] at hst
        obtain rfl := Option.some.inj hst
        clear hst Hst
        have hqn : ¬ (q = 0) := hq0
        go_wp2
        go_ret
        exact ⟨rfl, HB3⟩
    · obtain rfl : k = l.length := by omega
      have hst := hix.out
      rw [List.drop_length, lookZ] at hst
      obtain rfl : none = r := Option.some.inj hst
      clear hst hix
      go_wp2
      go_ret
      exact ⟨rfl, hbw⟩
set_option maxHeartbeats 2000000 in
set_option maxRecDepth 100000 in
theorem look19_calls (chk : Int → S34 → Option Int) (A : Option Addr) (c : Nat) (l : List S34) (B : Nat) (w : World) (r : Option (Int × Int)) (hC : Hid (k34.C w A l.length l)) (_hc : Hid (l.length ≤ c)) (hB : Hid (w.cell? ⟨B, 0, none⟩ = some (.slice A l.length c))) (hl : l.length ≤ 9223372036854775806)
    (hn : Hid (∀ (i : Int) (x : S34) (v3 v4 : Value) (w : World) (r : Int), Hid (k34.C w A l.length l) → w.cell? ⟨B, 0, none⟩ = some (.slice A l.length c) → Hid (chk i x = some r) → Calls Try.prog 19 #[.int .i64 i, .agg #[.string x.f0, .string x.f1, v3, v4], .pointer (some ⟨B, 0, none⟩)] w (RetL r w)))
    (h : Hid (lookZ chk l 0 = some r)) :
    Calls Try.prog 16 #[.agg #[.slice A l.length c], .func (.func 19) #[] #[.pointer (some ⟨B, 0, none⟩)]] w (RetI (lookV r) w) := by
  have Hr : Hid (lookZ chk (l.drop 0) ((0 : Nat) : Int) = some r) := Lib.hid h.out
  have hlb : B < w.heap.size := World.block_lt_of_cell? _ _ hB.out
  have HBw : Below w.heap.size w (w.alloc (.cells #[.slice A l.length c] 25)) := (Below.refl _ _).alloc (Nat.le_refl _) _
  clear h
  go_enter Try.func16, Try.ntmps16
  go_wp2
  go_loopw [11] (fun vk wr => ∃ k : Nat, k ≤ l.length ∧ vk = .int .i64 k ∧ Hid (lookZ chk (l.drop k) (k : Int) = some r) ∧ Below w.heap.size w wr) (fun vk _ => l.length - (intOf vk).toNat)
  case atStart => exact ⟨0, Nat.zero_le _, rfl, Hr, HBw⟩
  case round =>
    obtain ⟨k, hk, rfl, hix, hbw⟩ := hrel
    clear Hr
    by_cases hlt : k < l.length
    · have hC2 := Kd.C_below hC.out hbw
      obtain ⟨ad, A2, c2, A3, c3, e, h0, h1, h2, h3, _⟩ := at_T34 hC2 (k : Int) (by omega) (by omega)
      cases e
      rw [Int.toNat_natCast] at h0 h1 h2 h3
      have hdrop : l.drop k = rd_T34 l (k : Int) :: l.drop (k + 1) := by
        rw [List.drop_eq_getElem_cons hlt]; congr 1
        unfold rd_T34; rw [Int.toNat_natCast, List.getD_eq_getElem?_getD, List.getElem?_eq_getElem hlt]; rfl
      have hst := hix.out
      rw [hdrop, lookZ] at hst
      obtain ⟨q, hq, hst⟩ := Option.bind_eq_some_iff.mp hst
      have Hst := Lib.hid hst; clear hst hdrop hix
      have Hq := Lib.hid hq; clear hq
      generalize rd_T34 l (k : Int) = x at *
      go_wp2_with fail
      have hcell : (wr.alloc (.cells #[.string x.f0, .string x.f1, .slice A2 x.f2.length c2, .slice A3 x.f3.length c3] 34)).cell? ⟨B, 0, none⟩ = some (.slice (some ad) l.length c) := (World.cell?_alloc_lt _ _ _ (Nat.lt_of_lt_of_le hlb hbw.size)).trans ((hbw.cell (p := ⟨B, 0, none⟩) hlb).trans hB.out)
      have HBr : Below w.heap.size w (wr.alloc (.cells #[.string x.f0, .string x.f1, .slice A2 x.f2.length c2, .slice A3 x.f3.length c3] 34)) := hbw.alloc hbw.size _
      refine (hn.out (k : Int) x _ _ _ q (Lib.hid (Kd.C_below hC.out HBr)) hcell Hq).mono ?_
      rintro e w2 ⟨rfl, hb2⟩
      have HB3 := HBr.trans (hb2.mono HBr.size)
      clear hb2 hcell
      have hst := Hst.out
      by_cases hq0 : q = 0
      · subst hq0
        rw [if_pos rfl] at hst
        have Hs2 := Lib.hid hst; clear hst Hst
        go_wp2
        go_roundw
        case rel => exact ⟨k + 1, by omega, by go_num, Lib.hid (by rw [← Hs2.out]; rfl), HB3⟩
        case measure => simp [intOf]; omega
      · rw [if_neg hq0] at hst
        obtain rfl := Option.some.inj hst
        clear hst Hst
        have hqn : ¬ (q = 0) := hq0
        go_wp2
        go_ret
        exact ⟨rfl, HB3⟩
    · obtain rfl : k = l.length := by omega
      have hst := hix.out
      rw [List.drop_length, lookZ] at hst
      obtain rfl : none = r := Option.some.inj hst
      clear hst hix
      go_wp2
      go_ret
      exact ⟨rfl, hbw⟩

/-- What Check tells: the first look's find, else the second's, else the two noughts. -/
def kin_Check.f (k : Nat) (l : List S34) : Option (Int × Int) :=
  if l.length ≤ 9223372036854775806 then
    (lookZ (check1 k l) l 0).bind fun r => match r with
      | some p => some p
      | none => (lookZ (fun _ x => check2 k l x) l 0).bind fun r2 => some (r2.getD (0, 0))
  else none

end Go.Proofs.Ytddggdhkhfephaa
