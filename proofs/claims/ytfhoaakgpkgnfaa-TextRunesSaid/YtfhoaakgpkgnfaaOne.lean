import Derived.Test.YtfhoaakgpkgnfaaQx5
import Derived.Test.YtfhoaakgpkgnfaaGiven
import Derived.Lib.DecodeN
import Derived.IntWalk
namespace Go.Proofs.Ytfhoaakgpkgnfaa.Pure
open Go.RowKit Go.Proofs.Ytfhoaakgpkgnfaa.Q Go.Proofs.YtfhoaakgpkgnfaaW.PrintWords Go.Proofs.YtfhoaakgpkgnfaaW.PrintLast Go.Proofs.YtfhoaakgpkgnfaaW.PrintMore

/-- Is what a place decodes to no UTF-8? -/
def badB (d : Nat × Nat) : Bool := decide (d.1 = 65533 ∧ d.2 = 1)
def tri (d : Nat × Nat) : Int × Int × Bool := ((d.1 : Int), (d.2 : Int), badB d)
def by_ (s : ByteArray) (i : Nat) : Nat := (s.get! i).toNat
theorem by_lt (s : ByteArray) (i : Nat) : by_ s i < 256 := (s.get! i).toNat_lt
theorem bt_by (s : ByteArray) (i : Nat) (h : i < s.size) : bt s (i : Int) = (by_ s i : Int) := by
  unfold bt by_
  rw [dif_pos (by simpa using h)]
  have e : s.get! i = s[i]'h := by
    simp [ByteArray.get!, getElem!_pos, h]
    rfl
  rw [e]; simp
theorem and63 (x : Int) (h0 : 0 ≤ x) (h1 : x < 256) : Go.bits .and .i64 x 63 = x % 64 := bits_mask .i64 8 (by decide) (fun n h₀ h₁ => by rw [IntKind.wrap_i64]; omega) 6 (by decide) x h0 (by omega)
theorem and31 (x : Int) (h0 : 0 ≤ x) (h1 : x < 256) : Go.bits .and .i32 x 31 = x % 32 := bits_mask .i32 8 (by decide) (fun n h₀ h₁ => by rw [IntKind.wrap_i32]; omega) 5 (by decide) x h0 (by omega)
theorem and15 (x : Int) (h0 : 0 ≤ x) (h1 : x < 256) : Go.bits .and .i32 x 15 = x % 16 := bits_mask .i32 8 (by decide) (fun n h₀ h₁ => by rw [IntKind.wrap_i32]; omega) 4 (by decide) x h0 (by omega)
theorem and7 (x : Int) (h0 : 0 ≤ x) (h1 : x < 256) : Go.bits .and .i32 x 7 = x % 8 := bits_mask .i32 8 (by decide) (fun n h₀ h₁ => by rw [IntKind.wrap_i32]; omega) 3 (by decide) x h0 (by omega)

/-- One more byte is taken in. -/
theorem grow (r b : Nat) (hr : r < 1048576) (hb : b < 256) : Go.bits .or .i32 (wrap32 ((r : Int) * 64)) (wrap32 (Go.bits .and .i64 (b : Int) 63)) = ((r * 64 + b % 64 : Nat) : Int) := by
  have e1 : wrap32 ((r : Int) * 64) = ((r * 64 : Nat) : Int) := by rw [IntWalk.wrap32_in _ (by omega)]; omega
  have e2 : wrap32 (Go.bits .and .i64 (b : Int) 63) = ((b % 64 : Nat) : Int) := by rw [and63 _ (by omega) (by omega), IntWalk.wrap32_in _ (by omega)]; omega
  rw [e1, e2, i32_or6 _ _ (by omega) (by omega) (by omega) (by omega) (by omega)]
  omega
theorem w_byte (b : Nat) (hb : b < 256) : wrap64 (b : Int) = (b : Int) := IntWalk.wrap64_in _ (by omega)
theorem w_place (i j : Nat) (h : i + j ≤ 1000000000000) : wrap64 ((i : Int) + (j : Int)) = ((i + j : Nat) : Int) := by rw [IntWalk.wrap64_in _ (by omega)]; omega

theorem l0_end (s : ByteArray) (i n : Nat) (lo hi : Int) (r : Nat) : Ev (fun k => changelingref1_One.l0 k s (i : Int) (n : Int) lo hi (r : Int) (n : Int)) ((r : Int), (n : Int), false) :=
  Ev.step (f := fun _ => some ((r : Int), (n : Int), false)) (fun k => by simp only [changelingref1_One.l0]; rw [if_neg (by omega)]) (Ev.now _)

theorem l0_one (s : ByteArray) (i n lo hi r : Nat) (res : Int × Int × Bool) (hs : s.size ≤ 1000000000000) (hn : 1 < n) (hi1 : i + n ≤ s.size) (hr : r < 1048576) (hlo : 128 ≤ lo) (hhi : hi ≤ 191)
    (hbad : by_ s (i + 1) < lo ∨ hi < by_ s (i + 1) → res = (65533, 1, true)) (hgo : ¬ (by_ s (i + 1) < lo ∨ hi < by_ s (i + 1)) → Ev (fun k => changelingref1_One.l0 k s (i : Int) (n : Int) lo hi ((r * 64 + by_ s (i + 1) % 64 : Nat) : Int) ((2 : Nat) : Int)) res) :
    Ev (fun k => changelingref1_One.l0 k s (i : Int) (n : Int) lo hi (r : Int) 1) res := by
  have hb := by_lt s (i + 1)
  have p1 : (1 : Int) < (n : Int) := by omega
  have p2 : 0 ≤ ((i + 1 : Nat) : Int) := by omega
  have p3 : ((i + 1 : Nat) : Int) < (s.size : Int) := by omega
  have hg := fun k => grow r (by_ s (i + 1)) (by omega : r < 1048576) (k : by_ s (i + 1) < 256)
  have hw := w_place i 1 (by omega)
  have ht := bt_by s (i + 1) (by omega)
  have hwb := w_byte _ hb
  generalize by_ s (i + 1) = b at *
  by_cases h : b < lo ∨ hi < b
  · rw [hbad h]
    have q : ((b : Int) < (lo : Int)) ∨ (¬ (b : Int) < (lo : Int) ∧ (b : Int) > (hi : Int)) := by clear hw ht hwb hg; omega
    refine Ev.step (f := fun _ => some (65533, 1, true)) (fun k => ?_) (Ev.now _)
    simp only [changelingref1_One.l0]
    rw [show ((1 : Nat) : Int) = 1 from rfl] at hw
    simp only [hw, ht, hwb]
    rw [if_pos p1, if_pos p2, if_pos p3, if_pos trivial]
    rcases q with q | ⟨q, q'⟩
    · rw [if_pos q]
    · rw [if_neg q, if_pos q']
  · have q1 : ¬ (b : Int) < (lo : Int) := by clear hw ht hwb hg; omega
    have q2 : ¬ (b : Int) > (hi : Int) := by clear hw ht hwb hg; omega
    have q3 : ¬ (b : Int) < 128 := by clear hw ht hwb hg; omega
    have q4 : ¬ (b : Int) > 191 := by clear hw ht hwb hg; omega
    refine Ev.step (fun k => ?_) (hgo h)
    simp only [changelingref1_One.l0]
    rw [show ((1 : Nat) : Int) = 1 from rfl] at hw
    simp only [hw, ht, hwb]
    rw [if_pos p1, if_pos p2, if_pos p3, if_pos trivial, if_neg q1, if_neg q2, if_neg q3, if_neg q4, hg hb, show wrap64 (1 + 1) = ((2 : Nat) : Int) from by decide +kernel]

theorem l0_more (s : ByteArray) (i n j r : Nat) (lo hi : Int) (res : Int × Int × Bool) (hs : s.size ≤ 1000000000000) (hj : 2 ≤ j) (hn : j < n) (hi1 : i + n ≤ s.size) (hr : r < 1048576)
    (hbad : by_ s (i + j) < 128 ∨ 191 < by_ s (i + j) → res = (65533, 1, true)) (hgo : ¬ (by_ s (i + j) < 128 ∨ 191 < by_ s (i + j)) → Ev (fun k => changelingref1_One.l0 k s (i : Int) (n : Int) lo hi ((r * 64 + by_ s (i + j) % 64 : Nat) : Int) ((j + 1 : Nat) : Int)) res) :
    Ev (fun k => changelingref1_One.l0 k s (i : Int) (n : Int) lo hi (r : Int) (j : Int)) res := by
  have hb := by_lt s (i + j)
  have p1 : (j : Int) < (n : Int) := by omega
  have p2 : 0 ≤ ((i + j : Nat) : Int) := by omega
  have p3 : ((i + j : Nat) : Int) < (s.size : Int) := by omega
  have p4 : ¬ (j : Int) = 1 := by omega
  have hg := fun k => grow r (by_ s (i + j)) (by omega : r < 1048576) (k : by_ s (i + j) < 256)
  have hw := w_place i j (by omega)
  have hw1 : wrap64 ((j : Int) + 1) = ((j + 1 : Nat) : Int) := w_place j 1 (by omega)
  have ht := bt_by s (i + j) (by omega)
  have hwb := w_byte _ hb
  generalize by_ s (i + j) = b at *
  by_cases h : b < 128 ∨ 191 < b
  · rw [hbad h]
    have q : ((b : Int) < 128) ∨ (¬ (b : Int) < 128 ∧ (b : Int) > 191) := by clear hw ht hwb hg hw1; omega
    refine Ev.step (f := fun _ => some (65533, 1, true)) (fun k => ?_) (Ev.now _)
    simp only [changelingref1_One.l0, hw, ht, hwb]
    rw [if_pos p1, if_pos p2, if_pos p3, if_neg p4]
    rcases q with q | ⟨q, q'⟩
    · rw [if_pos q]
    · rw [if_neg q, if_pos q']
  · have q3 : ¬ (b : Int) < 128 := by clear hw ht hwb hg hw1; omega
    have q4 : ¬ (b : Int) > 191 := by clear hw ht hwb hg hw1; omega
    refine Ev.step (fun k => ?_) (hgo h)
    simp only [changelingref1_One.l0, hw, ht, hwb]
    rw [if_pos p1, if_pos p2, if_pos p3, if_neg p4, if_neg q3, if_neg q4, hg hb, hw1]

theorem mask2 : wrap32 ((shl .i32 1 (IntKind.u64.wrap (wrap64 (7 - ((2 : Nat) : Int))))) - 1) = 31 := by decide +kernel
theorem mask3 : wrap32 ((shl .i32 1 (IntKind.u64.wrap (wrap64 (7 - ((3 : Nat) : Int))))) - 1) = 15 := by decide +kernel
theorem mask4 : wrap32 ((shl .i32 1 (IntKind.u64.wrap (wrap64 (7 - ((4 : Nat) : Int))))) - 1) = 7 := by decide +kernel
theorem first_mask (n m b0 : Nat) (hb : b0 < 256) (h : (n = 2 ∧ m = 32) ∨ (n = 3 ∧ m = 16) ∨ (n = 4 ∧ m = 8)) :
    Go.bits .and .i32 (wrap32 (b0 : Int)) (wrap32 ((shl .i32 1 (IntKind.u64.wrap (wrap64 (7 - (n : Int))))) - 1)) = ((b0 % m : Nat) : Int) ∧ 0 ≤ IntKind.u64.wrap (wrap64 (7 - (n : Int))) := by
  have hw : wrap32 (b0 : Int) = (b0 : Int) := IntWalk.wrap32_in _ (by omega)
  rw [hw]
  rcases h with ⟨rfl, rfl⟩ | ⟨rfl, rfl⟩ | ⟨rfl, rfl⟩
  · rw [mask2, and31 _ (by omega) (by omega)]; exact ⟨rfl, by decide +kernel⟩
  · rw [mask3, and15 _ (by omega) (by omega)]; exact ⟨rfl, by decide +kernel⟩
  · rw [mask4, and7 _ (by omega) (by omega)]; exact ⟨rfl, by decide +kernel⟩

theorem tri_bad : tri (65533, 1) = (65533, 1, true) := rfl
theorem tri_wide (c n : Nat) (h : 2 ≤ n) : tri (c, n) = ((c : Int), (n : Int), false) := by
  unfold tri badB; simp only [Prod.mk.injEq, true_and, decide_eq_false_iff_not]; omega

theorem j3_ev (s : ByteArray) (i n lo hi b0 : Nat) (hs : s.size ≤ 900000000000) (hi0 : i < s.size) (hb : b0 < 256) (hn : n = 2 ∨ n = 3 ∨ n = 4) (hlo : 128 ≤ lo) (hhi : hi ≤ 191) :
    Ev (fun k => changelingref1_One.j3 k s (i : Int) (b0 : Int) (n : Int) lo hi) (tri (Lib.slowN (s.size - i) b0 (by_ s (i + 1)) (by_ s (i + 2)) (by_ s (i + 3)) n lo hi)) := by
  have hw := w_place i n (by omega)
  have hs : s.size ≤ 1000000000000 := by omega
  have hn0 : ¬ (n : Int) = 0 := by clear hw; omega
  by_cases hlen : s.size - i < n
  · have c : ((i + n : Nat) : Int) > (s.size : Int) := by clear hw; omega
    refine Ev.step (f := fun k => changelingref1_One.j4 k s (i : Int) (b0 : Int) (n : Int) lo hi true) (fun k => ?_) ?_
    · simp only [changelingref1_One.j3, hw]; rw [if_neg hn0, decide_eq_true c]
    · rw [Lib.slowN, if_pos hlen]
      exact Ev.step (f := fun _ => some (65533, 1, true)) (fun k => by simp only [changelingref1_One.j4]; rw [if_pos trivial]) (Ev.now _)
  · have c : ¬ ((i + n : Nat) : Int) > (s.size : Int) := by clear hw; omega
    have hin : i + n ≤ s.size := by clear hw; omega
    refine Ev.step (f := fun k => changelingref1_One.j4 k s (i : Int) (b0 : Int) (n : Int) lo hi false) (fun k => ?_) ?_
    · simp only [changelingref1_One.j3, hw]; rw [if_neg hn0, decide_eq_false c]
    · clear hw
      obtain ⟨m, hm⟩ : ∃ m, (n = 2 ∧ m = 32) ∨ (n = 3 ∧ m = 16) ∨ (n = 4 ∧ m = 8) := by
        rcases hn with rfl | rfl | rfl
        · exact ⟨32, .inl ⟨rfl, rfl⟩⟩
        · exact ⟨16, .inr (.inl ⟨rfl, rfl⟩)⟩
        · exact ⟨8, .inr (.inr ⟨rfl, rfl⟩)⟩
      obtain ⟨f1, f2⟩ := first_mask n m b0 hb hm
      refine Ev.step (f := fun k => changelingref1_One.l0 k s (i : Int) (n : Int) lo hi ((b0 % m : Nat) : Int) 1) (fun k => ?_) ?_
      · simp only [changelingref1_One.j4]; rw [if_neg (by decide), if_pos f2, f1]
      · clear f1 f2 c hn0
        have hmr : b0 % m < 32 := by rcases hm with ⟨_, rfl⟩ | ⟨_, rfl⟩ | ⟨_, rfl⟩ <;> omega
        rw [Lib.slowN, if_neg hlen]
        refine l0_one s i n lo hi (b0 % m) _ hs (by omega) hin (by omega) hlo hhi (fun h => by rw [if_pos h]; rfl) (fun h => ?_)
        rw [if_neg h]
        have b1 := by_lt s (i + 1)
        have b2 := by_lt s (i + 2)
        have b3 := by_lt s (i + 3)
        rcases hm with ⟨rfl, rfl⟩ | ⟨rfl, rfl⟩ | ⟨rfl, rfl⟩
        · rw [if_pos (by decide), tri_wide _ _ (by decide)]; exact l0_end s i 2 lo hi _
        · rw [if_neg (by decide)]
          refine l0_more s i 3 2 _ lo hi _ hs (by decide) (by decide) hin (by omega) (fun h => by rw [if_pos h]; rfl) (fun h => ?_)
          rw [if_neg h, if_pos (by decide), tri_wide _ _ (by decide)]
          have := l0_end s i 3 lo hi ((b0 % 16 * 64 + by_ s (i + 1) % 64) * 64 + by_ s (i + 2) % 64)
          rw [show b0 % 16 * 4096 + by_ s (i + 1) % 64 * 64 + by_ s (i + 2) % 64 = (b0 % 16 * 64 + by_ s (i + 1) % 64) * 64 + by_ s (i + 2) % 64 by omega]
          exact this
        · rw [if_neg (by decide)]
          refine l0_more s i 4 2 _ lo hi _ hs (by decide) (by decide) hin (by omega) (fun h => by rw [if_pos h]; rfl) (fun h => ?_)
          rw [if_neg h, if_neg (by decide)]
          refine l0_more s i 4 3 _ lo hi _ hs (by decide) (by decide) hin (by omega) (fun h => by rw [if_pos h]; rfl) (fun h => ?_)
          rw [if_neg h, tri_wide _ _ (by decide)]
          have := l0_end s i 4 lo hi (((b0 % 8 * 64 + by_ s (i + 1) % 64) * 64 + by_ s (i + 2) % 64) * 64 + by_ s (i + 3) % 64)
          rw [show b0 % 8 * 262144 + by_ s (i + 1) % 64 * 4096 + by_ s (i + 2) % 64 * 64 + by_ s (i + 3) % 64 = ((b0 % 8 * 64 + by_ s (i + 1) % 64) * 64 + by_ s (i + 2) % 64) * 64 + by_ s (i + 3) % 64 by omega]
          exact this
theorem j3_bad (s : ByteArray) (i b0 : Nat) (lo hi : Int) : Ev (fun k => changelingref1_One.j3 k s (i : Int) (b0 : Int) 0 lo hi) (65533, 1, true) :=
  Ev.step (f := fun k => changelingref1_One.j4 k s (i : Int) (b0 : Int) 0 lo hi true) (fun k => by simp only [changelingref1_One.j3]; rw [if_pos trivial]) (Ev.step (f := fun _ => some (65533, 1, true)) (fun k => by simp only [changelingref1_One.j4]; rw [if_pos trivial]) (Ev.now _))
theorem badB_small {b : Nat} (h : b < 128) : badB (b, 1) = false := by unfold badB; simp; omega

theorem one_ev (s : ByteArray) (i : Nat) (hs : s.size ≤ 900000000000) (hi0 : i < s.size) : Ev (fun k => changelingref1_One.f k s (i : Int)) (tri (Utf8.decode s i)) := by
  have hb := by_lt s i
  have b1 := by_lt s (i + 1)
  have b2 := by_lt s (i + 2)
  have b3 := by_lt s (i + 3)
  have hd : Utf8.decode s i = Lib.decodeN (s.size - i) (by_ s i) (by_ s (i + 1)) (by_ s (i + 2)) (by_ s (i + 3)) := Lib.decode_at s i
  have ht := bt_by s i hi0
  have p1 : 0 ≤ (i : Int) := by omega
  have p2 : (i : Int) < (s.size : Int) := by omega
  have hn1 : 1 ≤ s.size - i := by omega
  have J := fun n lo hi => j3_ev s i n lo hi (by_ s i) hs hi0 hb
  have JB := j3_bad s i (by_ s i) 128 191
  have B : ∀ b0 b1 b2 b3 n, (128 ≤ b0 ∧ b0 < 194) ∨ 245 ≤ b0 → Lib.decodeN n b0 b1 b2 b3 = (65533, 1) := by
    intro b0 b1 b2 b3 n h
    unfold Lib.decodeN
    repeat' split
    all_goals first | rfl | omega
  rw [hd]
  generalize by_ s i = b0 at *
  generalize by_ s (i + 1) = c1 at *
  generalize by_ s (i + 2) = c2 at *
  generalize by_ s (i + 3) = c3 at *
  by_cases h0 : b0 < 128
  · have e : Lib.decodeN (s.size - i) b0 c1 c2 c3 = (b0, 1) := by unfold Lib.decodeN; rw [if_pos h0]
    have hw : wrap32 (b0 : Int) = (b0 : Int) := IntWalk.wrap32_in _ (by omega)
    have p3 : (b0 : Int) < 128 := by omega
    rw [e]
    refine Ev.congr (f := fun _ => some (tri (b0, 1))) (fun k => ?_) (Ev.now _)
    unfold changelingref1_One.f; rw [ht, if_pos p1, if_pos p2, if_pos p3, hw]
    unfold tri; rw [badB_small h0]; rfl
  · have p3 : ¬ (b0 : Int) < 128 := by omega
    have go0 : ∀ res, Ev (fun k => changelingref1_One.j0 k s (i : Int) (b0 : Int) 0 128 191 (decide (194 ≤ b0 ∧ b0 ≤ 223))) res → Ev (fun k => changelingref1_One.f k s (i : Int)) res := by
      intro res h
      refine Ev.congr (fun k => ?_) h
      unfold changelingref1_One.f; rw [ht, if_pos p1, if_pos p2, if_neg p3]
      by_cases q : 194 ≤ b0
      · rw [if_pos (by omega)]; congr 1; by_cases q2 : b0 ≤ 223
        · rw [decide_eq_true (show (b0 : Int) ≤ 223 by omega), decide_eq_true ⟨q, q2⟩]
        · rw [decide_eq_false (show ¬ (b0 : Int) ≤ 223 by omega), decide_eq_false (fun h => q2 h.2)]
      · rw [if_neg (by omega), decide_eq_false (fun h => q h.1)]
    refine go0 _ ?_
    clear go0 ht
    by_cases h2 : 194 ≤ b0 ∧ b0 ≤ 223
    · rw [decide_eq_true h2, ← Lib.slow_C2 (s.size - i) b0 c1 c2 c3 hn1 b1 b2 b3 ⟨h2.1, by omega⟩]
      exact Ev.step (fun k => by simp only [changelingref1_One.j0]; rw [if_pos trivial]; rfl) (J 2 128 191 (.inl rfl) (by decide) (by decide))
    · rw [decide_eq_false h2]
      have go1 : ∀ res, Ev (fun k => changelingref1_One.j1 k s (i : Int) (b0 : Int) 0 128 191 (decide (224 ≤ b0 ∧ b0 ≤ 239))) res → Ev (fun k => changelingref1_One.j0 k s (i : Int) (b0 : Int) 0 128 191 false) res := by
        intro res h
        refine Ev.step (fun k => ?_) h
        simp only [changelingref1_One.j0]; rw [if_neg (by decide)]
        by_cases q : 224 ≤ b0
        · rw [if_pos (by omega)]; congr 1; by_cases q2 : b0 ≤ 239
          · rw [decide_eq_true (show (b0 : Int) ≤ 239 by omega), decide_eq_true ⟨q, q2⟩]
          · rw [decide_eq_false (show ¬ (b0 : Int) ≤ 239 by omega), decide_eq_false (fun h => q2 h.2)]
        · rw [if_neg (by omega), decide_eq_false (fun h => q h.1)]
      refine go1 _ ?_
      clear go1
      by_cases h3 : 224 ≤ b0 ∧ b0 ≤ 239
      · rw [decide_eq_true h3]
        by_cases e0 : b0 = 224
        · rw [← Lib.slow_E0 (s.size - i) b0 c1 c2 c3 hn1 b1 b2 b3 e0]
          exact Ev.step (fun k => by simp only [changelingref1_One.j1]; rw [if_pos trivial, if_pos (by omega), if_neg (by omega)]; rfl) (J 3 160 191 (.inr (.inl rfl)) (by decide) (by decide))
        · by_cases e1 : b0 = 237
          · rw [← Lib.slow_ED (s.size - i) b0 c1 c2 c3 hn1 b1 b2 b3 e1]
            exact Ev.step (fun k => by simp only [changelingref1_One.j1]; rw [if_pos trivial, if_neg (by omega), if_pos (by omega)]; rfl) (J 3 128 159 (.inr (.inl rfl)) (by decide) (by decide))
          · rw [← Lib.slow_E1 (s.size - i) b0 c1 c2 c3 hn1 b1 b2 b3 (by omega)]
            exact Ev.step (fun k => by simp only [changelingref1_One.j1]; rw [if_pos trivial, if_neg (by omega), if_neg (by omega)]; rfl) (J 3 128 191 (.inr (.inl rfl)) (by decide) (by decide))
      · rw [decide_eq_false h3]
        have go2 : ∀ res, Ev (fun k => changelingref1_One.j2 k s (i : Int) (b0 : Int) 0 128 191 (decide (240 ≤ b0 ∧ b0 ≤ 244))) res → Ev (fun k => changelingref1_One.j1 k s (i : Int) (b0 : Int) 0 128 191 false) res := by
          intro res h
          refine Ev.step (fun k => ?_) h
          simp only [changelingref1_One.j1]; rw [if_neg (by decide)]
          by_cases q : 240 ≤ b0
          · rw [if_pos (by omega)]; congr 1; by_cases q2 : b0 ≤ 244
            · rw [decide_eq_true (show (b0 : Int) ≤ 244 by omega), decide_eq_true ⟨q, q2⟩]
            · rw [decide_eq_false (show ¬ (b0 : Int) ≤ 244 by omega), decide_eq_false (fun h => q2 h.2)]
          · rw [if_neg (by omega), decide_eq_false (fun h => q h.1)]
        refine go2 _ ?_
        clear go2
        by_cases h4 : 240 ≤ b0 ∧ b0 ≤ 244
        · rw [decide_eq_true h4]
          by_cases e0 : b0 = 240
          · rw [← Lib.slow_F0 (s.size - i) b0 c1 c2 c3 hn1 b1 b2 b3 e0]
            exact Ev.step (fun k => by simp only [changelingref1_One.j2]; rw [if_pos trivial, if_pos (by omega), if_neg (by omega)]; rfl) (J 4 144 191 (.inr (.inr rfl)) (by decide) (by decide))
          · by_cases e1 : b0 = 244
            · rw [← Lib.slow_F4 (s.size - i) b0 c1 c2 c3 hn1 b1 b2 b3 e1]
              exact Ev.step (fun k => by simp only [changelingref1_One.j2]; rw [if_pos trivial, if_neg (by omega), if_pos (by omega)]; rfl) (J 4 128 143 (.inr (.inr rfl)) (by decide) (by decide))
            · rw [← Lib.slow_F1 (s.size - i) b0 c1 c2 c3 hn1 b1 b2 b3 (by omega)]
              exact Ev.step (fun k => by simp only [changelingref1_One.j2]; rw [if_pos trivial, if_neg (by omega), if_neg (by omega)]; rfl) (J 4 128 191 (.inr (.inr rfl)) (by decide) (by decide))
        · rw [decide_eq_false h4, B b0 c1 c2 c3 _ (by omega), tri_bad]
          exact Ev.step (fun k => by simp only [changelingref1_One.j2]; rw [if_neg (by decide)]) JB
end Go.Proofs.Ytfhoaakgpkgnfaa.Pure
