/- KinOrders, in plain Lean: to stand for is an order among the names of a tree without a fault. -/
import Derived.Test.YtddggdhkhfephaaQx4
import Derived.Test.YtddggdhkhfephaaTree
namespace Go.Proofs.Ytddggdhkhfephaa.Pure
open Go Go.RowKit Go.Proofs.Ytddggdhkhfephaa Go.Proofs.Ytddggdhkhfephaa.Q Go.Proofs.YtddggdhkhfephaaW.PrintWords Go.Proofs.YtddggdhkhfephaaW.PrintLast

theorem j1_ev (l : List S34) (hl : SM l) (hn : Named l) (g : Good l) (x y z : ByteArray) (hx : isB l x = true) (hy : isB l y = true) (nx : x ≠ NULL) (ny : y ≠ NULL) :
    Ev (fun k => changelinglaw6_KinOrders.j1 k x y z false l) true := by
  refine Ev.step (f := fun k => (changelinglaw6_told.f k).bind fun t207 => (if t207 = true then ((kin_Sub.f k l x x).bind fun t208 => (if t208 = true then ((kin_Sub.f k l (⟨#[110, 117, 108, 108]⟩ : ByteArray) x).bind fun t209 => (if t209 = true then ((kin_Sub.f k l x (⟨#[110, 117, 108, 108]⟩ : ByteArray)).bind fun t210 => (if t210 = true then (none) else ((kin_Sub.f k l x y).bind fun t211 => (if t211 = true then ((kin_Sub.f k l y z).bind fun t212 => (if t212 = true then ((kin_Sub.f k l x z).bind fun t213 => (some t213)) else (some true))) else (some true))))) else (none))) else (none))) else (none))) (fun k => by simp only [changelinglaw6_KinOrders.j1]; rw [if_neg (by decide)]) ?_
  refine Ev.bind (f := fun k t207 => (if t207 = true then ((kin_Sub.f k l x x).bind fun t208 => (if t208 = true then ((kin_Sub.f k l (⟨#[110, 117, 108, 108]⟩ : ByteArray) x).bind fun t209 => (if t209 = true then ((kin_Sub.f k l x (⟨#[110, 117, 108, 108]⟩ : ByteArray)).bind fun t210 => (if t210 = true then (none) else ((kin_Sub.f k l x y).bind fun t211 => (if t211 = true then ((kin_Sub.f k l y z).bind fun t212 => (if t212 = true then ((kin_Sub.f k l x z).bind fun t213 => (some t213)) else (some true))) else (some true))))) else (none))) else (none))) else (none))) told_ev ?_
  refine Ev.congr (f := fun k => (kin_Sub.f k l x x).bind fun t208 => (if t208 = true then ((kin_Sub.f k l (⟨#[110, 117, 108, 108]⟩ : ByteArray) x).bind fun t209 => (if t209 = true then ((kin_Sub.f k l x (⟨#[110, 117, 108, 108]⟩ : ByteArray)).bind fun t210 => (if t210 = true then (none) else ((kin_Sub.f k l x y).bind fun t211 => (if t211 = true then ((kin_Sub.f k l y z).bind fun t212 => (if t212 = true then ((kin_Sub.f k l x z).bind fun t213 => (some t213)) else (some true))) else (some true))))) else (none))) else (none))) (fun k => if_pos rfl) ?_
  refine Ev.bind (f := fun k t208 => (if t208 = true then ((kin_Sub.f k l (⟨#[110, 117, 108, 108]⟩ : ByteArray) x).bind fun t209 => (if t209 = true then ((kin_Sub.f k l x (⟨#[110, 117, 108, 108]⟩ : ByteArray)).bind fun t210 => (if t210 = true then (none) else ((kin_Sub.f k l x y).bind fun t211 => (if t211 = true then ((kin_Sub.f k l y z).bind fun t212 => (if t212 = true then ((kin_Sub.f k l x z).bind fun t213 => (some t213)) else (some true))) else (some true))))) else (none))) else (none))) (sub_ev l x x hl hx nx) ?_
  refine Ev.congr (f := fun k => (kin_Sub.f k l (⟨#[110, 117, 108, 108]⟩ : ByteArray) x).bind fun t209 => (if t209 = true then ((kin_Sub.f k l x (⟨#[110, 117, 108, 108]⟩ : ByteArray)).bind fun t210 => (if t210 = true then (none) else ((kin_Sub.f k l x y).bind fun t211 => (if t211 = true then ((kin_Sub.f k l y z).bind fun t212 => (if t212 = true then ((kin_Sub.f k l x z).bind fun t213 => (some t213)) else (some true))) else (some true))))) else (none))) (fun k => if_pos (by simpa using ch_self hx)) ?_
  refine Ev.bind (f := fun k t209 => (if t209 = true then ((kin_Sub.f k l x (⟨#[110, 117, 108, 108]⟩ : ByteArray)).bind fun t210 => (if t210 = true then (none) else ((kin_Sub.f k l x y).bind fun t211 => (if t211 = true then ((kin_Sub.f k l y z).bind fun t212 => (if t212 = true then ((kin_Sub.f k l x z).bind fun t213 => (some t213)) else (some true))) else (some true))))) else (none))) (sub_null_ev l x hl nx) ?_
  refine Ev.congr (f := fun k => (kin_Sub.f k l x NULL).bind fun t210 => (if t210 = true then (none) else ((kin_Sub.f k l x y).bind fun t211 => (if t211 = true then ((kin_Sub.f k l y z).bind fun t212 => (if t212 = true then ((kin_Sub.f k l x z).bind fun t213 => (some t213)) else (some true))) else (some true))))) (fun k => if_pos hx) ?_
  refine Ev.bind (f := fun k t210 => (if t210 = true then (none) else ((kin_Sub.f k l x y).bind fun t211 => (if t211 = true then ((kin_Sub.f k l y z).bind fun t212 => (if t212 = true then ((kin_Sub.f k l x z).bind fun t213 => (some t213)) else (some true))) else (some true))))) (sub_ev l x NULL hl hx nx) ?_
  have hnull : NULL ∉ ch l x := by
    intro h
    obtain ⟨z, hw, _⟩ := ch_walk l x
    have := hw.all _ h
    rw [null_not hn] at this; cases this
  refine Ev.congr (f := fun k => (kin_Sub.f k l x y).bind fun t211 => (if t211 = true then ((kin_Sub.f k l y z).bind fun t212 => (if t212 = true then ((kin_Sub.f k l x z).bind fun t213 => (some t213)) else (some true))) else (some true))) (fun k => if_neg (by simpa using hnull)) ?_
  refine Ev.bind (f := fun k t211 => (if t211 = true then ((kin_Sub.f k l y z).bind fun t212 => (if t212 = true then ((kin_Sub.f k l x z).bind fun t213 => (some t213)) else (some true))) else (some true))) (sub_ev l x y hl hx nx) ?_
  by_cases h1 : y ∈ ch l x
  · refine Ev.congr (f := fun k => (kin_Sub.f k l y z).bind fun t212 => (if t212 = true then ((kin_Sub.f k l x z).bind fun t213 => (some t213)) else (some true))) (fun k => if_pos (by simpa using h1)) ?_
    refine Ev.bind (f := fun k t212 => (if t212 = true then ((kin_Sub.f k l x z).bind fun t213 => (some t213)) else (some true))) (sub_ev l y z hl hy ny) ?_
    by_cases h2 : z ∈ ch l y
    · refine Ev.congr (f := fun k => (kin_Sub.f k l x z).bind fun t213 => (some t213)) (fun k => if_pos (by simpa using h2)) ?_
      refine Ev.bind (f := fun _ t => some t) (sub_ev l x z hl hx nx) ?_
      rw [decide_eq_true (g.trans hx h1 h2)]
      exact Ev.now _
    · exact Ev.congr (fun k => if_neg (by simpa using h2)) (Ev.now _)
  · exact Ev.congr (fun k => if_neg (by simpa using h1)) (Ev.now _)

theorem pick {l : List S34} (h0 : l.length ≠ 0) (h6 : l.length ≤ 6) (a : Int) : ∃ p : Int, Int.tmod (IntKind.u64.wrap a) (IntKind.u64.wrap (l.length : Int)) = p ∧ 0 ≤ p ∧ p < (l.length : Int) ∧ rd_T34 l p ∈ l := by
  have e : IntKind.u64.wrap (l.length : Int) = (l.length : Int) := IntWalk.u64_in _ (by omega)
  rw [e]
  have p0 := Int.tmod_nonneg (l.length : Int) (u64_low a)
  have p1 := Int.tmod_lt_of_pos (IntKind.u64.wrap a) (show 0 < (l.length : Int) by omega)
  refine ⟨_, rfl, p0, p1, ?_⟩
  generalize Int.tmod (IntKind.u64.wrap a) (l.length : Int) = p at *
  unfold rd_T34
  have : p.toNat < l.length := by omega
  rw [List.getD_eq_getElem?_getD, List.getElem?_eq_getElem this]
  exact List.getElem_mem this

theorem KinOrders : changelinglaw6_KinOrders.Pure := by
  intro l0 a1 a2 a3 hm hb _ _ _ _
  refine Ev.rounds (g := fun k => changelinglaw6_KinOrders.f k l0 a1 a2 a3) ?_
  obtain ⟨t, ht, h6, hn⟩ := tree_ev l0 (by omega)
  have hl : SM t := by unfold SM; omega
  obtain ⟨r, hr, hc⟩ := check_ev t hl
  have T : Ev (fun k => changelinglaw6_KinOrders.j0 k a1 a2 a3 true t) true :=
    Ev.step (f := fun k => (changelinglaw6_told.f k).bind fun t => some t) (fun k => by simp only [changelinglaw6_KinOrders.j0]; rw [if_pos trivial]) (Ev.bind (f := fun _ t => some t) told_ev (Ev.now _))
  refine Ev.bind (g := fun k => changelinglaw6_Tree.f k l0) (f := fun k t195 => ((kin_Check.f k t195).bind fun bt199 => (if bt199.1 = 0 then (changelinglaw6_KinOrders.j0 k a1 a2 a3 ((t195.length : Int) == 0) t195) else (changelinglaw6_KinOrders.j0 k a1 a2 a3 true t195)))) ht ?_
  refine Ev.bind (f := fun k bt199 => (if bt199.1 = 0 then (changelinglaw6_KinOrders.j0 k a1 a2 a3 ((t.length : Int) == 0) t) else (changelinglaw6_KinOrders.j0 k a1 a2 a3 true t))) hr ?_
  by_cases h0 : r.1 = 0
  · refine Ev.congr (fun k => if_pos h0) ?_
    have c := hc h0
    have g := clean_good c hn
    by_cases he : t.length = 0
    · rw [show ((t.length : Int) == 0) = true by rw [he]; rfl]; exact T
    · rw [show ((t.length : Int) == 0) = false from beq_eq_false_iff_ne.2 (by omega)]
      obtain ⟨p1, e1, l1, u1, m1⟩ := pick he h6 a1
      obtain ⟨p2, e2, l2, u2, m2⟩ := pick he h6 a2
      obtain ⟨p3, e3, l3, u3, m3⟩ := pick he h6 a3
      have ew : IntKind.u64.wrap (t.length : Int) = (t.length : Int) := IntWalk.u64_in _ (by omega)
      have x1 := mem_is m1
      have x2 := mem_is m2
      have n1 := (five (hn _ m1)).2.1
      have n2 := (five (hn _ m2)).2.1
      have J : ∀ z, Ev (fun k => changelinglaw6_KinOrders.j1 k (rd_T34 t p1).f0 (rd_T34 t p2).f0 z false t) true := fun z => j1_ev t hl hn g _ _ z x1 x2 n1 n2
      by_cases e : (rd_T34 t p1).f0 = (rd_T34 t p2).f0
      · refine Ev.step (f := fun k => changelinglaw6_KinOrders.j1 k (rd_T34 t p1).f0 (rd_T34 t p2).f0 (rd_T34 t p3).f0 false t) (fun k => ?_) (J _)
        simp only [changelinglaw6_KinOrders.j0]
        rw [e1, e2, e3, ew, if_neg (by decide), if_neg (by omega), if_pos l1, if_pos u1, if_pos l2, if_pos u2, if_pos l3, if_pos u3, if_pos (by rw [e])]
      · refine Ev.step (f := fun k => (kin_Sub.f k t (rd_T34 t p1).f0 (rd_T34 t p2).f0).bind fun t205 => (if t205 = true then ((kin_Sub.f k t (rd_T34 t p2).f0 (rd_T34 t p1).f0).bind fun t206 => (changelinglaw6_KinOrders.j1 k (rd_T34 t p1).f0 (rd_T34 t p2).f0 (rd_T34 t p3).f0 t206 t)) else (changelinglaw6_KinOrders.j1 k (rd_T34 t p1).f0 (rd_T34 t p2).f0 (rd_T34 t p3).f0 false t))) (fun k => ?_) ?_
        · simp only [changelinglaw6_KinOrders.j0]
          rw [e1, e2, e3, ew, if_neg (by decide), if_neg (by omega), if_pos l1, if_pos u1, if_pos l2, if_pos u2, if_pos l3, if_pos u3, if_neg (by rw [list_inj]; exact e)]
        · refine Ev.bind (f := fun k t205 => (if t205 = true then ((kin_Sub.f k t (rd_T34 t p2).f0 (rd_T34 t p1).f0).bind fun t206 => (changelinglaw6_KinOrders.j1 k (rd_T34 t p1).f0 (rd_T34 t p2).f0 (rd_T34 t p3).f0 t206 t)) else (changelinglaw6_KinOrders.j1 k (rd_T34 t p1).f0 (rd_T34 t p2).f0 (rd_T34 t p3).f0 false t))) (sub_ev t _ (rd_T34 t p2).f0 hl x1 n1) ?_
          by_cases h : (rd_T34 t p2).f0 ∈ ch t (rd_T34 t p1).f0
          · refine Ev.congr (f := fun k => (kin_Sub.f k t (rd_T34 t p2).f0 (rd_T34 t p1).f0).bind fun t206 => (changelinglaw6_KinOrders.j1 k (rd_T34 t p1).f0 (rd_T34 t p2).f0 (rd_T34 t p3).f0 t206 t)) (fun k => if_pos (by simpa using h)) ?_
            refine Ev.bind (f := fun k t206 => (changelinglaw6_KinOrders.j1 k (rd_T34 t p1).f0 (rd_T34 t p2).f0 (rd_T34 t p3).f0 t206 t)) (sub_ev t _ (rd_T34 t p1).f0 hl x2 n2) ?_
            rw [decide_eq_false (fun h' => e (g.anti x1 h h'))]
            exact J _
          · exact Ev.congr (fun k => if_neg (by simpa using h)) (J _)
  · exact Ev.congr (fun k => if_neg h0) T

end Go.Proofs.Ytddggdhkhfephaa.Pure
