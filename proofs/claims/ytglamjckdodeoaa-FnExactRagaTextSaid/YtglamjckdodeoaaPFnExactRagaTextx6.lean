-- Written by wip/myprint.py: the kit's print, with contracts of this session's own among the functions.
import Derived.Test.YtglamjckdodeoaaPFnExactRagaTextx0
import Derived.Test.YtglamjckdodeoaaPFnExactRagaTextx3
import Derived.Test.YtglamjckdodeoaaPFnExactRagaTextx4
import Derived.Test.YtglamjckdodeoaaPFnExactRagaTextx5
namespace Go.Proofs.Ytglamjckdodeoaa.PFnExactRagaText
open Go.RowKit Go.Proofs.YtglamjckdodeoaaW.PrintWords Go.Proofs.YtglamjckdodeoaaW.PrintLast Go.Proofs.YtglamjckdodeoaaW.PrintMore
attribute [local go_sem] max2_int min2_int max_two min_two max_three min_three max_four min_four   -- for this text's walks alone
set_option linter.unusedVariables false
set_option linter.unusedSimpArgs false

/-! ### impl_ValidRaga: function 20 (this session's own) -/
theorem impl_ValidRaga.cells {W : World} {g t : Nat} {x0 x1 x2 x3 x4 x5 : Value} (h : W.heap[g]? = some (.cells #[x0, x1, x2, x3, x4, x5] t (0, 0))) : (W.cell? ⟨g, 0, none⟩ = some x0 ∧ W.frozen? ⟨g, 0, none⟩ = false) ∧ (W.cell? ⟨g, 1, none⟩ = some x1 ∧ W.frozen? ⟨g, 1, none⟩ = false) ∧ (W.cell? ⟨g, 2, none⟩ = some x2 ∧ W.frozen? ⟨g, 2, none⟩ = false) ∧ (W.cell? ⟨g, 3, none⟩ = some x3 ∧ W.frozen? ⟨g, 3, none⟩ = false) ∧ (W.cell? ⟨g, 4, none⟩ = some x4 ∧ W.frozen? ⟨g, 4, none⟩ = false) ∧ W.cell? ⟨g, 5, none⟩ = some x5 ∧ W.frozen? ⟨g, 5, none⟩ = false :=
  ⟨⟨(blk_cell h 0).trans rfl, blk_frozen h 0⟩, ⟨(blk_cell h 1).trans rfl, blk_frozen h 1⟩, ⟨(blk_cell h 2).trans rfl, blk_frozen h 2⟩, ⟨(blk_cell h 3).trans rfl, blk_frozen h 3⟩, ⟨(blk_cell h 4).trans rfl, blk_frozen h 4⟩, (blk_cell h 5).trans rfl, blk_frozen h 5⟩
mutual
def impl_ValidRaga.j0 : Nat → Bool → ByteArray → List Int → List Int → Int → Int → List (List Int) → Option (Bool)
  | 0, _, _, _, _, _, _, _ => none
  | k + 1, x47, x200000, x200001, x200002, x200003, x200004, x200005 => if x47 = true then (some false) else (impl_ValidRaga.l0 k x200005 (x200005.length : Int) 0 x200000 x200001 x200002 x200003 x200004 x200005)
def impl_ValidRaga.l0 : Nat → List (List Int) → Int → Int → ByteArray → List Int → List Int → Int → Int → List (List Int) → Option (Bool)
  | 0, _, _, _, _, _, _, _, _, _ => none
  | k + 1, x49, x50, x51, x200000, x200001, x200002, x200003, x200004, x200005 => if x51 < x50 then (if 0 ≤ x51 then (if x51 < (x49.length : Int) then (if ((rd_L1 x49 x51).length : Int) = 2 then (if 0 < ((rd_L1 x49 x51).length : Int) then ((impl_toneOk.f (rd (rd_L1 x49 x51) 0)).bind fun t207 => (if t207 = true then (if 1 < ((rd_L1 x49 x51).length : Int) then ((impl_toneOk.f (rd (rd_L1 x49 x51) 1)).bind fun t209 => (if t209 = true then (if (rd (rd_L1 x49 x51) 0) = (rd (rd_L1 x49 x51) 1) then (some false) else (if x51 > 0 then (if 0 ≤ (wrap64 (x51 - 1)) then (if (wrap64 (x51 - 1)) < (x200005.length : Int) then ((slices_Compare_int64_int64.f k (rd_L1 x200005 (wrap64 (x51 - 1))) (rd_L1 x49 x51)).bind fun t213 => (if t213 ≥ 0 then (some false) else (impl_ValidRaga.l0 k x49 x50 (wrap64 (x51 + 1)) x200000 x200001 x200002 x200003 x200004 x200005))) else (none)) else (none)) else (impl_ValidRaga.l0 k x49 x50 (wrap64 (x51 + 1)) x200000 x200001 x200002 x200003 x200004 x200005))) else (some false))) else (none)) else (some false))) else (none)) else (some false)) else (none)) else (none)) else (some true)
end
def impl_ValidRaga.f (k : Nat) (a0_0 : ByteArray) (l0_1 : List Int) (l0_2 : List Int) (a0_3 : Int) (a0_4 : Int) (l0_5 : List (List Int)) : Option (Bool) := (impl_IsName.f k a0_0).bind fun t200 => (if t200 = true then ((impl_ValidScale.f k l0_1).bind fun t201 => (if t201 = true then ((impl_ValidScale.f k l0_2).bind fun t202 => (if t202 = true then (if a0_3 = a0_4 then (impl_ValidRaga.j0 k true a0_0 l0_1 l0_2 a0_3 a0_4 l0_5) else ((impl_Raga_hasTone.f k a0_0 l0_1 l0_2 a0_3 a0_4 l0_5 a0_3).bind fun t203 => (if t203 = true then ((impl_Raga_hasTone.f k a0_0 l0_1 l0_2 a0_3 a0_4 l0_5 a0_4).bind fun t204 => (if t204 = true then (impl_ValidRaga.j0 k (decide ((l0_5.length : Int) > 8)) a0_0 l0_1 l0_2 a0_3 a0_4 l0_5) else (impl_ValidRaga.j0 k true a0_0 l0_1 l0_2 a0_3 a0_4 l0_5))) else (impl_ValidRaga.j0 k true a0_0 l0_1 l0_2 a0_3 a0_4 l0_5)))) else (impl_ValidRaga.j0 k true a0_0 l0_1 l0_2 a0_3 a0_4 l0_5))) else (impl_ValidRaga.j0 k true a0_0 l0_1 l0_2 a0_3 a0_4 l0_5))) else (impl_ValidRaga.j0 k true a0_0 l0_1 l0_2 a0_3 a0_4 l0_5))
theorem impl_ValidRaga.mono_l : ∀ k, (∀ y0 y1 y2 y3 y4 y5 y6, LeO (impl_ValidRaga.j0 k y0 y1 y2 y3 y4 y5 y6) (impl_ValidRaga.j0 (k + 1) y0 y1 y2 y3 y4 y5 y6)) ∧ (∀ y0 y1 y2 y3 y4 y5 y6 y7 y8, LeO (impl_ValidRaga.l0 k y0 y1 y2 y3 y4 y5 y6 y7 y8) (impl_ValidRaga.l0 (k + 1) y0 y1 y2 y3 y4 y5 y6 y7 y8))
  | 0 => ⟨fun _ _ _ _ _ _ _ r h => by simp [impl_ValidRaga.j0] at h, fun _ _ _ _ _ _ _ _ _ r h => by simp [impl_ValidRaga.l0] at h⟩
  | k + 1 => by
    obtain ⟨ih0, ih1⟩ := impl_ValidRaga.mono_l k
    refine ⟨?_, ?_⟩
    · intro y0 y1 y2 y3 y4 y5 y6
      unfold impl_ValidRaga.j0
      exact LeO.ite (LeO.refl _) (ih1 _ _ _ _ _ _ _ _ _)
    · intro y0 y1 y2 y3 y4 y5 y6 y7 y8
      unfold impl_ValidRaga.l0
      repeat' first
        | (with_reducible exact ih0 _ _ _ _ _ _ _)
        | (with_reducible exact ih1 _ _ _ _ _ _ _ _ _)
        | (with_reducible exact impl_IsName.mono _ _)
        | (with_reducible exact impl_Raga_hasTone.mono _ _ _ _ _ _ _ _)
        | (with_reducible exact impl_ValidScale.mono _ _)
        | (with_reducible exact slices_Compare_int64_int64.mono _ _ _)
        | (with_reducible exact LeO.refl _)
        | (with_reducible exact LeO.none _)
        | (with_reducible refine LeO.ite ?_ ?_)
        | (with_reducible refine LeO.bind ?_ (fun _ => ?_))
theorem impl_ValidRaga.mono : ∀ a0 a1 a2 a3 a4 a5 k, LeO (impl_ValidRaga.f k a0 a1 a2 a3 a4 a5) (impl_ValidRaga.f (k + 1) a0 a1 a2 a3 a4 a5) := by
  intro a0 a1 a2 a3 a4 a5 k
  obtain ⟨ih0, ih1⟩ := impl_ValidRaga.mono_l k
  unfold impl_ValidRaga.f
  repeat' first
    | (with_reducible exact ih0 _ _ _ _ _ _ _)
    | (with_reducible exact ih1 _ _ _ _ _ _ _ _ _)
    | (with_reducible exact impl_IsName.mono _ _)
    | (with_reducible exact impl_Raga_hasTone.mono _ _ _ _ _ _ _ _)
    | (with_reducible exact impl_ValidScale.mono _ _)
    | (with_reducible exact slices_Compare_int64_int64.mono _ _ _)
    | (with_reducible exact LeO.refl _)
    | (with_reducible exact LeO.none _)
    | (with_reducible refine LeO.ite ?_ ?_)
    | (with_reducible refine LeO.bind ?_ (fun _ => ?_))
set_option maxHeartbeats 8000000 in
set_option maxRecDepth 100000 in
theorem impl_ValidRaga.calls (k : Nat) (a0_0 : ByteArray) (A0_1 : Option Addr) (c0_1 : Nat) (l0_1 : List Int) (A0_2 : Option Addr) (c0_2 : Nat) (l0_2 : List Int) (a0_3 : Int) (a0_4 : Int) (A0_5 : Option Addr) (c0_5 : Nat) (l0_5 : List (List Int)) (r : Bool) (w : World) (hr0_1 : Kd.C (Kd.int .i64) w A0_1 l0_1.length l0_1) (hc0_1 : l0_1.length ≤ c0_1) (hr0_2 : Kd.C (Kd.int .i64) w A0_2 l0_2.length l0_2) (hc0_2 : l0_2.length ≤ c0_2) (hr0_5 : Kd.C (Kd.slice 2 (Kd.int .i64)) w A0_5 l0_5.length l0_5) (hc0_5 : l0_5.length ≤ c0_5) (h : impl_ValidRaga.f k a0_0 l0_1 l0_2 a0_3 a0_4 l0_5 = some r) :
    Calls Try.prog 20 #[.agg #[.string a0_0, .slice A0_1 l0_1.length c0_1, .slice A0_2 l0_2.length c0_2, .int .i64 a0_3, .int .i64 a0_4, .slice A0_5 l0_5.length c0_5]] w fun e w' => e = .returned (.bool r) ∧ Below w.heap.size w w' := by
  have HR1 := Aside0.mk hr0_1
  have HR2 := Aside0.mk hr0_2
  have HR5 := Aside0.mk hr0_5
  have HC1 := Aside0.mk hc0_1
  have HC2 := Aside0.mk hc0_2
  have HC5 := Aside0.mk hc0_5
  clear hr0_1 hc0_1 hr0_2 hc0_2 hr0_5 hc0_5
  have HB0 := Aside0.mk (Below.refl w.heap.size w)
  have HH := Aside0.mk h
  clear h
  go_enter Try.func20, Try.ntmps20
  go_upto_region 1 with (first | ((with_reducible refine gate_dst (N := 1) rfl ?_); (try (refine gate_guard (by rfl) ?_; dsimp only)); refine box_event ?hg (N := 1) ?hd (cs := #[.string a0_0, .slice A0_1 l0_1.length c0_1, .slice A0_2 l0_2.length c0_2, .int .i64 a0_3, .int .i64 a0_4, .slice A0_5 l0_5.length c0_5]) (t := 28) ?hr ?_; (case hd => rfl); (case hg => rfl); (case hr => first | (go_simp; done) | (go_simp; rfl)); intro gb hg w3 hbox hb; have HB := Aside0.mk (below_step (by repeat (first | exact HB0.out | apply below_alloc | apply pw_below_drewN | apply below_drew1)) hb); have BK := Aside0.mk hbox; clear HB0 hb hbox hg))
  (try simp only [Act.put, List.setIfInBounds_toArray, List.set_cons_zero, List.set_cons_succ])
  go_cut [47] (fun v47 wc => ∃ (kq : Nat) (x47_1 : Bool), v47 = .bool x47_1 ∧ Aside0 (impl_ValidRaga.j0 kq x47_1 a0_0 l0_1 l0_2 a0_3 a0_4 l0_5 = some r) ∧ Aside0 (kq ≤ k) ∧ Aside0 (wc.heap[gb]? = some (.cells #[.string a0_0, (.slice A0_1 l0_1.length c0_1), (.slice A0_2 l0_2.length c0_2), .int .i64 a0_3, .int .i64 a0_4, (.slice A0_5 l0_5.length c0_5)] 28 (0, 0))) ∧ Aside0 (Below w.heap.size w wc))
  case first =>
    have H := HH.out
    clear HH
    unfold impl_ValidRaga.f at H
    have step1 := Option.bind_eq_some_iff.mp H
    clear H
    obtain ⟨t1, h1, H⟩ := step1
    have A1 := Aside0.mk h1
    clear h1
    cases t1
    rotate_left
    simp only [if_true] at H
    replace H := Option.bind_eq_some_iff.mp H
    obtain ⟨t2, h2, H⟩ := H
    have A2 := Aside0.mk h2
    clear h2
    cases t2
    rotate_left
    simp only [if_true] at H
    replace H := Option.bind_eq_some_iff.mp H
    obtain ⟨t3, h3, H⟩ := H
    have A3 := Aside0.mk h3
    clear h3
    cases t3
    rotate_left
    simp only [if_true] at H
    by_cases c4 : a0_3 = a0_4
    rotate_left
    rw [if_neg c4] at H
    have c4b : (a0_3 == a0_4) = false := beq_eq_false_iff_ne.mpr c4
    clear c4
    replace H := Option.bind_eq_some_iff.mp H
    obtain ⟨t5, h5, H⟩ := H
    have A5 := Aside0.mk h5
    clear h5
    cases t5
    rotate_left
    simp only [if_true] at H
    replace H := Option.bind_eq_some_iff.mp H
    obtain ⟨t6, h6, H⟩ := H
    have A6 := Aside0.mk h6
    clear h6
    cases t6
    rotate_left
    simp only [if_true] at H
    all_goals (try (rw [if_pos c4] at H; have c4b : (a0_3 == a0_4) = true := beq_iff_eq.mpr c4; clear c4))
    all_goals (try simp only [Bool.false_eq_true, if_false] at H)
    all_goals
      have H' := Aside0.mk H
      clear H
      obtain ⟨⟨g0, f0⟩, ⟨g1, f1⟩, ⟨g2, f2⟩, ⟨g3, f3⟩, ⟨g4, f4⟩, ⟨g5, f5⟩⟩ := impl_ValidRaga.cells BK.out
      go_wp2_with (first
        | (go_at_call 52; (with_reducible refine (impl_IsName.calls k a0_0 _ _ A1.out).mono ?_); rintro e w' ⟨rfl, ⟨nd, rfl⟩⟩)
        | (go_at_call 53; (with_reducible refine (impl_ValidScale.calls k A0_1 c0_1 l0_1 _ _ ?side1 HC1.out A2.out).mono ?_); (case side1 => exact (Kd.C_below HR1.out (by repeat (first | exact HB.out | apply below_alloc | apply pw_below_drewN | apply below_drew1)))); rintro e w' ⟨rfl, ⟨nd, rfl⟩⟩)
        | (go_at_call 53; (with_reducible refine (impl_ValidScale.calls k A0_2 c0_2 l0_2 _ _ ?side1 HC2.out A3.out).mono ?_); (case side1 => exact (Kd.C_below HR2.out (by repeat (first | exact HB.out | apply below_alloc | apply pw_below_drewN | apply below_drew1)))); rintro e w' ⟨rfl, ⟨nd, rfl⟩⟩)
        | (go_at_call 54; (with_reducible refine (impl_Raga_hasTone.calls k a0_0 A0_1 c0_1 l0_1 A0_2 c0_2 l0_2 a0_3 a0_4 A0_5 c0_5 l0_5 a0_3 _ _ ?side1 HC1.out ?side2 HC2.out ?side3 HC5.out A5.out).mono ?_); (case side1 => exact (Kd.C_below HR1.out (by repeat (first | exact HB.out | apply below_alloc | apply pw_below_drewN | apply below_drew1)))); (case side2 => exact (Kd.C_below HR2.out (by repeat (first | exact HB.out | apply below_alloc | apply pw_below_drewN | apply below_drew1)))); (case side3 => exact (Kd.C_below HR5.out (by repeat (first | exact HB.out | apply below_alloc | apply pw_below_drewN | apply below_drew1)))); rintro e w' ⟨rfl, hb⟩; have n0 : Aside0 (w'.heap[gb]? = some (.cells #[.string a0_0, (.slice A0_1 l0_1.length c0_1), (.slice A0_2 l0_2.length c0_2), .int .i64 a0_3, .int .i64 a0_4, (.slice A0_5 l0_5.length c0_5)] 28 (0, 0))) := ⟨blk_below (by repeat (first | exact BK.out | refine blk_drewN ?_ _ | refine blk_drew ?_ | refine blk_alloc ?_ _)) hb⟩; have n1 := Aside0.mk (below_step (by repeat (first | exact HB.out | apply below_alloc | apply pw_below_drewN | apply below_drew1)) hb); clear BK HB hb; have BK := n0; have HB := n1; clear n0 n1 g0 f0 g1 f1 g2 f2 g3 f3 g4 f4 g5 f5; obtain ⟨⟨g0, f0⟩, ⟨g1, f1⟩, ⟨g2, f2⟩, ⟨g3, f3⟩, ⟨g4, f4⟩, ⟨g5, f5⟩⟩ := impl_ValidRaga.cells BK.out)
        | (go_at_call 54; (with_reducible refine (impl_Raga_hasTone.calls k a0_0 A0_1 c0_1 l0_1 A0_2 c0_2 l0_2 a0_3 a0_4 A0_5 c0_5 l0_5 a0_4 _ _ ?side1 HC1.out ?side2 HC2.out ?side3 HC5.out A6.out).mono ?_); (case side1 => exact (Kd.C_below HR1.out (by repeat (first | exact HB.out | apply below_alloc | apply pw_below_drewN | apply below_drew1)))); (case side2 => exact (Kd.C_below HR2.out (by repeat (first | exact HB.out | apply below_alloc | apply pw_below_drewN | apply below_drew1)))); (case side3 => exact (Kd.C_below HR5.out (by repeat (first | exact HB.out | apply below_alloc | apply pw_below_drewN | apply below_drew1)))); rintro e w' ⟨rfl, hb⟩; have n0 : Aside0 (w'.heap[gb]? = some (.cells #[.string a0_0, (.slice A0_1 l0_1.length c0_1), (.slice A0_2 l0_2.length c0_2), .int .i64 a0_3, .int .i64 a0_4, (.slice A0_5 l0_5.length c0_5)] 28 (0, 0))) := ⟨blk_below (by repeat (first | exact BK.out | refine blk_drewN ?_ _ | refine blk_drew ?_ | refine blk_alloc ?_ _)) hb⟩; have n1 := Aside0.mk (below_step (by repeat (first | exact HB.out | apply below_alloc | apply pw_below_drewN | apply below_drew1)) hb); clear BK HB hb; have BK := n0; have HB := n1; clear n0 n1 g0 f0 g1 f1 g2 f2 g3 f3 g4 f4 g5 f5; obtain ⟨⟨g0, f0⟩, ⟨g1, f1⟩, ⟨g2, f2⟩, ⟨g3, f3⟩, ⟨g4, f4⟩, ⟨g5, f5⟩⟩ := impl_ValidRaga.cells BK.out))
      go_meet
      case rel => exact ⟨_, _, (by first | rfl | (simp; done) | (simp [*]; done)), H', ⟨Nat.le_refl _⟩, ⟨(by repeat (first | exact BK.out | refine blk_drewN ?_ _ | refine blk_drew ?_ | refine blk_alloc ?_ _))⟩, ⟨(by repeat (first | exact HB.out | apply below_alloc | apply pw_below_drewN | apply below_drew1))⟩⟩
  case rest =>
    clear HH BK HB
    obtain ⟨kq, x47, rfl, HA, HK, BK, HB⟩ := hcut
    cases kq with
    | zero => exact absurd HA.out (by simp [impl_ValidRaga.j0])
    | succ kj =>
      have H := HA.out
      clear HA
      simp only [impl_ValidRaga.j0] at H
      cases x47 with
      | true =>
        simp only [if_true] at H
        obtain rfl := Option.some.inj H
        clear H
        go_wp2
        go_ret
        exact ⟨rfl, (by repeat (first | exact HB.out | apply below_alloc | apply pw_below_drewN | apply below_drew1))⟩
      | false =>
        simp only [Bool.false_eq_true, if_false] at H
        have H' := Aside0.mk H
        clear H
        obtain ⟨⟨g0, f0⟩, ⟨g1, f1⟩, ⟨g2, f2⟩, ⟨g3, f3⟩, ⟨g4, f4⟩, ⟨g5, f5⟩⟩ := impl_ValidRaga.cells BK.out
        go_wp2
        go_loopg [51] kj (fun kq v51 w' => ∃ (x : Int), v51 = .int .i64 x ∧ Aside0 (impl_ValidRaga.l0 kq l0_5 (l0_5.length : Int) x a0_0 l0_1 l0_2 a0_3 a0_4 l0_5 = some r) ∧ Aside0 (kq ≤ kj) ∧ Aside0 (w'.heap[gb]? = some (.cells #[.string a0_0, (.slice A0_1 l0_1.length c0_1), (.slice A0_2 l0_2.length c0_2), .int .i64 a0_3, .int .i64 a0_4, (.slice A0_5 l0_5.length c0_5)] 28 (0, 0))) ∧ Aside0 (Below w.heap.size w w'))
        case atStart => exact ⟨0, (by first | rfl | (simp; done) | (simp [*]; done)), H', ⟨Nat.le_refl _⟩, ⟨(by repeat (first | exact BK.out | refine blk_drewN ?_ _ | refine blk_drew ?_ | refine blk_alloc ?_ _))⟩, ⟨(by repeat (first | exact HB.out | apply below_alloc | apply pw_below_drewN | apply below_drew1))⟩⟩
        case round =>
          clear g0 f0 g1 f1 g2 f2 g3 f3 g4 f4 g5 f5
          clear H' BK HB
          obtain ⟨x, rfl, HA, HK2, BK, HB⟩ := hrel
          cases gk with
          | zero => exact absurd HA.out (by simp [impl_ValidRaga.l0])
          | succ k2 =>
            have H := HA.out
            clear HA
            simp only [impl_ValidRaga.l0] at H
            by_cases c0 : x < (l0_5.length : Int)
            · rw [if_pos c0] at H
              by_cases c1 : 0 ≤ x
              · rw [if_pos c1, if_pos c0] at H
                obtain ⟨ad, A, c, e, hx, hl, hi⟩ := at_L1 HR5.out x c1 c0
                cases e
                replace hx := (HB.out.cell (World.block_lt_of_cell? w _ hx)).trans hx
                have HRp := Aside0.mk hi
                have HCp := Aside0.mk hl
                clear hi hl
                have hmax := Kd.C_max HR5.out
                have p1 := eq_true c1
                have q1 := eq_true c0
                by_cases c2 : ((rd_L1 l0_5 x).length : Int) = 2
                rotate_left
                · rw [if_neg c2] at H
                  have c2b : (((rd_L1 l0_5 x).length : Int) == 2) = false := beq_eq_false_iff_ne.mpr c2
                  have c2d : (((rd_L1 l0_5 x).length : Int) != 2) = true := bne_iff_ne.mpr c2
                  clear c2 c0 c1 hmax
                  obtain rfl := Option.some.inj H
                  clear H
                  obtain ⟨⟨g0, f0⟩, ⟨g1, f1⟩, ⟨g2, f2⟩, ⟨g3, f3⟩, ⟨g4, f4⟩, ⟨g5, f5⟩⟩ := impl_ValidRaga.cells BK.out
                  go_wp2
                  go_quiet (fail)
                  go_wp2
                  go_ret
                  exact ⟨rfl, (by repeat (first | exact HB.out | apply below_alloc | apply pw_below_drewN | apply below_drew1))⟩
                · rw [if_pos c2, if_pos (by omega)] at H
                  have hl2 : (rd_L1 l0_5 x).length = 2 := by omega
                  rw [hl2] at hx
                  obtain ⟨ad2, e2, hp0⟩ := Kd.at_int HRp.out 0 (by omega) (by omega)
                  obtain ⟨ad3, e3, hp1⟩ := Kd.at_int HRp.out 1 (by omega) (by omega)
                  subst e2
                  obtain rfl : ad2 = ad3 := by injection e3
                  clear e3
                  replace hp0 := (HB.out.cell (World.block_lt_of_cell? w _ hp0)).trans hp0
                  replace hp1 := (HB.out.cell (World.block_lt_of_cell? w _ hp1)).trans hp1
                  rw [show ((0 : Int)).toNat = 0 from rfl, Addr.add_zero'] at hp0
                  rw [show ((1 : Int)).toNat = 1 from rfl] at hp1
                  simp only [Addr.add, Nat.one_ne_zero, if_false] at hp1
                  have HL2 := Aside0.mk hl2
                  clear hl2
                  replace H := Option.bind_eq_some_iff.mp H
                  obtain ⟨t0, h0, H⟩ := H
                  have A0 := Aside0.mk h0
                  clear h0
                  cases t0
                  rotate_left
                  simp only [if_true] at H
                  rw [if_pos (by omega)] at H
                  replace H := Option.bind_eq_some_iff.mp H
                  obtain ⟨t1, h1, H⟩ := H
                  have A1 := Aside0.mk h1
                  clear h1
                  cases t1
                  rotate_left
                  simp only [if_true] at H
                  by_cases c3 : rd (rd_L1 l0_5 x) 0 = rd (rd_L1 l0_5 x) 1
                  rotate_left
                  rw [if_neg c3] at H
                  have c3b : (rd (rd_L1 l0_5 x) 0 == rd (rd_L1 l0_5 x) 1) = false := beq_eq_false_iff_ne.mpr c3
                  clear c3
                  by_cases c4 : x > 0
                  · rw [if_pos c4] at H
                    have c4b : decide (0 < x) = true := decide_eq_true c4
                    obtain ⟨j, hj⟩ : ∃ j : Int, j = x - 1 := ⟨_, rfl⟩
                    have hw : wrap64 (x - 1) = j := by subst hj; unfold wrap64; omega
                    rw [hw, if_pos (by omega), if_pos (by omega)] at H
                    have hw2 : IntKind.i64.wrap (x - 1) = j := (i64_w _).trans hw
                    have p3 := eq_true (show 0 ≤ j by omega)
                    have q3 := eq_true (show j < (l0_5.length : Int) by omega)
                    obtain ⟨ad4, B, cB, e4, hy, hlB, hiB⟩ := at_L1 HR5.out j (by omega) (by omega)
                    obtain rfl : ad = ad4 := by injection e4
                    clear e4 hj hw c4 hmax c0 c1 c2
                    replace hy := (HB.out.cell (World.block_lt_of_cell? w _ hy)).trans hy
                    replace H := Option.bind_eq_some_iff.mp H
                    obtain ⟨v, h3, H⟩ := H
                    have HCMP : Aside0 (∀ W, Below w.heap.size w W → Calls Try.prog 56 #[.slice B (rd_L1 l0_5 j).length cB, .slice (some ad2) 2 c] W fun e w' => e = .returned (.int .i64 v) ∧ Drawn0 W w') := ⟨by
                      intro W hW
                      have := slices_Compare_int64_int64.calls k2 B cB (rd_L1 l0_5 j) (some ad2) c (rd_L1 l0_5 x) v W (Kd.C_below hiB hW) hlB (Kd.C_below HRp.out hW) HCp.out h3
                      rwa [HL2.out] at this⟩
                    clear h3 hiB hlB
                    by_cases c5 : v ≥ 0
                    · rw [if_pos c5] at H
                      have c5b : decide (0 ≤ v) = true := decide_eq_true c5
                      clear c5
                      obtain rfl := Option.some.inj H
                      clear H
                      obtain ⟨⟨g0, f0⟩, ⟨g1, f1⟩, ⟨g2, f2⟩, ⟨g3, f3⟩, ⟨g4, f4⟩, ⟨g5, f5⟩⟩ := impl_ValidRaga.cells BK.out
                      go_wp2
                      go_quiet (first | (go_at_call 55; (with_reducible refine (impl_toneOk.calls (rd (rd_L1 l0_5 x) 0) _ _ A0.out).mono ?_); rintro e w' ⟨rfl, nd, rfl⟩; (try first | exact ⟨rfl, _, World.drewN_drewN _ _ _⟩ | exact ⟨rfl, _, Eq.trans (World.drewN_drewN _ _ _) (congrArg (World.drewN _) (Nat.add_assoc _ _ _))⟩)) | (go_at_call 55; (with_reducible refine (impl_toneOk.calls (rd (rd_L1 l0_5 x) 1) _ _ A1.out).mono ?_); rintro e w' ⟨rfl, nd, rfl⟩; (try first | exact ⟨rfl, _, World.drewN_drewN _ _ _⟩ | exact ⟨rfl, _, Eq.trans (World.drewN_drewN _ _ _) (congrArg (World.drewN _) (Nat.add_assoc _ _ _))⟩)) | (go_at_call 56; (with_reducible refine (HCMP.out _ (by repeat (first | exact HB.out | apply below_alloc | apply pw_below_drewN | apply below_drew1))).mono ?_); rintro e w' ⟨rfl, nd, rfl⟩; (try first | exact ⟨rfl, _, World.drewN_drewN _ _ _⟩ | exact ⟨rfl, _, Eq.trans (World.drewN_drewN _ _ _) (congrArg (World.drewN _) (Nat.add_assoc _ _ _))⟩)))
                      go_wp2
                      go_ret
                      exact ⟨rfl, (by repeat (first | exact HB.out | apply below_alloc | apply pw_below_drewN | apply below_drew1))⟩
                    · rw [if_neg c5] at H
                      have c5b : decide (0 ≤ v) = false := decide_eq_false c5
                      clear c5
                      have H' := Aside0.mk H
                      clear H
                      obtain ⟨⟨g0, f0⟩, ⟨g1, f1⟩, ⟨g2, f2⟩, ⟨g3, f3⟩, ⟨g4, f4⟩, ⟨g5, f5⟩⟩ := impl_ValidRaga.cells BK.out
                      go_wp2
                      go_quiet (first | (go_at_call 55; (with_reducible refine (impl_toneOk.calls (rd (rd_L1 l0_5 x) 0) _ _ A0.out).mono ?_); rintro e w' ⟨rfl, nd, rfl⟩; (try first | exact ⟨rfl, _, World.drewN_drewN _ _ _⟩ | exact ⟨rfl, _, Eq.trans (World.drewN_drewN _ _ _) (congrArg (World.drewN _) (Nat.add_assoc _ _ _))⟩)) | (go_at_call 55; (with_reducible refine (impl_toneOk.calls (rd (rd_L1 l0_5 x) 1) _ _ A1.out).mono ?_); rintro e w' ⟨rfl, nd, rfl⟩; (try first | exact ⟨rfl, _, World.drewN_drewN _ _ _⟩ | exact ⟨rfl, _, Eq.trans (World.drewN_drewN _ _ _) (congrArg (World.drewN _) (Nat.add_assoc _ _ _))⟩)) | (go_at_call 56; (with_reducible refine (HCMP.out _ (by repeat (first | exact HB.out | apply below_alloc | apply pw_below_drewN | apply below_drew1))).mono ?_); rintro e w' ⟨rfl, nd, rfl⟩; (try first | exact ⟨rfl, _, World.drewN_drewN _ _ _⟩ | exact ⟨rfl, _, Eq.trans (World.drewN_drewN _ _ _) (congrArg (World.drewN _) (Nat.add_assoc _ _ _))⟩)))
                      go_wp2
                      go_roundg k2
                      case measure => have := HK2.out; omega
                      case rel => exact ⟨_, (by first | rfl | (simp; done) | (simp [*]; done)), H', ⟨by have := HK2.out; omega⟩, ⟨(by repeat (first | exact BK.out | refine blk_drewN ?_ _ | refine blk_drew ?_ | refine blk_alloc ?_ _))⟩, ⟨(by repeat (first | exact HB.out | apply below_alloc | apply pw_below_drewN | apply below_drew1))⟩⟩
                  · rw [if_neg c4] at H
                    have c4b : decide (0 < x) = false := decide_eq_false c4
                    clear c4 hmax c0 c1 c2
                    have H' := Aside0.mk H
                    clear H
                    obtain ⟨⟨g0, f0⟩, ⟨g1, f1⟩, ⟨g2, f2⟩, ⟨g3, f3⟩, ⟨g4, f4⟩, ⟨g5, f5⟩⟩ := impl_ValidRaga.cells BK.out
                    go_wp2
                    go_quiet (first | (go_at_call 55; (with_reducible refine (impl_toneOk.calls (rd (rd_L1 l0_5 x) 0) _ _ A0.out).mono ?_); rintro e w' ⟨rfl, nd, rfl⟩; (try first | exact ⟨rfl, _, World.drewN_drewN _ _ _⟩ | exact ⟨rfl, _, Eq.trans (World.drewN_drewN _ _ _) (congrArg (World.drewN _) (Nat.add_assoc _ _ _))⟩)) | (go_at_call 55; (with_reducible refine (impl_toneOk.calls (rd (rd_L1 l0_5 x) 1) _ _ A1.out).mono ?_); rintro e w' ⟨rfl, nd, rfl⟩; (try first | exact ⟨rfl, _, World.drewN_drewN _ _ _⟩ | exact ⟨rfl, _, Eq.trans (World.drewN_drewN _ _ _) (congrArg (World.drewN _) (Nat.add_assoc _ _ _))⟩)))
                    go_wp2
                    go_roundg k2
                    case measure => have := HK2.out; omega
                    case rel => exact ⟨_, (by first | rfl | (simp; done) | (simp [*]; done)), H', ⟨by have := HK2.out; omega⟩, ⟨(by repeat (first | exact BK.out | refine blk_drewN ?_ _ | refine blk_drew ?_ | refine blk_alloc ?_ _))⟩, ⟨(by repeat (first | exact HB.out | apply below_alloc | apply pw_below_drewN | apply below_drew1))⟩⟩
                  all_goals (try (rw [if_pos c3] at H; have c3b : (rd (rd_L1 l0_5 x) 0 == rd (rd_L1 l0_5 x) 1) = true := beq_iff_eq.mpr c3; clear c3))
                  all_goals (try simp only [Bool.false_eq_true, if_false] at H)
                  all_goals
                    clear hmax c0 c1 c2
                    obtain rfl := Option.some.inj H
                    clear H
                    obtain ⟨⟨g0, f0⟩, ⟨g1, f1⟩, ⟨g2, f2⟩, ⟨g3, f3⟩, ⟨g4, f4⟩, ⟨g5, f5⟩⟩ := impl_ValidRaga.cells BK.out
                    go_wp2
                    go_quiet (first | (go_at_call 55; (with_reducible refine (impl_toneOk.calls (rd (rd_L1 l0_5 x) 0) _ _ A0.out).mono ?_); rintro e w' ⟨rfl, nd, rfl⟩; (try first | exact ⟨rfl, _, World.drewN_drewN _ _ _⟩ | exact ⟨rfl, _, Eq.trans (World.drewN_drewN _ _ _) (congrArg (World.drewN _) (Nat.add_assoc _ _ _))⟩)) | (go_at_call 55; (with_reducible refine (impl_toneOk.calls (rd (rd_L1 l0_5 x) 1) _ _ A1.out).mono ?_); rintro e w' ⟨rfl, nd, rfl⟩; (try first | exact ⟨rfl, _, World.drewN_drewN _ _ _⟩ | exact ⟨rfl, _, Eq.trans (World.drewN_drewN _ _ _) (congrArg (World.drewN _) (Nat.add_assoc _ _ _))⟩)))
                    go_wp2
                    go_ret
                    exact ⟨rfl, (by repeat (first | exact HB.out | apply below_alloc | apply pw_below_drewN | apply below_drew1))⟩
              · rw [if_neg c1] at H
                exact absurd H (by simp)
            · rw [if_neg c0] at H
              have c0b : decide (x < (l0_5.length : Int)) = false := decide_eq_false c0
              clear c0
              obtain rfl := Option.some.inj H
              clear H
              obtain ⟨⟨g0, f0⟩, ⟨g1, f1⟩, ⟨g2, f2⟩, ⟨g3, f3⟩, ⟨g4, f4⟩, ⟨g5, f5⟩⟩ := impl_ValidRaga.cells BK.out
              go_wp2
              go_ret
              exact ⟨rfl, (by repeat (first | exact HB.out | apply below_alloc | apply pw_below_drewN | apply below_drew1))⟩

/-! ### impl_ToneName: function 59 -/
def impl_ToneName.f (a0 : Int) : Option (ByteArray) := (impl_toneOk.f a0).bind fun t183 => (if t183 = true then (if 0 ≤ a0 then (if a0 ≤ (wrap64 (a0 + 1)) then (if (wrap64 (a0 + 1)) ≤ 12 then (some ((⟨#[83, 114, 82, 103, 71, 109, 77, 80, 100, 68, 110, 78]⟩ : ByteArray).extract (a0 : Int).toNat ((wrap64 (a0 + 1)) : Int).toNat)) else (none)) else (none)) else (none)) else (some (⟨#[]⟩ : ByteArray)))
set_option maxHeartbeats 8000000 in
set_option maxRecDepth 100000 in
theorem impl_ToneName.calls (a0 : Int) (r : ByteArray) (w : World) (h : impl_ToneName.f a0 = some r) :
  Calls Try.prog 59 #[.int .i64 a0] w fun e w' => e = .returned (.string r) ∧ Drawn0 w w' := by
 have H : ((impl_toneOk.f a0).bind fun t183 => (if t183 = true then (if 0 ≤ a0 then (if a0 ≤ (wrap64 (a0 + 1)) then (if (wrap64 (a0 + 1)) ≤ 12 then (some ((⟨#[83, 114, 82, 103, 71, 109, 77, 80, 100, 68, 110, 78]⟩ : ByteArray).extract (a0 : Int).toNat ((wrap64 (a0 + 1)) : Int).toNat)) else (none)) else (none)) else (none)) else (some (⟨#[]⟩ : ByteArray)))) = some r := h
 clear h
 replace H := Option.bind_eq_some_iff.mp H
 obtain ⟨t183, A20, H⟩ := H
 replace H : (if t183 = true then (if 0 ≤ a0 then (if a0 ≤ (wrap64 (a0 + 1)) then (if (wrap64 (a0 + 1)) ≤ 12 then (some ((⟨#[83, 114, 82, 103, 71, 109, 77, 80, 100, 68, 110, 78]⟩ : ByteArray).extract (a0 : Int).toNat ((wrap64 (a0 + 1)) : Int).toNat)) else (none)) else (none)) else (none)) else (some (⟨#[]⟩ : ByteArray))) = some r := H
 have A2 := Aside0.mk A20
 clear A20
 by_cases c3 : t183 = true
 ·
  subst c3
  have H1 : (if 0 ≤ a0 then (if a0 ≤ (wrap64 (a0 + 1)) then (if (wrap64 (a0 + 1)) ≤ 12 then (some ((⟨#[83, 114, 82, 103, 71, 109, 77, 80, 100, 68, 110, 78]⟩ : ByteArray).extract (a0 : Int).toNat ((wrap64 (a0 + 1)) : Int).toNat)) else (none)) else (none)) else (none)) = some r := by rw [if_pos rfl] at H; exact H
  clear H
  have H := H1
  clear H1
  by_cases c4 : 0 ≤ a0
  ·
   rw [if_pos c4] at H
   have c4b0 := eq_true c4
   have c4b1 : decide (0 ≤ a0) = true := decide_eq_true c4
   clear c4
   by_cases c5 : a0 ≤ (wrap64 (a0 + 1))
   ·
    rw [if_pos c5] at H
    have c5b0 := eq_true c5
    have c5b1 : decide (a0 ≤ (wrap64 (a0 + 1))) = true := decide_eq_true c5
    by_cases c6 : (wrap64 (a0 + 1)) ≤ 12
    ·
     rw [if_pos c6] at H
     have c6b0 := eq_true c6
     have c6b1 : decide ((wrap64 (a0 + 1)) ≤ 12) = true := decide_eq_true c6
     obtain rfl := Option.some.inj H
     go_enter Try.func59, Try.ntmps59
     go_wp2_with (first | ((with_reducible refine gate_callee (f := 55) rfl ?_); refine goesL_ (some 4) rfl rfl Try.func55 (by kernel_rfl) rfl #[.int .i64 a0] rfl (by (try simp only [List.map_toArray, List.map_cons, List.map_nil]); first | done | rfl | (simp only [List.length_drop, List.length_take]; rfl)) ?_; (with_reducible refine (impl_toneOk.calls a0 true _ A2.out).mono ?_); rintro e w' ⟨rfl, ⟨nd, rfl⟩⟩; refine ⟨_, rfl, ?_⟩))
     go_ret
     exact ⟨by first | rfl | (simp; done) | (simp [*]; done), by repeat (first | exact Drawn0.refl _ | apply Drawn0.step)⟩
    ·
     rw [if_neg c6] at H
     exact absurd H (by simp)
   ·
    rw [if_neg c5] at H
    exact absurd H (by simp)
  ·
   rw [if_neg c4] at H
   exact absurd H (by simp)
 ·
  replace c3 := Bool.eq_false_iff.mpr c3
  subst c3
  have H1 : (some (⟨#[]⟩ : ByteArray)) = some r := by rw [if_neg (show ¬ (false = true) by decide)] at H; exact H
  clear H
  have H := H1
  clear H1
  obtain rfl := Option.some.inj H
  go_enter Try.func59, Try.ntmps59
  go_wp2_with (first | ((with_reducible refine gate_callee (f := 55) rfl ?_); refine goesL_ (some 4) rfl rfl Try.func55 (by kernel_rfl) rfl #[.int .i64 a0] rfl (by (try simp only [List.map_toArray, List.map_cons, List.map_nil]); first | done | rfl | (simp only [List.length_drop, List.length_take]; rfl)) ?_; (with_reducible refine (impl_toneOk.calls a0 false _ A2.out).mono ?_); rintro e w' ⟨rfl, ⟨nd, rfl⟩⟩; refine ⟨_, rfl, ?_⟩))
  go_ret
  exact ⟨by first | rfl | (simp; done) | (simp [*]; done), by repeat (first | exact Drawn0.refl _ | apply Drawn0.step)⟩

/-! ### impl_ScaleText: function 58 -/
def impl_ScaleText.l0 : Nat → ByteArray → List Int → Int → Int → Option (ByteArray)
 | 0, _, _, _, _ => none
 | k + 1, x3, x9, x10, x11 => if x11 < x10 then (if 0 ≤ x11 then (if x11 < (x9.length : Int) then ((impl_ToneName.f (rd x9 x11)).bind fun t186 => (if x3.size + t186.size ≤ 9223372036854775807 then (impl_ScaleText.l0 k (x3 ++ t186) x9 x10 (wrap64 (x11 + 1))) else (none))) else (none)) else (none)) else (some x3)
def impl_ScaleText.f (k : Nat) (l0 : List Int) : Option (ByteArray) := (impl_ValidScale.f k l0).bind fun t184 => (if t184 = true then (impl_ScaleText.l0 k (⟨#[]⟩ : ByteArray) l0 (l0.length : Int) 0) else (some (⟨#[]⟩ : ByteArray)))
theorem impl_ScaleText.mono_l : ∀ k, (∀ y0 y1 y2 y3, LeO (impl_ScaleText.l0 k y0 y1 y2 y3) (impl_ScaleText.l0 (k + 1) y0 y1 y2 y3))
 | 0 => fun _ _ _ _ r h => by simp [impl_ScaleText.l0] at h
 | k + 1 => by
  have ih0 := impl_ScaleText.mono_l k
  ·
   intro y0 y1 y2 y3
   unfold impl_ScaleText.l0
   repeat' first
   | (with_reducible exact ih0 _ _ _ _)
   | (with_reducible exact impl_ValidScale.mono _ _)
   | (with_reducible exact LeO.refl _)
   | (with_reducible exact LeO.none _)
   | (with_reducible refine LeO.ite ?_ ?_)
   | (with_reducible refine LeO.bind ?_ (fun _ => ?_))
   | exact ih0 _ _ _ _
   | exact impl_ValidScale.mono _ _
   | exact LeO.none _
   | refine LeO.ite ?_ ?_
   | refine LeO.bind ?_ (fun _ => ?_)
theorem impl_ScaleText.mono : ∀ a0 k, LeO (impl_ScaleText.f k a0) (impl_ScaleText.f (k + 1) a0) := by
 intro a0 k
 have ih0 := impl_ScaleText.mono_l k
 unfold impl_ScaleText.f
 repeat' first
   | (with_reducible exact ih0 _ _ _ _)
   | (with_reducible exact impl_ValidScale.mono _ _)
   | (with_reducible exact LeO.refl _)
   | (with_reducible exact LeO.none _)
   | (with_reducible refine LeO.ite ?_ ?_)
   | (with_reducible refine LeO.bind ?_ (fun _ => ?_))
   | exact ih0 _ _ _ _
   | exact impl_ValidScale.mono _ _
   | exact LeO.none _
   | refine LeO.ite ?_ ?_
   | refine LeO.bind ?_ (fun _ => ?_)
set_option maxHeartbeats 8000000 in
set_option maxRecDepth 100000 in
theorem impl_ScaleText.calls (k : Nat) (A0 : Option Addr) (c0 : Nat) (l0 : List Int) (r : ByteArray) (w : World) (hr0 : Kd.C (Kd.int .i64) w A0 l0.length l0) (hc0 : l0.length ≤ c0) (h : impl_ScaleText.f k l0 = some r) :
  Calls Try.prog 58 #[.slice A0 l0.length c0] w fun e w' => e = .returned (.string r) ∧ Drawn0 w w' := by
 have HR0 := Aside0.mk hr0
 have HC0 := Aside0.mk hc0
 clear hr0 hc0
 have H : ((impl_ValidScale.f k l0).bind fun t184 => (if t184 = true then (impl_ScaleText.l0 k (⟨#[]⟩ : ByteArray) l0 (l0.length : Int) 0) else (some (⟨#[]⟩ : ByteArray)))) = some r := h
 clear h
 replace H := Option.bind_eq_some_iff.mp H
 obtain ⟨t184, A20, H⟩ := H
 replace H : (if t184 = true then (impl_ScaleText.l0 k (⟨#[]⟩ : ByteArray) l0 (l0.length : Int) 0) else (some (⟨#[]⟩ : ByteArray))) = some r := H
 have A2 := Aside0.mk A20
 clear A20
 by_cases c3 : t184 = true
 ·
  subst c3
  have H1 : (impl_ScaleText.l0 k (⟨#[]⟩ : ByteArray) l0 (l0.length : Int) 0) = some r := by rw [if_pos rfl] at H; exact H
  clear H
  have H := H1
  clear H1
  have H' := Aside0.mk H
  clear H
  go_enter Try.func58, Try.ntmps58
  go_wp2_with (first | ((with_reducible refine gate_callee (f := 53) rfl ?_); refine goesL_ (some 7) rfl rfl Try.func53 (by kernel_rfl) rfl #[.slice A0 l0.length c0] rfl (by (try simp only [List.map_toArray, List.map_cons, List.map_nil]); first | done | rfl | (simp only [List.length_drop, List.length_take]; rfl)) ?_; (with_reducible refine (impl_ValidScale.calls k _ _ l0 true _ ?side1 ?side2 A2.out).mono ?_); (case side1 => repeat (first | exact HR0.out | (with_reducible refine Kd.C_alloc ?_ _) | (with_reducible refine Kd.C_drewN ?_ _) | (with_reducible refine Kd.C_drew ?_))); (case side2 => exact HC0.out); rintro e w' ⟨rfl, ⟨nd, rfl⟩⟩; refine ⟨_, rfl, ?_⟩))
  go_loopg [3, 11] k (fun kq v3 v11 w' => ∃ (x3_1 : ByteArray) (x11_1 : Int), v3 = .string x3_1 ∧ v11 = .int .i64 x11_1 ∧ Aside0 (impl_ScaleText.l0 kq x3_1 l0 (l0.length : Int) x11_1 = some r) ∧ Aside0 (kq ≤ k) ∧ Drawn0 w w')
  case atStart => exact ⟨((⟨#[]⟩ : ByteArray)), (0), (by first | rfl | (simp; done) | (simp [*]; done)), (by first | rfl | (simp; done) | (simp [*]; done)), H', ⟨Nat.le_refl _⟩, by repeat (first | exact Drawn0.refl _ | apply Drawn0.step)⟩
  case round =>
   clear H'
   try clear p2
   try clear c3
   obtain ⟨x3_1, x11_1, rfl, rfl, HA, HK1, ⟨m1, rfl⟩⟩ := hrel
   cases gk with
   | zero => exact absurd HA.out (by simp [impl_ScaleText.l0])
   | succ k1 =>
    have H := HA.out
    clear HA
    simp only [impl_ScaleText.l0] at H
    by_cases c4 : x11_1 < (l0.length : Int)
    ·
     rw [if_pos c4] at H
     have c4b0 : decide (x11_1 < (l0.length : Int)) = true := decide_eq_true c4
     clear c4
     by_cases c5 : 0 ≤ x11_1
     ·
      rw [if_pos c5] at H
      have c5b0 : decide (0 ≤ x11_1) = true := decide_eq_true c5
      clear c5
      by_cases c6 : x11_1 < (l0.length : Int)
      ·
       rw [if_pos c6] at H
       have c6b0 : decide (x11_1 < (l0.length : Int)) = true := decide_eq_true c6
       clear c6
       replace H := Option.bind_eq_some_iff.mp H
       obtain ⟨t186, A70, H⟩ := H
       replace H : (if x3_1.size + t186.size ≤ 9223372036854775807 then (impl_ScaleText.l0 k1 (x3_1 ++ t186) l0 (l0.length : Int) (wrap64 (x11_1 + 1))) else (none)) = some r := H
       have A7 := Aside0.mk A70
       clear A70
       by_cases c8 : x3_1.size + t186.size ≤ 9223372036854775807
       ·
        rw [if_pos c8] at H
        have c8b0 := eq_true c8
        have c8b1 : decide (x3_1.size + t186.size ≤ 9223372036854775807) = true := decide_eq_true c8
        try have c8b2 : (9223372036854775807 < x3_1.size + t186.size) = False := eq_false (Nat.not_lt.2 c8)
        have H' := Aside0.mk H
        clear H
        have p185 : 0 ≤ (x11_1 : Int) := of_decide_eq_true (by first | (with_reducible assumption) | assumption)
        have q185 : x11_1 < (l0.length : Int) := of_decide_eq_true (by first | (with_reducible assumption) | assumption)
        obtain ⟨ad185, e185, hx185_0⟩ := Kd.at_int HR0.out x11_1 p185 q185
        cases e185
        replace p185 := eq_true p185
        replace q185 := eq_true q185
        go_wp2_with (first | ((with_reducible refine gate_callee (f := 59) rfl ?_); refine goesL_ (some 17) rfl rfl Try.func59 (by kernel_rfl) rfl #[.int .i64 (rd l0 x11_1)] rfl (by (try simp only [List.map_toArray, List.map_cons, List.map_nil]); first | done | rfl | (simp only [List.length_drop, List.length_take]; rfl)) ?_; (with_reducible refine (impl_ToneName.calls (rd l0 x11_1) t186 _ A7.out).mono ?_); rintro e w' ⟨rfl, ⟨nd, rfl⟩⟩; refine ⟨_, rfl, ?_⟩))
        go_roundg k1
        case measure => have := HK1.out; omega
        case rel => exact ⟨(x3_1 ++ t186), (wrap64 (x11_1 + 1)), (by first | rfl | (simp; done) | (simp [*]; done)), (by first | rfl | (simp; done) | (simp [*]; done)), H', ⟨by have := HK1.out; omega⟩, by repeat (first | exact Drawn0.refl _ | apply Drawn0.step)⟩
       ·
        rw [if_neg c8] at H
        exact absurd H (by simp)
      ·
       rw [if_neg c6] at H
       exact absurd H (by simp)
     ·
      rw [if_neg c5] at H
      exact absurd H (by simp)
    ·
     rw [if_neg c4] at H
     have c4b0 : decide (x11_1 < (l0.length : Int)) = false := decide_eq_false c4
     clear c4
     obtain rfl := Option.some.inj H
     go_wp2
     go_ret
     exact ⟨by first | rfl | (simp; done) | (simp [*]; done), by repeat (first | exact Drawn0.refl _ | apply Drawn0.step)⟩
 ·
  replace c3 := Bool.eq_false_iff.mpr c3
  subst c3
  have H1 : (some (⟨#[]⟩ : ByteArray)) = some r := by rw [if_neg (show ¬ (false = true) by decide)] at H; exact H
  clear H
  have H := H1
  clear H1
  obtain rfl := Option.some.inj H
  go_enter Try.func58, Try.ntmps58
  go_wp2_with (first | ((with_reducible refine gate_callee (f := 53) rfl ?_); refine goesL_ (some 7) rfl rfl Try.func53 (by kernel_rfl) rfl #[.slice A0 l0.length c0] rfl (by (try simp only [List.map_toArray, List.map_cons, List.map_nil]); first | done | rfl | (simp only [List.length_drop, List.length_take]; rfl)) ?_; (with_reducible refine (impl_ValidScale.calls k _ _ l0 false _ ?side1 ?side2 A2.out).mono ?_); (case side1 => repeat (first | exact HR0.out | (with_reducible refine Kd.C_alloc ?_ _) | (with_reducible refine Kd.C_drewN ?_ _) | (with_reducible refine Kd.C_drew ?_))); (case side2 => exact HC0.out); rintro e w' ⟨rfl, ⟨nd, rfl⟩⟩; refine ⟨_, rfl, ?_⟩))
  go_ret
  exact ⟨by first | rfl | (simp; done) | (simp [*]; done), by repeat (first | exact Drawn0.refl _ | apply Drawn0.step)⟩

/-! ### impl_RagaText: function 24 (this session's own) -/
theorem impl_RagaText.iteN {α : Type} {c : Prop} [Decidable c] {x : Option α} {r : α} (h : (if c then x else none) = some r) : c ∧ x = some r := by
  by_cases hc : c
  · exact ⟨hc, by rwa [if_pos hc] at h⟩
  · rw [if_neg hc] at h; exact absurd h (by simp)
theorem impl_RagaText.le3 {a b : Nat} (h : a ≤ b) : (a ≤ b) = True ∧ decide (a ≤ b) = true ∧ (b < a) = False := ⟨eq_true h, decide_eq_true h, eq_false (by omega)⟩
def impl_RagaText.l0 : Nat → ByteArray → List (List Int) → Int → Int → Option (ByteArray)
  | 0, _, _, _, _ => none
  | k + 1, x3, x31, x32, x33 => if x33 < x32 then (if 0 ≤ x33 then (if x33 < (x31.length : Int) then (if 0 < ((rd_L1 x31 x33).length : Int) then ((impl_ToneName.f (rd (rd_L1 x31 x33) 0)).bind fun t222 => (if 1 + t222.size ≤ 9223372036854775807 then (if 1 < ((rd_L1 x31 x33).length : Int) then ((impl_ToneName.f (rd (rd_L1 x31 x33) 1)).bind fun t224 => (if ((⟨#[32]⟩ : ByteArray) ++ t222).size + t224.size ≤ 9223372036854775807 then (if x3.size + (((⟨#[32]⟩ : ByteArray) ++ t222) ++ t224).size ≤ 9223372036854775807 then (impl_RagaText.l0 k (x3 ++ (((⟨#[32]⟩ : ByteArray) ++ t222) ++ t224)) x31 x32 (wrap64 (x33 + 1))) else (none)) else (none))) else (none)) else (none))) else (none)) else (none)) else (none)) else (some x3)
def impl_RagaText.f (k : Nat) (a0_0 : ByteArray) (l0_1 : List Int) (l0_2 : List Int) (a0_3 : Int) (a0_4 : Int) (l0_5 : List (List Int)) : Option (ByteArray) := (impl_ValidRaga.f k a0_0 l0_1 l0_2 a0_3 a0_4 l0_5).bind fun t215 => (if t215 = true then (if a0_0.size + 1 ≤ 9223372036854775807 then ((impl_ScaleText.f k l0_1).bind fun t216 => (if (a0_0 ++ (⟨#[32]⟩ : ByteArray)).size + t216.size ≤ 9223372036854775807 then (if ((a0_0 ++ (⟨#[32]⟩ : ByteArray)) ++ t216).size + 1 ≤ 9223372036854775807 then ((impl_ScaleText.f k l0_2).bind fun t217 => (if (((a0_0 ++ (⟨#[32]⟩ : ByteArray)) ++ t216) ++ (⟨#[32]⟩ : ByteArray)).size + t217.size ≤ 9223372036854775807 then (if ((((a0_0 ++ (⟨#[32]⟩ : ByteArray)) ++ t216) ++ (⟨#[32]⟩ : ByteArray)) ++ t217).size + 1 ≤ 9223372036854775807 then ((impl_ToneName.f a0_3).bind fun t218 => (if (((((a0_0 ++ (⟨#[32]⟩ : ByteArray)) ++ t216) ++ (⟨#[32]⟩ : ByteArray)) ++ t217) ++ (⟨#[32]⟩ : ByteArray)).size + t218.size ≤ 9223372036854775807 then ((impl_ToneName.f a0_4).bind fun t219 => (if ((((((a0_0 ++ (⟨#[32]⟩ : ByteArray)) ++ t216) ++ (⟨#[32]⟩ : ByteArray)) ++ t217) ++ (⟨#[32]⟩ : ByteArray)) ++ t218).size + t219.size ≤ 9223372036854775807 then (impl_RagaText.l0 k (((((((a0_0 ++ (⟨#[32]⟩ : ByteArray)) ++ t216) ++ (⟨#[32]⟩ : ByteArray)) ++ t217) ++ (⟨#[32]⟩ : ByteArray)) ++ t218) ++ t219) l0_5 (l0_5.length : Int) 0) else (none))) else (none))) else (none)) else (none))) else (none)) else (none))) else (none)) else (some (⟨#[]⟩ : ByteArray)))
theorem impl_RagaText.mono_l : ∀ k y0 y1 y2 y3, LeO (impl_RagaText.l0 k y0 y1 y2 y3) (impl_RagaText.l0 (k + 1) y0 y1 y2 y3)
  | 0, _, _, _, _ => fun r h => by simp [impl_RagaText.l0] at h
  | k + 1, y0, y1, y2, y3 => by
    unfold impl_RagaText.l0
    repeat' first
      | (with_reducible exact impl_RagaText.mono_l _ _ _ _ _)
      | (with_reducible exact LeO.refl _)
      | (with_reducible exact LeO.none _)
      | (with_reducible refine LeO.ite ?_ ?_)
      | (with_reducible refine LeO.bind ?_ (fun _ => ?_))
theorem impl_RagaText.mono : ∀ a0 a1 a2 a3 a4 a5 k, LeO (impl_RagaText.f k a0 a1 a2 a3 a4 a5) (impl_RagaText.f (k + 1) a0 a1 a2 a3 a4 a5) := by
  intro a0 a1 a2 a3 a4 a5 k
  unfold impl_RagaText.f
  repeat' first
    | (with_reducible exact impl_RagaText.mono_l _ _ _ _ _)
    | (with_reducible exact impl_ValidRaga.mono _ _ _ _ _ _ _)
    | (with_reducible exact impl_ScaleText.mono _ _)
    | (with_reducible exact LeO.refl _)
    | (with_reducible exact LeO.none _)
    | (with_reducible refine LeO.ite ?_ ?_)
    | (with_reducible refine LeO.bind ?_ (fun _ => ?_))
set_option maxHeartbeats 8000000 in
set_option maxRecDepth 100000 in
theorem impl_RagaText.calls (k : Nat) (a0_0 : ByteArray) (A0_1 : Option Addr) (c0_1 : Nat) (l0_1 : List Int) (A0_2 : Option Addr) (c0_2 : Nat) (l0_2 : List Int) (a0_3 : Int) (a0_4 : Int) (A0_5 : Option Addr) (c0_5 : Nat) (l0_5 : List (List Int)) (r : ByteArray) (w : World) (hr0_1 : Kd.C (Kd.int .i64) w A0_1 l0_1.length l0_1) (hc0_1 : l0_1.length ≤ c0_1) (hr0_2 : Kd.C (Kd.int .i64) w A0_2 l0_2.length l0_2) (hc0_2 : l0_2.length ≤ c0_2) (hr0_5 : Kd.C (Kd.slice 2 (Kd.int .i64)) w A0_5 l0_5.length l0_5) (hc0_5 : l0_5.length ≤ c0_5) (h : impl_RagaText.f k a0_0 l0_1 l0_2 a0_3 a0_4 l0_5 = some r) :
    Calls Try.prog 24 #[.agg #[.string a0_0, .slice A0_1 l0_1.length c0_1, .slice A0_2 l0_2.length c0_2, .int .i64 a0_3, .int .i64 a0_4, .slice A0_5 l0_5.length c0_5]] w fun e w' => e = .returned (.string r) ∧ Below w.heap.size w w' := by
  have HR1 := Aside0.mk hr0_1
  have HR2 := Aside0.mk hr0_2
  have HR5 := Aside0.mk hr0_5
  have HC1 := Aside0.mk hc0_1
  have HC2 := Aside0.mk hc0_2
  have HC5 := Aside0.mk hc0_5
  have HM : Aside0 (l0_5.length ≤ 9223372036854775807) := ⟨Kd.C_max hr0_5⟩
  clear hr0_1 hc0_1 hr0_2 hc0_2 hr0_5 hc0_5
  have HB0 := Aside0.mk (Below.refl w.heap.size w)
  unfold impl_RagaText.f at h
  replace h := Option.bind_eq_some_iff.mp h
  obtain ⟨t, AV0, h⟩ := h
  have AV := Aside0.mk AV0
  clear AV0
  cases t with
  | false =>
    simp only [Bool.false_eq_true, if_false] at h
    obtain rfl := Option.some.inj h
    clear h
    go_enter Try.func24, Try.ntmps24
    go_wp2_with (first | ((with_reducible refine gate_dst (N := 1) rfl ?_); (try (refine gate_guard (by rfl) ?_; dsimp only)); refine box_event ?hg (N := 1) ?hd (cs := #[.string a0_0, .slice A0_1 l0_1.length c0_1, .slice A0_2 l0_2.length c0_2, .int .i64 a0_3, .int .i64 a0_4, .slice A0_5 l0_5.length c0_5]) (t := 28) ?hr ?_; (case hd => rfl); (case hg => rfl); (case hr => first | (go_simp; done) | (go_simp; rfl)); intro gb hg w3 hbox hb; have HB := Aside0.mk (below_step (by repeat (first | exact HB0.out | apply below_alloc | apply pw_below_drewN | apply below_drew1)) hb); have BK := Aside0.mk hbox; clear HB0 hb hbox hg; obtain ⟨⟨g0, f0⟩, ⟨g1, f1⟩, ⟨g2, f2⟩, ⟨g3, f3⟩, ⟨g4, f4⟩, ⟨g5, f5⟩⟩ := spec_l05Ok.cells BK.out) | (go_at_call 20; (with_reducible refine (impl_ValidRaga.calls k a0_0 A0_1 c0_1 l0_1 A0_2 c0_2 l0_2 a0_3 a0_4 A0_5 c0_5 l0_5 _ _ ?side1 HC1.out ?side2 HC2.out ?side3 HC5.out AV.out).mono ?_); (case side1 => exact (Kd.C_below HR1.out (by repeat (first | exact HB.out | apply below_alloc | apply pw_below_drewN | apply below_drew1)))); (case side2 => exact (Kd.C_below HR2.out (by repeat (first | exact HB.out | apply below_alloc | apply pw_below_drewN | apply below_drew1)))); (case side3 => exact (Kd.C_below HR5.out (by repeat (first | exact HB.out | apply below_alloc | apply pw_below_drewN | apply below_drew1)))); rintro e w' ⟨rfl, hb⟩; have n0 : Aside0 (w'.heap[gb]? = some (.cells #[.string a0_0, (.slice A0_1 l0_1.length c0_1), (.slice A0_2 l0_2.length c0_2), .int .i64 a0_3, .int .i64 a0_4, (.slice A0_5 l0_5.length c0_5)] 28 (0, 0))) := ⟨blk_below (by repeat (first | exact BK.out | refine blk_drewN ?_ _ | refine blk_drew ?_ | refine blk_alloc ?_ _)) hb⟩; have n1 := Aside0.mk (below_step (by repeat (first | exact HB.out | apply below_alloc | apply pw_below_drewN | apply below_drew1)) hb); clear BK HB hb; have BK := n0; have HB := n1; clear n0 n1 g0 f0 g1 f1 g2 f2 g3 f3 g4 f4 g5 f5; obtain ⟨⟨g0, f0⟩, ⟨g1, f1⟩, ⟨g2, f2⟩, ⟨g3, f3⟩, ⟨g4, f4⟩, ⟨g5, f5⟩⟩ := spec_l05Ok.cells BK.out))
    go_ret
    exact ⟨rfl, (by repeat (first | exact HB.out | apply below_alloc | apply pw_below_drewN | apply below_drew1))⟩
  | true =>
    simp only [if_true] at h
    obtain ⟨q1, h⟩ := impl_RagaText.iteN h
    replace h := Option.bind_eq_some_iff.mp h
    obtain ⟨tu, A10, h⟩ := h
    have A1 := Aside0.mk A10
    clear A10
    obtain ⟨q2, h⟩ := impl_RagaText.iteN h
    obtain ⟨q3, h⟩ := impl_RagaText.iteN h
    replace h := Option.bind_eq_some_iff.mp h
    obtain ⟨tv, A20, h⟩ := h
    have A2 := Aside0.mk A20
    clear A20
    obtain ⟨q4, h⟩ := impl_RagaText.iteN h
    obtain ⟨q5, h⟩ := impl_RagaText.iteN h
    replace h := Option.bind_eq_some_iff.mp h
    obtain ⟨ts, A30, h⟩ := h
    have A3 := Aside0.mk A30
    clear A30
    obtain ⟨q6, h⟩ := impl_RagaText.iteN h
    replace h := Option.bind_eq_some_iff.mp h
    obtain ⟨tt, A40, h⟩ := h
    have A4 := Aside0.mk A40
    clear A40
    obtain ⟨q7, h⟩ := impl_RagaText.iteN h
    generalize e11 : a0_0 ++ (⟨#[32]⟩ : ByteArray) = s11 at *
    generalize e15 : s11 ++ tu = s15 at *
    generalize e16 : s15 ++ (⟨#[32]⟩ : ByteArray) = s16 at *
    generalize e20 : s16 ++ tv = s20 at *
    generalize e21 : s20 ++ (⟨#[32]⟩ : ByteArray) = s21 at *
    generalize e25 : s21 ++ ts = s25 at *
    generalize e29 : s25 ++ tt = s29 at *
    obtain ⟨u1a, u1b, u1c⟩ := impl_RagaText.le3 q1
    obtain ⟨u2a, u2b, u2c⟩ := impl_RagaText.le3 q2
    obtain ⟨u3a, u3b, u3c⟩ := impl_RagaText.le3 q3
    obtain ⟨u4a, u4b, u4c⟩ := impl_RagaText.le3 q4
    obtain ⟨u5a, u5b, u5c⟩ := impl_RagaText.le3 q5
    obtain ⟨u6a, u6b, u6c⟩ := impl_RagaText.le3 q6
    obtain ⟨u7a, u7b, u7c⟩ := impl_RagaText.le3 q7
    clear q1 q2 q3 q4 q5 q6 q7
    have H' := Aside0.mk h
    clear h
    go_enter Try.func24, Try.ntmps24
    go_wp2_with (first | ((with_reducible refine gate_dst (N := 1) rfl ?_); (try (refine gate_guard (by rfl) ?_; dsimp only)); refine box_event ?hg (N := 1) ?hd (cs := #[.string a0_0, .slice A0_1 l0_1.length c0_1, .slice A0_2 l0_2.length c0_2, .int .i64 a0_3, .int .i64 a0_4, .slice A0_5 l0_5.length c0_5]) (t := 28) ?hr ?_; (case hd => rfl); (case hg => rfl); (case hr => first | (go_simp; done) | (go_simp; rfl)); intro gb hg w3 hbox hb; have HB := Aside0.mk (below_step (by repeat (first | exact HB0.out | apply below_alloc | apply pw_below_drewN | apply below_drew1)) hb); have BK := Aside0.mk hbox; clear HB0 hb hbox hg; obtain ⟨⟨g0, f0⟩, ⟨g1, f1⟩, ⟨g2, f2⟩, ⟨g3, f3⟩, ⟨g4, f4⟩, ⟨g5, f5⟩⟩ := spec_l05Ok.cells BK.out) | (go_at_call 20; (with_reducible refine (impl_ValidRaga.calls k a0_0 A0_1 c0_1 l0_1 A0_2 c0_2 l0_2 a0_3 a0_4 A0_5 c0_5 l0_5 _ _ ?side1 HC1.out ?side2 HC2.out ?side3 HC5.out AV.out).mono ?_); (case side1 => exact (Kd.C_below HR1.out (by repeat (first | exact HB.out | apply below_alloc | apply pw_below_drewN | apply below_drew1)))); (case side2 => exact (Kd.C_below HR2.out (by repeat (first | exact HB.out | apply below_alloc | apply pw_below_drewN | apply below_drew1)))); (case side3 => exact (Kd.C_below HR5.out (by repeat (first | exact HB.out | apply below_alloc | apply pw_below_drewN | apply below_drew1)))); rintro e w' ⟨rfl, hb⟩; have n0 : Aside0 (w'.heap[gb]? = some (.cells #[.string a0_0, (.slice A0_1 l0_1.length c0_1), (.slice A0_2 l0_2.length c0_2), .int .i64 a0_3, .int .i64 a0_4, (.slice A0_5 l0_5.length c0_5)] 28 (0, 0))) := ⟨blk_below (by repeat (first | exact BK.out | refine blk_drewN ?_ _ | refine blk_drew ?_ | refine blk_alloc ?_ _)) hb⟩; have n1 := Aside0.mk (below_step (by repeat (first | exact HB.out | apply below_alloc | apply pw_below_drewN | apply below_drew1)) hb); clear BK HB hb; have BK := n0; have HB := n1; clear n0 n1 g0 f0 g1 f1 g2 f2 g3 f3 g4 f4 g5 f5; obtain ⟨⟨g0, f0⟩, ⟨g1, f1⟩, ⟨g2, f2⟩, ⟨g3, f3⟩, ⟨g4, f4⟩, ⟨g5, f5⟩⟩ := spec_l05Ok.cells BK.out))
    go_quiet (first | (go_at_call 58; (with_reducible refine (impl_ScaleText.calls k A0_1 c0_1 l0_1 _ _ (Kd.C_drewN (Kd.C_below HR1.out HB.out) _) HC1.out A1.out).mono ?_); rintro e w' ⟨rfl, nd, rfl⟩; (try first | exact ⟨rfl, _, World.drewN_drewN _ _ _⟩ | exact ⟨rfl, _, Eq.trans (World.drewN_drewN _ _ _) (congrArg (World.drewN _) (Nat.add_assoc _ _ _))⟩)) | (go_at_call 58; (with_reducible refine (impl_ScaleText.calls k A0_2 c0_2 l0_2 _ _ (Kd.C_drewN (Kd.C_below HR2.out HB.out) _) HC2.out A2.out).mono ?_); rintro e w' ⟨rfl, nd, rfl⟩; (try first | exact ⟨rfl, _, World.drewN_drewN _ _ _⟩ | exact ⟨rfl, _, Eq.trans (World.drewN_drewN _ _ _) (congrArg (World.drewN _) (Nat.add_assoc _ _ _))⟩)) | (go_at_call 59; (with_reducible refine (impl_ToneName.calls a0_3 _ _ A3.out).mono ?_); rintro e w' ⟨rfl, nd, rfl⟩; (try first | exact ⟨rfl, _, World.drewN_drewN _ _ _⟩ | exact ⟨rfl, _, Eq.trans (World.drewN_drewN _ _ _) (congrArg (World.drewN _) (Nat.add_assoc _ _ _))⟩)) | (go_at_call 59; (with_reducible refine (impl_ToneName.calls a0_4 _ _ A4.out).mono ?_); rintro e w' ⟨rfl, nd, rfl⟩; (try first | exact ⟨rfl, _, World.drewN_drewN _ _ _⟩ | exact ⟨rfl, _, Eq.trans (World.drewN_drewN _ _ _) (congrArg (World.drewN _) (Nat.add_assoc _ _ _))⟩)))
    clear u1a u1b u1c u2a u2b u2c u3a u3b u3c u4a u4b u4c u5a u5b u5c u6a u6b u6c u7a u7b u7c e11 e15 e16 e20 e21 e25 e29
    go_wp2
    go_loopg [3, 33] k (fun kq v3 v33 w' => ∃ (z : ByteArray) (x : Int), v3 = .string z ∧ v33 = .int .i64 x ∧ Aside0 (impl_RagaText.l0 kq z l0_5 (l0_5.length : Int) x = some r) ∧ Aside0 (kq ≤ k) ∧ Aside0 (Below w.heap.size w w'))
    case atStart => exact ⟨s29, 0, (by first | rfl | (simp; done) | (simp [*]; done)), (by first | rfl | (simp; done) | (simp [*]; done)), H', ⟨Nat.le_refl _⟩, ⟨(by repeat (first | exact HB.out | apply below_alloc | apply pw_below_drewN | apply below_drew1))⟩⟩
    case round =>
      clear H' HB BK
      clear g0 f0 g1 f1 g2 f2 g3 f3 g4 f4 g5 f5
      obtain ⟨z, x, rfl, rfl, HA, HK1, HB⟩ := hrel
      cases gk with
      | zero => exact absurd HA.out (by simp [impl_RagaText.l0])
      | succ k1 =>
        have H := HA.out
        clear HA
        simp only [impl_RagaText.l0] at H
        by_cases c0 : x < (l0_5.length : Int)
        · rw [if_pos c0] at H
          obtain ⟨q1, H⟩ := impl_RagaText.iteN H
          obtain ⟨q2, H⟩ := impl_RagaText.iteN H
          obtain ⟨q3, H⟩ := impl_RagaText.iteN H
          replace H := Option.bind_eq_some_iff.mp H
          obtain ⟨tx, A50, H⟩ := H
          have A5 := Aside0.mk A50
          clear A50
          obtain ⟨q4, H⟩ := impl_RagaText.iteN H
          obtain ⟨q5, H⟩ := impl_RagaText.iteN H
          replace H := Option.bind_eq_some_iff.mp H
          obtain ⟨ty, A60, H⟩ := H
          have A6 := Aside0.mk A60
          clear A60
          obtain ⟨q6, H⟩ := impl_RagaText.iteN H
          obtain ⟨q7, H⟩ := impl_RagaText.iteN H
          obtain ⟨ad, A, c, e, hx, hl, hi⟩ := at_L1 HR5.out x q1 c0
          obtain ⟨ad2, e2, hp0⟩ := Kd.at_int hi 0 (by omega) q3
          obtain ⟨ad3, e3, hp1⟩ := Kd.at_int hi 1 (by omega) q5
          cases e
          subst e2
          obtain rfl : ad2 = ad3 := by injection e3
          rw [show ((0 : Int)).toNat = 0 from rfl, Addr.add_zero'] at hp0
          rw [show ((1 : Int)).toNat = 1 from rfl] at hp1
          simp only [Addr.add, Nat.one_ne_zero, if_false] at hp1
          replace hx := (HB.out.cell (World.block_lt_of_cell? w _ hx)).trans hx
          replace hp0 := (HB.out.cell (World.block_lt_of_cell? w _ hp0)).trans hp0
          replace hp1 := (HB.out.cell (World.block_lt_of_cell? w _ hp1)).trans hp1
          generalize e42 : (⟨#[32]⟩ : ByteArray) ++ tx = s42 at *
          generalize e47 : s42 ++ ty = s47 at *
          generalize e48 : z ++ s47 = s48 at *
          obtain ⟨u4a, u4b, u4c⟩ := impl_RagaText.le3 q4
          obtain ⟨u6a, u6b, u6c⟩ := impl_RagaText.le3 q6
          obtain ⟨u7a, u7b, u7c⟩ := impl_RagaText.le3 q7
          have n2 : (0 < (rd_L1 l0_5 x).length) = True := eq_true (by omega)
          have n3 : (1 < (rd_L1 l0_5 x).length) = True := eq_true (by omega)
          have m2 := eq_true q3
          have m3 := eq_true q5
          have p1 := eq_true q1
          have p0 := eq_true c0
          clear q1 q2 q3 q4 q5 q6 q7 c0 hi hl e3
          have H' := Aside0.mk H
          clear H
          go_wp2
          go_quiet (first | (go_at_call 59; (with_reducible refine (impl_ToneName.calls (rd (rd_L1 l0_5 x) 0) _ _ A5.out).mono ?_); rintro e w' ⟨rfl, nd, rfl⟩; (try first | exact ⟨rfl, _, World.drewN_drewN _ _ _⟩ | exact ⟨rfl, _, Eq.trans (World.drewN_drewN _ _ _) (congrArg (World.drewN _) (Nat.add_assoc _ _ _))⟩)) | (go_at_call 59; (with_reducible refine (impl_ToneName.calls (rd (rd_L1 l0_5 x) 1) _ _ A6.out).mono ?_); rintro e w' ⟨rfl, nd, rfl⟩; (try first | exact ⟨rfl, _, World.drewN_drewN _ _ _⟩ | exact ⟨rfl, _, Eq.trans (World.drewN_drewN _ _ _) (congrArg (World.drewN _) (Nat.add_assoc _ _ _))⟩)))
          go_wp2
          go_roundg k1
          case measure => have := HK1.out; omega
          case rel => exact ⟨_, _, (by first | rfl | (simp; done) | (simp [*]; done)), (by first | rfl | (simp; done) | (simp [*]; done)), H', ⟨by have := HK1.out; omega⟩, ⟨(by repeat (first | exact HB.out | apply below_alloc | apply pw_below_drewN | apply below_drew1))⟩⟩
        · rw [if_neg c0] at H
          have c0b : decide (x < (l0_5.length : Int)) = false := decide_eq_false c0
          clear c0
          obtain rfl := Option.some.inj H
          clear H
          go_wp2
          go_ret
          exact ⟨by first | rfl | (simp; done), (by repeat (first | exact HB.out | apply below_alloc | apply pw_below_drewN | apply below_drew1))⟩

end Go.Proofs.Ytglamjckdodeoaa.PFnExactRagaText
