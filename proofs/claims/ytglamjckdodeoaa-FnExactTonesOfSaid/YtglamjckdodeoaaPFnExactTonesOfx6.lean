-- Written by wip/myprint.py: the kit's print, with contracts of this session's own among the functions.
import Derived.Test.YtglamjckdodeoaaPFnExactTonesOfx0
import Derived.Test.YtglamjckdodeoaaPFnExactTonesOfx1
import Derived.Test.YtglamjckdodeoaaPFnExactTonesOfx2
import Derived.Test.YtglamjckdodeoaaPFnExactTonesOfx4
import Derived.Test.YtglamjckdodeoaaPFnExactTonesOfx5
namespace Go.Proofs.Ytglamjckdodeoaa.PFnExactTonesOf
open Go.RowKit Go.Proofs.YtglamjckdodeoaaW.PrintWords Go.Proofs.YtglamjckdodeoaaW.PrintLast Go.Proofs.YtglamjckdodeoaaW.PrintMore
attribute [local go_sem] max2_int min2_int max_two min_two max_three min_three max_four min_four   -- for this text's walks alone
set_option linter.unusedVariables false
set_option linter.unusedSimpArgs false

/-! ### impl_TonesOf: function 26 -/
def impl_TonesOf.l0 : Nat → List Int → Int → ByteArray → List Int → List Int → Int → Int → List (List Int) → Option (List Int × Int)
 | 0, _, _, _, _, _, _, _, _ => none
 | k + 1, x4, x9, x190000, x190001, x190002, x190003, x190004, x190005 => if x9 < 12 then ((impl_Raga_hasTone.f k x190000 x190001 x190002 x190003 x190004 x190005 x9).bind fun t191 => (if t191 = true then (if x4.length < 17592186044416 then (impl_TonesOf.l0 k (x4 ++ [x9]) (wrap64 (x9 + 1)) x190000 x190001 x190002 x190003 x190004 x190005) else (none)) else (impl_TonesOf.l0 k x4 (wrap64 (x9 + 1)) x190000 x190001 x190002 x190003 x190004 x190005))) else (some (x4, 0))
def impl_TonesOf.f (k : Nat) (a0_0 : ByteArray) (l0_1 : List Int) (l0_2 : List Int) (a0_3 : Int) (a0_4 : Int) (l0_5 : List (List Int)) : Option (List Int × Int) := (impl_ValidRaga.f k a0_0 l0_1 l0_2 a0_3 a0_4 l0_5).bind fun t190 => (if t190 = true then (impl_TonesOf.l0 k ([] : List Int) 0 a0_0 l0_1 l0_2 a0_3 a0_4 l0_5) else (some (([] : List Int), 1)))
theorem impl_TonesOf.mono_l : ∀ k, (∀ y0 y1 y2 y3 y4 y5 y6 y7, LeO (impl_TonesOf.l0 k y0 y1 y2 y3 y4 y5 y6 y7) (impl_TonesOf.l0 (k + 1) y0 y1 y2 y3 y4 y5 y6 y7))
 | 0 => fun _ _ _ _ _ _ _ _ r h => by simp [impl_TonesOf.l0] at h
 | k + 1 => by
  have ih0 := impl_TonesOf.mono_l k
  ·
   intro y0 y1 y2 y3 y4 y5 y6 y7
   unfold impl_TonesOf.l0
   repeat' first
   | (with_reducible exact ih0 _ _ _ _ _ _ _ _)
   | (with_reducible exact impl_Raga_hasTone.mono _ _ _ _ _ _ _ _)
   | (with_reducible exact impl_ValidRaga.mono _ _ _ _ _ _ _)
   | (with_reducible exact LeO.refl _)
   | (with_reducible exact LeO.none _)
   | (with_reducible refine LeO.ite ?_ ?_)
   | (with_reducible refine LeO.bind ?_ (fun _ => ?_))
   | exact ih0 _ _ _ _ _ _ _ _
   | exact impl_Raga_hasTone.mono _ _ _ _ _ _ _ _
   | exact impl_ValidRaga.mono _ _ _ _ _ _ _
   | exact LeO.none _
   | refine LeO.ite ?_ ?_
   | refine LeO.bind ?_ (fun _ => ?_)
theorem impl_TonesOf.mono : ∀ a0 a1 a2 a3 a4 a5 k, LeO (impl_TonesOf.f k a0 a1 a2 a3 a4 a5) (impl_TonesOf.f (k + 1) a0 a1 a2 a3 a4 a5) := by
 intro a0 a1 a2 a3 a4 a5 k
 have ih0 := impl_TonesOf.mono_l k
 unfold impl_TonesOf.f
 repeat' first
   | (with_reducible exact ih0 _ _ _ _ _ _ _ _)
   | (with_reducible exact impl_Raga_hasTone.mono _ _ _ _ _ _ _ _)
   | (with_reducible exact impl_ValidRaga.mono _ _ _ _ _ _ _)
   | (with_reducible exact LeO.refl _)
   | (with_reducible exact LeO.none _)
   | (with_reducible refine LeO.ite ?_ ?_)
   | (with_reducible refine LeO.bind ?_ (fun _ => ?_))
   | exact ih0 _ _ _ _ _ _ _ _
   | exact impl_Raga_hasTone.mono _ _ _ _ _ _ _ _
   | exact impl_ValidRaga.mono _ _ _ _ _ _ _
   | exact LeO.none _
   | refine LeO.ite ?_ ?_
   | refine LeO.bind ?_ (fun _ => ?_)
set_option maxHeartbeats 8000000 in
set_option maxRecDepth 100000 in
theorem impl_TonesOf.calls (k : Nat) (a0_0 : ByteArray) (A0_1 : Option Addr) (c0_1 : Nat) (l0_1 : List Int) (A0_2 : Option Addr) (c0_2 : Nat) (l0_2 : List Int) (a0_3 : Int) (a0_4 : Int) (A0_5 : Option Addr) (c0_5 : Nat) (l0_5 : List (List Int)) (r1 : List Int) (r2 : Int) (w : World) (hr0_1 : Kd.C (Kd.int .i64) w A0_1 l0_1.length l0_1) (hc0_1 : l0_1.length ≤ c0_1) (hr0_2 : Kd.C (Kd.int .i64) w A0_2 l0_2.length l0_2) (hc0_2 : l0_2.length ≤ c0_2) (hr0_5 : Kd.C (Kd.slice 2 (Kd.int .i64)) w A0_5 l0_5.length l0_5) (hc0_5 : l0_5.length ≤ c0_5) (h : impl_TonesOf.f k a0_0 l0_1 l0_2 a0_3 a0_4 l0_5 = some (r1, r2)) :
  Calls Try.prog 26 #[.agg #[.string a0_0, .slice A0_1 l0_1.length c0_1, .slice A0_2 l0_2.length c0_2, .int .i64 a0_3, .int .i64 a0_4, .slice A0_5 l0_5.length c0_5]] w fun e w' => ∃ v0_ : Value, e = .returned (.tuple #[v0_, .int .i64 r2]) ∧ Kd.R (Kd.int .i64) 2 w' w.heap.size (fun _ => True) v0_ r1 ∧ Below w.heap.size w w' := by
 have hu28 := Try.underlying28
 have HR0_1 := Aside0.mk hr0_1
 have HC0_1 := Aside0.mk hc0_1
 clear hr0_1 hc0_1
 have HR0_2 := Aside0.mk hr0_2
 have HC0_2 := Aside0.mk hc0_2
 clear hr0_2 hc0_2
 have HR0_5 := Aside0.mk hr0_5
 have HC0_5 := Aside0.mk hc0_5
 clear hr0_5 hc0_5
 have HB := Aside0.mk (Below.refl w.heap.size w)
 have H : ((impl_ValidRaga.f k a0_0 l0_1 l0_2 a0_3 a0_4 l0_5).bind fun t190 => (if t190 = true then (impl_TonesOf.l0 k ([] : List Int) 0 a0_0 l0_1 l0_2 a0_3 a0_4 l0_5) else (some (([] : List Int), 1)))) = some (r1, r2) := h
 clear h
 replace H := Option.bind_eq_some_iff.mp H
 obtain ⟨t190, A20, H⟩ := H
 replace H : (if t190 = true then (impl_TonesOf.l0 k ([] : List Int) 0 a0_0 l0_1 l0_2 a0_3 a0_4 l0_5) else (some (([] : List Int), 1))) = some (r1, r2) := H
 have A2 := Aside0.mk A20
 clear A20
 by_cases c3 : t190 = true
 ·
  subst c3
  have H1 : (impl_TonesOf.l0 k ([] : List Int) 0 a0_0 l0_1 l0_2 a0_3 a0_4 l0_5) = some (r1, r2) := by rw [if_pos rfl] at H; exact H
  clear H
  have H := H1
  clear H1
  have H' := Aside0.mk H
  clear H
  go_enter Try.func26, Try.ntmps26
  go_wp2_with (first | ((with_reducible refine gate_dst (N := 1) rfl ?_); refine box_event ?hg (N := 1) ?hd (cs := #[.string a0_0, .slice A0_1 l0_1.length c0_1, .slice A0_2 l0_2.length c0_2, .int .i64 a0_3, .int .i64 a0_4, .slice A0_5 l0_5.length c0_5]) (t := 28) ?hr ?_; (case hd => rfl); (case hg => rfl); (case hr => first | (go_simp; done) | (go_simp; rfl)); intro gb189 hg w4 hbox hb; have n0_ := Aside0.mk (below_step (by repeat (first | (with_reducible first | exact HB.out | apply below_alloc | apply pw_below_drewN | apply below_drew1) | exact HB.out)) hb); have n1_ := Aside0.mk (hbox); have n2_ := Aside0.mk ((by rw [hg]; exact (below_size (by repeat (first | (with_reducible first | exact HB.out | apply below_alloc | apply pw_below_drewN | apply below_drew1) | exact HB.out))) : w.heap.size ≤ gb189)); have n3_ := Aside0.mk ((by rw [hg]; exact (below_size (by repeat (first | (with_reducible first | exact HB.out | apply below_alloc | apply pw_below_drewN | apply below_drew1) | exact HB.out))) : w.heap.size ≤ gb189)); clear HB; have HB := n0_; have BK189 := n1_; have GW189 := n2_; have GE189 := n3_; clear n0_ n1_ n2_ n3_; clear hb hbox hg; have hcz5_0 : w4.cell? ⟨gb189, 0, none⟩ = some (.string a0_0) := (blk_cell BK189.out 0).trans rfl; have hcz5_1 : w4.cell? ⟨gb189, 1, none⟩ = some (.slice A0_1 l0_1.length c0_1) := (blk_cell BK189.out 1).trans rfl; have hcz5_2 : w4.cell? ⟨gb189, 2, none⟩ = some (.slice A0_2 l0_2.length c0_2) := (blk_cell BK189.out 2).trans rfl; have hcz5_3 : w4.cell? ⟨gb189, 3, none⟩ = some (.int .i64 a0_3) := (blk_cell BK189.out 3).trans rfl; have hcz5_4 : w4.cell? ⟨gb189, 4, none⟩ = some (.int .i64 a0_4) := (blk_cell BK189.out 4).trans rfl; have hcz5_5 : w4.cell? ⟨gb189, 5, none⟩ = some (.slice A0_5 l0_5.length c0_5) := (blk_cell BK189.out 5).trans rfl; have hfz5_0 := blk_frozen BK189.out 0; have hfz5_1 := blk_frozen BK189.out 1; have hfz5_2 := blk_frozen BK189.out 2; have hfz5_3 := blk_frozen BK189.out 3; have hfz5_4 := blk_frozen BK189.out 4; have hfz5_5 := blk_frozen BK189.out 5) | ((with_reducible refine gate_callee (f := 20) rfl ?_); refine goesL_ (some 7) rfl rfl Try.func20 (by kernel_rfl) rfl #[.agg #[.string a0_0, .slice A0_1 l0_1.length c0_1, .slice A0_2 l0_2.length c0_2, .int .i64 a0_3, .int .i64 a0_4, .slice A0_5 l0_5.length c0_5]] rfl (by (try simp only [List.map_toArray, List.map_cons, List.map_nil]); first | done | rfl | (simp only [List.length_drop, List.length_take]; rfl)) ?_; (with_reducible refine (impl_ValidRaga.calls k a0_0 _ _ l0_1 _ _ l0_2 a0_3 a0_4 _ _ l0_5 true _ ?side1 ?side2 ?side3 ?side4 ?side5 ?side6 A2.out).mono ?_); (case side1 => repeat (first | exact (Kd.C_below HR0_1.out HB.out) | (with_reducible refine Kd.C_alloc ?_ _) | (with_reducible refine Kd.C_drewN ?_ _) | (with_reducible refine Kd.C_drew ?_))); (case side2 => exact HC0_1.out); (case side3 => repeat (first | exact (Kd.C_below HR0_2.out HB.out) | (with_reducible refine Kd.C_alloc ?_ _) | (with_reducible refine Kd.C_drewN ?_ _) | (with_reducible refine Kd.C_drew ?_))); (case side4 => exact HC0_2.out); (case side5 => repeat (first | exact (Kd.C_below HR0_5.out HB.out) | (with_reducible refine Kd.C_alloc ?_ _) | (with_reducible refine Kd.C_drewN ?_ _) | (with_reducible refine Kd.C_drew ?_))); (case side6 => exact HC0_5.out); rintro e w6 ⟨rfl, hb⟩; refine ⟨_, rfl, ?_⟩; have n0_ := Aside0.mk (blk_below (g := gb189) (o := .cells #[.string a0_0, .slice A0_1 l0_1.length c0_1, .slice A0_2 l0_2.length c0_2, .int .i64 a0_3, .int .i64 a0_4, .slice A0_5 l0_5.length c0_5] 28 (0, 0)) (by (with_reducible repeat (first | refine blk_drewN ?_ _ | refine blk_drew ?_ | refine blk_alloc ?_ _)); exact BK189.out) hb); have n1_ := Aside0.mk (below_step (by repeat (first | (with_reducible first | exact HB.out | apply below_alloc | apply pw_below_drewN | apply below_drew1 | refine below_set ?_ GE189.out) | exact HB.out)) hb); clear BK189; clear HB; have BK189 := n0_; have HB := n1_; clear n0_ n1_; (try clear hb); (try clear hb2); (try clear hk); (try clear hi)))
  go_loopg [4, 9] k (fun kq v4 v9 w' => ∃ (x4_1 : List Int) (x9_1 : Int), v9 = .int .i64 x9_1 ∧ Aside0 (impl_TonesOf.l0 kq x4_1 x9_1 a0_0 l0_1 l0_2 a0_3 a0_4 l0_5 = some (r1, r2)) ∧ Aside0 (kq ≤ k) ∧ Aside0 (Kd.R (Kd.int .i64) 2 w' w.heap.size (fun _ => True) v4 x4_1) ∧ Aside0 (w'.heap[gb189]? = some (.cells #[.string a0_0, (.slice A0_1 l0_1.length c0_1), (.slice A0_2 l0_2.length c0_2), .int .i64 a0_3, .int .i64 a0_4, (.slice A0_5 l0_5.length c0_5)] 28 (0, 0))) ∧ Aside0 (Below w.heap.size w w'))
  case atStart => exact ⟨(([] : List Int)), (0), (by first | rfl | (simp; done) | (simp [*]; done)), H', ⟨Nat.le_refl _⟩, ⟨by first | exact Kd.R_nil _ _ _ _ _ | exact Kd.N_nil _ _ _ _ _ | exact Kd.V_nil _ _ _ _ _ | exact Kd.Q_nil _ _ _ _ _ | exact Kd.S_nil _ _ _ _ _⟩, ⟨by (with_reducible repeat (first | refine blk_drewN ?_ _ | refine blk_drew ?_ | refine blk_alloc ?_ _)); exact BK189.out⟩, ⟨by repeat (first | (with_reducible first | exact HB.out | apply below_alloc | apply pw_below_drewN | apply below_drew1 | refine below_set ?_ GE189.out) | exact HB.out)⟩⟩
  case round =>
   clear H'
   try clear c2
   try clear p2
   try clear c3
   try clear hcz5_0
   try clear hcz5_1
   try clear hcz5_2
   try clear hcz5_3
   try clear hcz5_4
   try clear hcz5_5
   try clear hfz5_0
   try clear hfz5_1
   try clear hfz5_2
   try clear hfz5_3
   try clear hfz5_4
   try clear hfz5_5
   obtain ⟨x4_1, x9_1, rfl, HA, HK1, HO_4, BK189, HB⟩ := hrel
   cases gk with
   | zero => exact absurd HA.out (by simp [impl_TonesOf.l0])
   | succ k1 =>
    have H := HA.out
    clear HA
    simp only [impl_TonesOf.l0] at H
    by_cases c7 : x9_1 < 12
    ·
     rw [if_pos c7] at H
     have c7b0 : decide (x9_1 < 12) = true := decide_eq_true c7
     clear c7
     replace H := Option.bind_eq_some_iff.mp H
     obtain ⟨t191, A80, H⟩ := H
     replace H : (if t191 = true then (if x4_1.length < 17592186044416 then (impl_TonesOf.l0 k1 (x4_1 ++ [x9_1]) (wrap64 (x9_1 + 1)) a0_0 l0_1 l0_2 a0_3 a0_4 l0_5) else (none)) else (impl_TonesOf.l0 k1 x4_1 (wrap64 (x9_1 + 1)) a0_0 l0_1 l0_2 a0_3 a0_4 l0_5)) = some (r1, r2) := H
     have A8 := Aside0.mk A80
     clear A80
     by_cases c9 : t191 = true
     ·
      subst c9
      have H1 : (if x4_1.length < 17592186044416 then (impl_TonesOf.l0 k1 (x4_1 ++ [x9_1]) (wrap64 (x9_1 + 1)) a0_0 l0_1 l0_2 a0_3 a0_4 l0_5) else (none)) = some (r1, r2) := by rw [if_pos rfl] at H; exact H
      clear H
      have H := H1
      clear H1
      by_cases c10 : x4_1.length < 17592186044416
      ·
       rw [if_pos c10] at H
       have LMc10 := Aside0.mk c10
       clear c10
       obtain ⟨y192, hy192⟩ : ∃ y_ : List Int, y_ = (x4_1 ++ [x9_1]) := ⟨_, rfl⟩
       replace H : (impl_TonesOf.l0 k1 y192 (wrap64 (x9_1 + 1)) a0_0 l0_1 l0_2 a0_3 a0_4 l0_5) = some (r1, r2) := by first | (rw [hy192]; with_reducible exact H) | (have H2_ := (Option.bind_some _ _).symm.trans H; rw [hy192]; with_reducible exact H2_) | (have H2_ := (Option.bind_some _ _).symm.trans H; with_reducible exact H2_) | with_reducible exact H | (rw [hy192]; exact H) | exact H
       have Ny192 := Aside0.mk hy192
       clear hy192
       have H' := Aside0.mk H
       clear H
       have hcz11_0 : wr.cell? ⟨gb189, 0, none⟩ = some (.string a0_0) := (blk_cell BK189.out 0).trans rfl
       have hcz11_1 : wr.cell? ⟨gb189, 1, none⟩ = some (.slice A0_1 l0_1.length c0_1) := (blk_cell BK189.out 1).trans rfl
       have hcz11_2 : wr.cell? ⟨gb189, 2, none⟩ = some (.slice A0_2 l0_2.length c0_2) := (blk_cell BK189.out 2).trans rfl
       have hcz11_3 : wr.cell? ⟨gb189, 3, none⟩ = some (.int .i64 a0_3) := (blk_cell BK189.out 3).trans rfl
       have hcz11_4 : wr.cell? ⟨gb189, 4, none⟩ = some (.int .i64 a0_4) := (blk_cell BK189.out 4).trans rfl
       have hcz11_5 : wr.cell? ⟨gb189, 5, none⟩ = some (.slice A0_5 l0_5.length c0_5) := (blk_cell BK189.out 5).trans rfl
       have hfz11_0 := blk_frozen BK189.out 0
       have hfz11_1 := blk_frozen BK189.out 1
       have hfz11_2 := blk_frozen BK189.out 2
       have hfz11_3 := blk_frozen BK189.out 3
       have hfz11_4 := blk_frozen BK189.out 4
       have hfz11_5 := blk_frozen BK189.out 5
       go_wp2_with (first | ((with_reducible refine gate_callee (f := 54) rfl ?_); refine goesL_ (some 14) rfl rfl Try.func54 (by kernel_rfl) rfl #[.agg #[.string a0_0, .slice A0_1 l0_1.length c0_1, .slice A0_2 l0_2.length c0_2, .int .i64 a0_3, .int .i64 a0_4, .slice A0_5 l0_5.length c0_5], .int .i64 x9_1] rfl (by (try simp only [List.map_toArray, List.map_cons, List.map_nil]); first | done | rfl | (simp only [List.length_drop, List.length_take]; rfl)) ?_; (with_reducible refine (impl_Raga_hasTone.calls k1 a0_0 _ _ l0_1 _ _ l0_2 a0_3 a0_4 _ _ l0_5 x9_1 true _ ?side1 ?side2 ?side3 ?side4 ?side5 ?side6 A8.out).mono ?_); (case side1 => repeat (first | exact (Kd.C_below HR0_1.out HB.out) | (with_reducible refine Kd.C_alloc ?_ _) | (with_reducible refine Kd.C_drewN ?_ _) | (with_reducible refine Kd.C_drew ?_))); (case side2 => exact HC0_1.out); (case side3 => repeat (first | exact (Kd.C_below HR0_2.out HB.out) | (with_reducible refine Kd.C_alloc ?_ _) | (with_reducible refine Kd.C_drewN ?_ _) | (with_reducible refine Kd.C_drew ?_))); (case side4 => exact HC0_2.out); (case side5 => repeat (first | exact (Kd.C_below HR0_5.out HB.out) | (with_reducible refine Kd.C_alloc ?_ _) | (with_reducible refine Kd.C_drewN ?_ _) | (with_reducible refine Kd.C_drew ?_))); (case side6 => exact HC0_5.out); rintro e w12 ⟨rfl, hb⟩; refine ⟨_, rfl, ?_⟩; have n0_ := Aside0.mk (Kd.R_below (by (with_reducible repeat (first | apply Kd.R_alloc | apply Kd.R_drewN | apply Kd.R_drew)); exact HO_4.out) hb); have n1_ := Aside0.mk (blk_below (g := gb189) (o := .cells #[.string a0_0, .slice A0_1 l0_1.length c0_1, .slice A0_2 l0_2.length c0_2, .int .i64 a0_3, .int .i64 a0_4, .slice A0_5 l0_5.length c0_5] 28 (0, 0)) (by (with_reducible repeat (first | refine blk_drewN ?_ _ | refine blk_drew ?_ | refine blk_alloc ?_ _)); exact BK189.out) hb); have n2_ := Aside0.mk (below_step (by repeat (first | (with_reducible first | exact HB.out | apply below_alloc | apply pw_below_drewN | apply below_drew1 | refine below_set ?_ GE189.out) | exact HB.out)) hb); clear HO_4; clear BK189; clear HB; have HO_4 := n0_; have BK189 := n1_; have HB := n2_; clear n0_ n1_ n2_; (try clear hb); (try clear hb2); (try clear hk); (try clear hi)) | ((with_reducible refine gate_builtin (b := .append) (xs := #[.tmp 15, .tmp 17]) rfl ?_); at_builtin; refine Kd.R_append (Kd.int .i64) (w0 := w) w.heap.size rfl (.tmp 15) (.tmp 17) 22 2 (.int .i64 0) 8 rfl Try.underlying22 info2 rfl (by decide) (by omega) u4 x4_1 x9_1 [.int .i64 x9_1] (fun _ => True) (fun _ => False) rfl rfl ?aP (fun _ hk => hk.elim) ?aF ?aO ?aB ?aS ?aL ?_; (case aP => exact rfl); (case aB => exact (by repeat (first | (with_reducible first | exact HB.out | apply below_alloc | apply pw_below_drewN | apply below_drew1 | refine below_set ?_ GE189.out) | exact HB.out))); (case aF => exact (fun _ _ => trivial)); (case aO => exact (by (with_reducible repeat (first | apply Kd.R_alloc | apply Kd.R_drewN | apply Kd.R_drew)); exact HO_4.out)); (case aS => exact (below_size (by repeat (first | (with_reducible first | exact HB.out | apply below_alloc | apply pw_below_drewN | apply below_drew1 | refine below_set ?_ GE189.out) | exact HB.out)))); (case aL => have := LMc10.out; omega); intro v193 w13 ho hb hg hat; rw [← Ny192.out] at ho; have n0_ := Aside0.mk (blk_grown (g := gb189) (o := .cells #[.string a0_0, .slice A0_1 l0_1.length c0_1, .slice A0_2 l0_2.length c0_2, .int .i64 a0_3, .int .i64 a0_4, .slice A0_5 l0_5.length c0_5] 28 (0, 0)) (by (with_reducible repeat (first | refine blk_drewN ?_ _ | refine blk_drew ?_ | refine blk_alloc ?_ _)); exact BK189.out) hg (Kd.R_ne HO_4.out BK189.out (by decide))); have n1_ := Aside0.mk (hb); have n2_ := Aside0.mk (ho); clear BK189; clear HB; clear HO_4; have BK189 := n0_; have HB := n1_; have HO194 := n2_; clear n0_ n1_ n2_; clear ho hb hg hat))
       go_roundg k1
       case measure => have := HK1.out; omega
       case rel => exact ⟨(y192), (wrap64 (x9_1 + 1)), (by first | rfl | (simp; done) | (simp [*]; done)), H', ⟨by have := HK1.out; omega⟩, ⟨by (with_reducible repeat (first | apply Kd.R_alloc | apply Kd.R_drewN | apply Kd.R_drew)); exact HO194.out⟩, ⟨by (with_reducible repeat (first | refine blk_drewN ?_ _ | refine blk_drew ?_ | refine blk_alloc ?_ _)); exact BK189.out⟩, ⟨by repeat (first | (with_reducible first | exact HB.out | apply below_alloc | apply pw_below_drewN | apply below_drew1 | refine below_set ?_ GE189.out) | exact HB.out)⟩⟩
      ·
       rw [if_neg c10] at H
       exact absurd H (by simp)
     ·
      replace c9 := Bool.eq_false_iff.mpr c9
      subst c9
      have H1 : (impl_TonesOf.l0 k1 x4_1 (wrap64 (x9_1 + 1)) a0_0 l0_1 l0_2 a0_3 a0_4 l0_5) = some (r1, r2) := by rw [if_neg (show ¬ (false = true) by decide)] at H; exact H
      clear H
      have H := H1
      clear H1
      have H' := Aside0.mk H
      clear H
      have hcz14_0 : wr.cell? ⟨gb189, 0, none⟩ = some (.string a0_0) := (blk_cell BK189.out 0).trans rfl
      have hcz14_1 : wr.cell? ⟨gb189, 1, none⟩ = some (.slice A0_1 l0_1.length c0_1) := (blk_cell BK189.out 1).trans rfl
      have hcz14_2 : wr.cell? ⟨gb189, 2, none⟩ = some (.slice A0_2 l0_2.length c0_2) := (blk_cell BK189.out 2).trans rfl
      have hcz14_3 : wr.cell? ⟨gb189, 3, none⟩ = some (.int .i64 a0_3) := (blk_cell BK189.out 3).trans rfl
      have hcz14_4 : wr.cell? ⟨gb189, 4, none⟩ = some (.int .i64 a0_4) := (blk_cell BK189.out 4).trans rfl
      have hcz14_5 : wr.cell? ⟨gb189, 5, none⟩ = some (.slice A0_5 l0_5.length c0_5) := (blk_cell BK189.out 5).trans rfl
      have hfz14_0 := blk_frozen BK189.out 0
      have hfz14_1 := blk_frozen BK189.out 1
      have hfz14_2 := blk_frozen BK189.out 2
      have hfz14_3 := blk_frozen BK189.out 3
      have hfz14_4 := blk_frozen BK189.out 4
      have hfz14_5 := blk_frozen BK189.out 5
      go_wp2_with (first | ((with_reducible refine gate_callee (f := 54) rfl ?_); refine goesL_ (some 14) rfl rfl Try.func54 (by kernel_rfl) rfl #[.agg #[.string a0_0, .slice A0_1 l0_1.length c0_1, .slice A0_2 l0_2.length c0_2, .int .i64 a0_3, .int .i64 a0_4, .slice A0_5 l0_5.length c0_5], .int .i64 x9_1] rfl (by (try simp only [List.map_toArray, List.map_cons, List.map_nil]); first | done | rfl | (simp only [List.length_drop, List.length_take]; rfl)) ?_; (with_reducible refine (impl_Raga_hasTone.calls k1 a0_0 _ _ l0_1 _ _ l0_2 a0_3 a0_4 _ _ l0_5 x9_1 false _ ?side1 ?side2 ?side3 ?side4 ?side5 ?side6 A8.out).mono ?_); (case side1 => repeat (first | exact (Kd.C_below HR0_1.out HB.out) | (with_reducible refine Kd.C_alloc ?_ _) | (with_reducible refine Kd.C_drewN ?_ _) | (with_reducible refine Kd.C_drew ?_))); (case side2 => exact HC0_1.out); (case side3 => repeat (first | exact (Kd.C_below HR0_2.out HB.out) | (with_reducible refine Kd.C_alloc ?_ _) | (with_reducible refine Kd.C_drewN ?_ _) | (with_reducible refine Kd.C_drew ?_))); (case side4 => exact HC0_2.out); (case side5 => repeat (first | exact (Kd.C_below HR0_5.out HB.out) | (with_reducible refine Kd.C_alloc ?_ _) | (with_reducible refine Kd.C_drewN ?_ _) | (with_reducible refine Kd.C_drew ?_))); (case side6 => exact HC0_5.out); rintro e w15 ⟨rfl, hb⟩; refine ⟨_, rfl, ?_⟩; have n0_ := Aside0.mk (Kd.R_below (by (with_reducible repeat (first | apply Kd.R_alloc | apply Kd.R_drewN | apply Kd.R_drew)); exact HO_4.out) hb); have n1_ := Aside0.mk (blk_below (g := gb189) (o := .cells #[.string a0_0, .slice A0_1 l0_1.length c0_1, .slice A0_2 l0_2.length c0_2, .int .i64 a0_3, .int .i64 a0_4, .slice A0_5 l0_5.length c0_5] 28 (0, 0)) (by (with_reducible repeat (first | refine blk_drewN ?_ _ | refine blk_drew ?_ | refine blk_alloc ?_ _)); exact BK189.out) hb); have n2_ := Aside0.mk (below_step (by repeat (first | (with_reducible first | exact HB.out | apply below_alloc | apply pw_below_drewN | apply below_drew1 | refine below_set ?_ GE189.out) | exact HB.out)) hb); clear HO_4; clear BK189; clear HB; have HO_4 := n0_; have BK189 := n1_; have HB := n2_; clear n0_ n1_ n2_; (try clear hb); (try clear hb2); (try clear hk); (try clear hi)))
      go_roundg k1
      case measure => have := HK1.out; omega
      case rel => exact ⟨(x4_1), (wrap64 (x9_1 + 1)), (by first | rfl | (simp; done) | (simp [*]; done)), H', ⟨by have := HK1.out; omega⟩, ⟨by (with_reducible repeat (first | apply Kd.R_alloc | apply Kd.R_drewN | apply Kd.R_drew)); exact HO_4.out⟩, ⟨by (with_reducible repeat (first | refine blk_drewN ?_ _ | refine blk_drew ?_ | refine blk_alloc ?_ _)); exact BK189.out⟩, ⟨by repeat (first | (with_reducible first | exact HB.out | apply below_alloc | apply pw_below_drewN | apply below_drew1 | refine below_set ?_ GE189.out) | exact HB.out)⟩⟩
    ·
     rw [if_neg c7] at H
     have c7b0 : decide (x9_1 < 12) = false := decide_eq_false c7
     clear c7
     simp only [Option.some.injEq, Prod.mk.injEq] at H
     obtain ⟨rfl, rfl⟩ := H
     go_wp2
     go_ret2
     exact ⟨_, by first | rfl | (simp [errW_none, errW_some] <;> rfl) | (simp [*, errW_none, errW_some] <;> rfl), by (with_reducible repeat (first | apply Kd.R_alloc | apply Kd.R_drewN | apply Kd.R_drew)); exact HO_4.out, by repeat (first | (with_reducible first | exact HB.out | apply below_alloc | apply pw_below_drewN | apply below_drew1 | refine below_set ?_ GE189.out) | exact HB.out)⟩
 ·
  replace c3 := Bool.eq_false_iff.mpr c3
  subst c3
  have H1 : (some (([] : List Int), 1)) = some (r1, r2) := by rw [if_neg (show ¬ (false = true) by decide)] at H; exact H
  clear H
  have H := H1
  clear H1
  simp only [Option.some.injEq, Prod.mk.injEq] at H
  obtain ⟨rfl, rfl⟩ := H
  go_enter Try.func26, Try.ntmps26
  go_wp2_with (first | ((with_reducible refine gate_dst (N := 1) rfl ?_); refine box_event ?hg (N := 1) ?hd (cs := #[.string a0_0, .slice A0_1 l0_1.length c0_1, .slice A0_2 l0_2.length c0_2, .int .i64 a0_3, .int .i64 a0_4, .slice A0_5 l0_5.length c0_5]) (t := 28) ?hr ?_; (case hd => rfl); (case hg => rfl); (case hr => first | (go_simp; done) | (go_simp; rfl)); intro gb189 hg w16 hbox hb; have n0_ := Aside0.mk (below_step (by repeat (first | (with_reducible first | exact HB.out | apply below_alloc | apply pw_below_drewN | apply below_drew1) | exact HB.out)) hb); have n1_ := Aside0.mk (hbox); have n2_ := Aside0.mk ((by rw [hg]; exact (below_size (by repeat (first | (with_reducible first | exact HB.out | apply below_alloc | apply pw_below_drewN | apply below_drew1) | exact HB.out))) : w.heap.size ≤ gb189)); have n3_ := Aside0.mk ((by rw [hg]; exact (below_size (by repeat (first | (with_reducible first | exact HB.out | apply below_alloc | apply pw_below_drewN | apply below_drew1) | exact HB.out))) : w.heap.size ≤ gb189)); clear HB; have HB := n0_; have BK189 := n1_; have GW189 := n2_; have GE189 := n3_; clear n0_ n1_ n2_ n3_; clear hb hbox hg; have hcz17_0 : w16.cell? ⟨gb189, 0, none⟩ = some (.string a0_0) := (blk_cell BK189.out 0).trans rfl; have hcz17_1 : w16.cell? ⟨gb189, 1, none⟩ = some (.slice A0_1 l0_1.length c0_1) := (blk_cell BK189.out 1).trans rfl; have hcz17_2 : w16.cell? ⟨gb189, 2, none⟩ = some (.slice A0_2 l0_2.length c0_2) := (blk_cell BK189.out 2).trans rfl; have hcz17_3 : w16.cell? ⟨gb189, 3, none⟩ = some (.int .i64 a0_3) := (blk_cell BK189.out 3).trans rfl; have hcz17_4 : w16.cell? ⟨gb189, 4, none⟩ = some (.int .i64 a0_4) := (blk_cell BK189.out 4).trans rfl; have hcz17_5 : w16.cell? ⟨gb189, 5, none⟩ = some (.slice A0_5 l0_5.length c0_5) := (blk_cell BK189.out 5).trans rfl; have hfz17_0 := blk_frozen BK189.out 0; have hfz17_1 := blk_frozen BK189.out 1; have hfz17_2 := blk_frozen BK189.out 2; have hfz17_3 := blk_frozen BK189.out 3; have hfz17_4 := blk_frozen BK189.out 4; have hfz17_5 := blk_frozen BK189.out 5) | ((with_reducible refine gate_callee (f := 20) rfl ?_); refine goesL_ (some 7) rfl rfl Try.func20 (by kernel_rfl) rfl #[.agg #[.string a0_0, .slice A0_1 l0_1.length c0_1, .slice A0_2 l0_2.length c0_2, .int .i64 a0_3, .int .i64 a0_4, .slice A0_5 l0_5.length c0_5]] rfl (by (try simp only [List.map_toArray, List.map_cons, List.map_nil]); first | done | rfl | (simp only [List.length_drop, List.length_take]; rfl)) ?_; (with_reducible refine (impl_ValidRaga.calls k a0_0 _ _ l0_1 _ _ l0_2 a0_3 a0_4 _ _ l0_5 false _ ?side1 ?side2 ?side3 ?side4 ?side5 ?side6 A2.out).mono ?_); (case side1 => repeat (first | exact (Kd.C_below HR0_1.out HB.out) | (with_reducible refine Kd.C_alloc ?_ _) | (with_reducible refine Kd.C_drewN ?_ _) | (with_reducible refine Kd.C_drew ?_))); (case side2 => exact HC0_1.out); (case side3 => repeat (first | exact (Kd.C_below HR0_2.out HB.out) | (with_reducible refine Kd.C_alloc ?_ _) | (with_reducible refine Kd.C_drewN ?_ _) | (with_reducible refine Kd.C_drew ?_))); (case side4 => exact HC0_2.out); (case side5 => repeat (first | exact (Kd.C_below HR0_5.out HB.out) | (with_reducible refine Kd.C_alloc ?_ _) | (with_reducible refine Kd.C_drewN ?_ _) | (with_reducible refine Kd.C_drew ?_))); (case side6 => exact HC0_5.out); rintro e w18 ⟨rfl, hb⟩; refine ⟨_, rfl, ?_⟩; have n0_ := Aside0.mk (blk_below (g := gb189) (o := .cells #[.string a0_0, .slice A0_1 l0_1.length c0_1, .slice A0_2 l0_2.length c0_2, .int .i64 a0_3, .int .i64 a0_4, .slice A0_5 l0_5.length c0_5] 28 (0, 0)) (by (with_reducible repeat (first | refine blk_drewN ?_ _ | refine blk_drew ?_ | refine blk_alloc ?_ _)); exact BK189.out) hb); have n1_ := Aside0.mk (below_step (by repeat (first | (with_reducible first | exact HB.out | apply below_alloc | apply pw_below_drewN | apply below_drew1 | refine below_set ?_ GE189.out) | exact HB.out)) hb); clear BK189; clear HB; have BK189 := n0_; have HB := n1_; clear n0_ n1_; (try clear hb); (try clear hb2); (try clear hk); (try clear hi)))
  go_ret2
  exact ⟨_, by first | rfl | (simp [errW_none, errW_some] <;> rfl) | (simp [*, errW_none, errW_some] <;> rfl), by first | exact Kd.R_nil _ _ _ _ _ | exact Kd.N_nil _ _ _ _ _ | exact Kd.V_nil _ _ _ _ _ | exact Kd.Q_nil _ _ _ _ _ | exact Kd.S_nil _ _ _ _ _, by repeat (first | (with_reducible first | exact HB.out | apply below_alloc | apply pw_below_drewN | apply below_drew1 | refine below_set ?_ GE189.out) | exact HB.out)⟩

/-! ### laws_markInt64S: function 29 -/
def laws_markInt64S.l0 : Nat → List Int → Int → Int → Option (Int × List Int)
 | 0, _, _, _ => none
 | k + 1, x0, x1, x5 => if x5 < (x0.length : Int) then (if 0 ≤ x5 then (laws_markInt64S.l0 k (x0.set (x5 : Int).toNat x1) (wrap64 (x1 + 1)) (wrap64 (x5 + 1))) else (none)) else (some (x1, x0))
def laws_markInt64S.f (k : Nat) (l0 : List Int) (a1 : Int) : Option (Int × List Int) := laws_markInt64S.l0 k l0 a1 0
theorem laws_markInt64S.mono_l : ∀ k, (∀ y0 y1 y2, LeO (laws_markInt64S.l0 k y0 y1 y2) (laws_markInt64S.l0 (k + 1) y0 y1 y2))
 | 0 => fun _ _ _ r h => by simp [laws_markInt64S.l0] at h
 | k + 1 => by
  have ih0 := laws_markInt64S.mono_l k
  ·
   intro y0 y1 y2
   unfold laws_markInt64S.l0
   repeat' first
   | (with_reducible exact ih0 _ _ _)
   | (with_reducible exact LeO.refl _)
   | (with_reducible exact LeO.none _)
   | (with_reducible refine LeO.ite ?_ ?_)
   | (with_reducible refine LeO.bind ?_ (fun _ => ?_))
   | exact ih0 _ _ _
   | exact LeO.none _
   | refine LeO.ite ?_ ?_
   | refine LeO.bind ?_ (fun _ => ?_)
theorem laws_markInt64S.mono : ∀ a0 a1 k, LeO (laws_markInt64S.f k a0 a1) (laws_markInt64S.f (k + 1) a0 a1) := by
 intro a0 a1 k
 have ih0 := laws_markInt64S.mono_l k
 unfold laws_markInt64S.f
 repeat' first
   | (with_reducible exact ih0 _ _ _)
   | (with_reducible exact LeO.refl _)
   | (with_reducible exact LeO.none _)
   | (with_reducible refine LeO.ite ?_ ?_)
   | (with_reducible refine LeO.bind ?_ (fun _ => ?_))
   | exact ih0 _ _ _
   | exact LeO.none _
   | refine LeO.ite ?_ ?_
   | refine LeO.bind ?_ (fun _ => ?_)
set_option maxHeartbeats 8000000 in
set_option maxRecDepth 100000 in
theorem laws_markInt64S.calls (k : Nat) (P0_ : Nat → Prop) (u9000_ : Value) (l0 : List Int) (a1 : Int) (r1 : Int) (r2 : List Int) (w0 w : World) (hB : Below w0.heap.size w0 w) (ho0 : Kd.R (Kd.int .i64) 2 w w0.heap.size P0_ u9000_ l0) (h : laws_markInt64S.f k l0 a1 = some (r1, r2)) :
  Calls Try.prog 29 #[u9000_, .int .i64 a1] w fun e w' => e = .returned (.int .i64 r1) ∧ Kd.R (Kd.int .i64) 2 w' w0.heap.size (fun k_ => (P0_ k_ ∨ w.heap.size ≤ k_)) u9000_ r2 ∧ Below w0.heap.size w0 w' ∧ Kept w w' (fun k_ => P0_ k_) := by
 have HO0 := Aside0.mk (show Kd.R (Kd.int .i64) 2 w w0.heap.size (fun k_ => (P0_ k_ ∨ w.heap.size ≤ k_)) u9000_ l0 from Kd.R_mono ho0 (fun k_ hk => (.inl hk)))
 have HK := Aside0.mk (Kept.refl w (fun k_ => P0_ k_))
 have HW0 := Aside0.mk hB.size
 have HB := Aside0.mk hB
 clear hB
 have H : (laws_markInt64S.l0 k l0 a1 0) = some (r1, r2) := h
 clear h
 have H' := Aside0.mk H
 clear H
 go_enter Try.func29, Try.ntmps29
 go_wp2
 go_loopg [1, 5] k (fun kq v1 v5 w' => ∃ (x0_1 : List Int) (x1_1 : Int) (x5_1 : Int), v1 = .int .i64 x1_1 ∧ v5 = .int .i64 x5_1 ∧ Aside0 (laws_markInt64S.l0 kq x0_1 x1_1 x5_1 = some (r1, r2)) ∧ Aside0 (kq ≤ k) ∧ Aside0 (Kd.R (Kd.int .i64) 2 w' w0.heap.size (fun k_ => (P0_ k_ ∨ w.heap.size ≤ k_)) u9000_ x0_1) ∧ Aside0 (Kept w w' (fun k_ => P0_ k_)) ∧ Aside0 (Below w0.heap.size w0 w'))
 case atStart => exact ⟨(l0), (a1), (0), (by first | rfl | (simp; done) | (simp [*]; done)), (by first | rfl | (simp; done) | (simp [*]; done)), H', ⟨Nat.le_refl _⟩, ⟨by (with_reducible repeat (first | apply Kd.R_alloc | apply Kd.R_drewN | apply Kd.R_drew)); exact HO0.out⟩, ⟨by repeat (first | (with_reducible first | exact HK.out | apply Kept.alloc | apply Kept.drewN | apply Kept.drew) | exact HK.out)⟩, ⟨by repeat (first | (with_reducible first | exact HB.out | apply below_alloc | apply pw_below_drewN | apply below_drew1) | exact HB.out)⟩⟩
 case round =>
  clear H'
  try clear c2
  try clear p2
  obtain ⟨x0_1, x1_1, x5_1, rfl, rfl, HA, HK1, HO_0, HK, HB⟩ := hrel
  cases gk with
  | zero => exact absurd HA.out (by simp [laws_markInt64S.l0])
  | succ k1 =>
   have H := HA.out
   clear HA
   simp only [laws_markInt64S.l0] at H
   by_cases c3 : x5_1 < (x0_1.length : Int)
   ·
    rw [if_pos c3] at H
    have c3b0 : decide (x5_1 < (x0_1.length : Int)) = true := decide_eq_true c3
    clear c3
    by_cases c4 : 0 ≤ x5_1
    ·
     rw [if_pos c4] at H
     have c4b0 : decide (0 ≤ x5_1) = true := decide_eq_true c4
     clear c4
     obtain ⟨y195, hy195⟩ : ∃ y_ : List Int, y_ = (x0_1.set (x5_1 : Int).toNat x1_1) := ⟨_, rfl⟩
     replace H : (laws_markInt64S.l0 k1 y195 (wrap64 (x1_1 + 1)) (wrap64 (x5_1 + 1))) = some (r1, r2) := by first | (rw [hy195]; with_reducible exact H) | (have H2_ := (Option.bind_some _ _).symm.trans H; rw [hy195]; with_reducible exact H2_) | (have H2_ := (Option.bind_some _ _).symm.trans H; with_reducible exact H2_) | with_reducible exact H | (rw [hy195]; exact H) | exact H
     have Ny195 := Aside0.mk hy195
     clear hy195
     have H' := Aside0.mk H
     clear H
     obtain ⟨Ao6, co6, eo6⟩ := Kd.R_slice HO_0.out
     subst eo6
     have p5 : 0 ≤ (x5_1 : Int) := of_decide_eq_true (by first | (with_reducible assumption) | assumption)
     have q5 : (x5_1 : Int) < ((x0_1.length : Int) : Int) := of_decide_eq_true (by first | (with_reducible assumption) | assumption)
     obtain ⟨go5, co5, eo5, gb5, gl5, cl5, HG5⟩ := Kd.R_form HO_0.out (by omega)
     (first | cases eo5 | (injection eo5 with ea_ en_ ec_; (first | subst ea_ | (injection ea_ with ea_; subst ea_)); subst ec_; clear en_))
     have GB5 := Aside0.mk gb5
     have GG5 := Aside0.mk HG5
     clear gb5 gl5 HG5
     have HMgo5 := Aside0.mk (show (P0_ go5 ∨ w.heap.size ≤ go5) from (HO_0.out.1 _ rfl))
     obtain ⟨hx5_0, hf5_0⟩ := Kd.R_celln 0 HO_0.out (x5_1 : Int) p5 q5
     replace p5 := eq_true p5
     replace q5 := eq_true q5
     have HP7 := Kd.R_putg HO_0.out (x5_1 : Int) x1_1
     go_wp2_with (first | ((with_reducible refine gate_store (t := 2) (p := 15) rfl ?_); refine store_event (t := 2) (p := 15) (v := ?vo_w8) (w1 := (wr.setCell ⟨go5, (x5_1 : Int).toNat, none⟩ (.int .i64 x1_1))) ?hg ?ho ?hn ?hr ?_; (case ho => rfl); (case hg => rfl); (case hn => rfl); (case hr => first | (go_simp; done) | (go_simp; rfl)); intro w8 hw; have hg : wr.grownBy w8 (some go5) := (by rw [hw]; exact HP7.2); have hp_ : Kd.R (Kd.int .i64) 2 w8 w0.heap.size (fun k_ => (P0_ k_ ∨ w.heap.size ≤ k_)) (.slice (some ⟨go5, 0, none⟩) x0_1.length co6) y195 := (by rw [hw, Ny195.out]; exact HP7.1); clear HP7; have n0_ := Aside0.mk (hp_); have n1_ := Aside0.mk ((by rw [hw]; exact below_set (HB.out) GB5.out : Below w0.heap.size w0 w8)); have n2_ := Aside0.mk (Kept.of_grown (S := (fun k_ => P0_ k_)) hg (by repeat (first | (with_reducible first | exact HK.out | apply Kept.alloc | apply Kept.drewN | apply Kept.drew) | exact HK.out)) (fun k_ e_ => (HO_0.out.1 k_ e_))); clear HO_0; clear HB; clear HK; have HO_0 := n0_; have HB := n1_; have HK := n2_; clear n0_ n1_ n2_; clear hg hw hp_))
     go_roundg k1
     case measure => have := HK1.out; omega
     case rel => exact ⟨(y195), (wrap64 (x1_1 + 1)), (wrap64 (x5_1 + 1)), (by first | rfl | (simp; done) | (simp [*]; done)), (by first | rfl | (simp; done) | (simp [*]; done)), H', ⟨by have := HK1.out; omega⟩, ⟨by (with_reducible repeat (first | apply Kd.R_alloc | apply Kd.R_drewN | apply Kd.R_drew)); exact HO_0.out⟩, ⟨by repeat (first | (with_reducible first | exact HK.out | apply Kept.alloc | apply Kept.drewN | apply Kept.drew) | exact HK.out)⟩, ⟨by repeat (first | (with_reducible first | exact HB.out | apply below_alloc | apply pw_below_drewN | apply below_drew1) | exact HB.out)⟩⟩
    ·
     rw [if_neg c4] at H
     exact absurd H (by simp)
   ·
    rw [if_neg c3] at H
    have c3b0 : decide (x5_1 < (x0_1.length : Int)) = false := decide_eq_false c3
    clear c3
    simp only [Option.some.injEq, Prod.mk.injEq] at H
    obtain ⟨rfl, rfl⟩ := H
    obtain ⟨Ao9, co9, eo9⟩ := Kd.R_slice HO_0.out
    subst eo9
    go_wp2
    go_ret
    exact ⟨by first | rfl | (simp [errW_none, errW_some] <;> rfl) | (simp [*, errW_none, errW_some] <;> rfl), by (with_reducible repeat (first | apply Kd.R_alloc | apply Kd.R_drewN | apply Kd.R_drew)); exact HO_0.out, by repeat (first | (with_reducible first | exact HB.out | apply below_alloc | apply pw_below_drewN | apply below_drew1) | exact HB.out), by repeat (first | (with_reducible first | exact HK.out | apply Kept.alloc | apply Kept.drewN | apply Kept.drew) | exact HK.out)⟩

/-! ### laws_markInt64SS: function 61 (this session's own) -/
def laws_markInt64SS.l0 : Nat → List (List Int) → Int → Int → Option Int
  | 0, _, _, _ => none
  | k + 1, x0, x1, x5 => if x5 < (x0.length : Int) then (if 0 ≤ x5 then ((laws_markInt64S.f k (rd_L1 x0 x5) x1).bind fun p => laws_markInt64SS.l0 k x0 p.1 (wrap64 (x5 + 1))) else none) else some x1
theorem laws_markInt64SS.mono_l : ∀ k y0 y1 y2, LeO (laws_markInt64SS.l0 k y0 y1 y2) (laws_markInt64SS.l0 (k + 1) y0 y1 y2)
  | 0, _, _, _ => fun r h => by simp [laws_markInt64SS.l0] at h
  | k + 1, y0, y1, y2 => by
    unfold laws_markInt64SS.l0
    exact LeO.ite (LeO.ite (LeO.bind (laws_markInt64S.mono _ _ _) (fun _ => laws_markInt64SS.mono_l k _ _ _)) (LeO.refl _)) (LeO.refl _)
/-- The j-th row of a row of rows: its header lies in block g; its own block is one of ok that f gives to j. -/
def laws_markInt64SS.Row (W : World) (base : Nat) (ok : Nat → Prop) (f : Nat → Nat) (g : Nat) (xs : List (List Int)) (j : Nat) : Prop :=
  ∃ u, W.cell? ⟨g, j, none⟩ = some u ∧ Kd.R (Kd.int .i64) 2 W base (fun k => (ok k ∧ k ≠ g) ∧ f k = j) u (rd_L1 xs j)
theorem laws_markInt64SS.rows {W : World} {base : Nat} {ok : Nat → Prop} {g n c : Nat} {xs : List (List Int)} (h : Kd.S (Kd.slice 2 (Kd.int .i64)) 22 W base ok (.slice (some ⟨g, 0, none⟩) n c) xs) :
    ∃ f : Nat → Nat, ∀ j : Nat, j < xs.length → laws_markInt64SS.Row W base ok f g xs j := by
  have hn := (Kd.S_reads' h).1
  obtain ⟨f, hf⟩ := h
  refine ⟨f, fun j hj => ?_⟩
  obtain ⟨cs, hl, hM, hc⟩ := Kd.R_getA hf ([], 0) j (by omega) (by omega)
  have hz : xs.zipIdx.getD (j : Int).toNat ([], 0) = (xs[j], j) := by simp [List.getD_eq_getElem?_getD, hj]
  rw [hz] at hM
  obtain ⟨u, rfl, hR⟩ := hM
  have h1 := hc 0 u rfl
  refine ⟨u, ?_, ?_⟩
  · have : (⟨g, 0, none⟩ : Addr).add ((j : Int).toNat * 1 + 0) = ⟨g, j, none⟩ := by rw [add_plain]; simp
    rw [show (Kd.tag f (Kd.slice 2 (Kd.int .i64))).sz = 1 from rfl, this] at h1
    exact h1
  · have e : rd_L1 xs (j : Int) = xs[j] := by unfold rd_L1; rw [Int.toNat_natCast, List.getD_eq_getElem?_getD, List.getElem?_eq_getElem hj]; rfl
    rw [e]
    exact Kd.R_mono hR (fun k hk => ⟨⟨hk.1.1, fun he => hk.1.2 (by rw [he]; rfl)⟩, hk.2⟩)
set_option maxHeartbeats 8000000 in
set_option maxRecDepth 100000 in
theorem laws_markInt64SS.calls (k : Nat) (P0_ : Nat → Prop) (u : Value) (l0 : List (List Int)) (a1 : Int) (r1 : Int) (w0 w : World) (hB : Below w0.heap.size w0 w) (ho0 : Kd.S (Kd.slice 2 (Kd.int .i64)) 22 w w0.heap.size P0_ u l0) (h : laws_markInt64SS.l0 k l0 a1 0 = some r1) :
    Calls Try.prog 61 #[u, .int .i64 a1] w fun e w' => e = .returned (.int .i64 r1) ∧ Below w0.heap.size w0 w' ∧ Kept w w' P0_ := by
  have HB := Aside0.mk hB
  have HK := Aside0.mk (Kept.refl w P0_)
  have H' := Aside0.mk h
  clear hB h
  have HM : Aside0 (l0.length ≤ 9223372036854775807) := ⟨by obtain ⟨A, c, rfl⟩ := Kd.S_slice ho0; exact Kd.C_max (Kd.S_reads' ho0).2.2⟩
  have hS : ∃ A c, u = .slice A l0.length c ∧ (l0.length = 0 ∨ ∃ g f, A = some ⟨g, 0, none⟩ ∧ ∀ j : Nat, j < l0.length → laws_markInt64SS.Row w w0.heap.size P0_ f g l0 j) := by
    obtain ⟨A, c, rfl⟩ := Kd.S_slice ho0
    by_cases hz : l0.length = 0
    · exact ⟨A, c, rfl, .inl hz⟩
    · obtain ⟨g, cap, hv, _⟩ := Kd.S_form ho0 (by omega)
      cases hv
      obtain ⟨f, hf⟩ := laws_markInt64SS.rows ho0
      exact ⟨_, _, rfl, .inr ⟨g, f, rfl, hf⟩⟩
  obtain ⟨A, c, rfl, hA⟩ := hS
  clear ho0
  rcases hA with hz | ⟨g, f, rfl, hf⟩
  · go_enter Try.func61, Try.ntmps61
    obtain rfl : l0 = [] := List.length_eq_zero_iff.mp hz
    clear hz
    cases k with
    | zero => exact absurd H'.out (by simp [laws_markInt64SS.l0])
    | succ k =>
      have H := H'.out
      clear H'
      simp only [laws_markInt64SS.l0] at H
      rw [if_neg (by simp)] at H
      obtain rfl := Option.some.inj H
      clear H
      go_wp2
      refine wp_loop_rounds 1 ?_
      rw [rounds_succ]
      go_wp2
      go_ret
      exact ⟨rfl, HB.out, HK.out⟩
  · have HF := Aside0.mk hf
    clear hf
    go_enter Try.func61, Try.ntmps61
    go_wp2
    go_loopg [1, 5] k (fun kq v1 v5 w' => ∃ (x1 x5 : Int), v1 = .int .i64 x1 ∧ v5 = .int .i64 x5 ∧ Aside0 (laws_markInt64SS.l0 kq l0 x1 x5 = some r1) ∧ Aside0 (kq ≤ k) ∧ Aside0 (∀ j : Nat, x5 ≤ j → j < l0.length → laws_markInt64SS.Row w' w0.heap.size P0_ f g l0 j) ∧ Aside0 (Kept w w' P0_) ∧ Aside0 (Below w0.heap.size w0 w'))
    case atStart => exact ⟨a1, 0, (by first | rfl | (simp; done) | (simp [*]; done)), (by first | rfl | (simp; done) | (simp [*]; done)), H', ⟨Nat.le_refl _⟩, ⟨fun j _ hj => HF.out j hj⟩, HK, HB⟩
    case round =>
      clear H' HF HK HB
      obtain ⟨x1, x5, rfl, rfl, HA, HK1, HF, HK, HB⟩ := hrel
      cases gk with
      | zero => exact absurd HA.out (by simp [laws_markInt64SS.l0])
      | succ k1 =>
        have H := HA.out
        clear HA
        simp only [laws_markInt64SS.l0] at H
        by_cases c0 : x5 < (l0.length : Int)
        · rw [if_pos c0] at H
          by_cases c1 : 0 ≤ x5
          · rw [if_pos c1] at H
            replace H := Option.bind_eq_some_iff.mp H
            obtain ⟨⟨m, lm⟩, h1, H⟩ := H
            have A1 := Aside0.mk h1
            have H' := Aside0.mk H
            clear h1 H
            obtain ⟨i, rfl⟩ : ∃ i : Nat, x5 = i := ⟨x5.toNat, by omega⟩
            obtain ⟨ur, hcell, hR⟩ := HF.out i (by omega) (by omega)
            obtain ⟨Ar, cr, rfl⟩ := Kd.R_slice hR
            have HR := Aside0.mk hR
            clear hR
            have p1 := eq_true c1
            have q1 := eq_true c0
            have q2 : (i < l0.length) = True := eq_true (by omega)
            have hwr : wrap64 ((i : Int) + 1) = (i : Int) + 1 := by have := HM.out; unfold wrap64; omega
            have HW := Aside0.mk hwr
            clear c0 c1 hwr
            go_wp2_with (go_at_call 29; (with_reducible refine (laws_markInt64S.calls k1 (fun k => (P0_ k ∧ k ≠ g) ∧ f k = i) (.slice Ar (rd_L1 l0 i).length cr) (rd_L1 l0 i) x1 m lm w0 _ ?side1 ?side2 A1.out).mono ?_); (case side1 => repeat (first | exact HB.out | apply pw_below_drewN | apply below_drew1)); (case side2 => (with_reducible repeat (first | apply Kd.R_drewN | apply Kd.R_drew)); exact HR.out); rintro e w' ⟨rfl, _, hb, hk⟩; have n1 := Aside0.mk hb; have n2 := Aside0.mk hk; clear hb hk)
            go_roundg k1
            case measure => have := HK1.out; omega
            case rel =>
              refine ⟨m, _, (by first | rfl | (simp; done) | (simp [*]; done)), (by first | rfl | (simp; done) | (simp [*]; done)), H', ⟨by have := HK1.out; omega⟩, ⟨fun j hj hl => ?_⟩, ⟨(Kept.then_ (by repeat (first | exact HK.out | apply Kept.drewN | apply Kept.drew)) n2.out (fun k hk => .inl hk.1.1))⟩, n1⟩
              have hw := HW.out
              rw [hw] at hj
              obtain ⟨uj, hc, hr⟩ := HF.out j (by omega) hl
              exact ⟨uj, cell_kept hc n2.out (fun hk => hk.1.2 rfl), Kd.R_kept hr n2.out (fun k h1 h2 => by have a := h1.2; have b := h2.2; omega)⟩
          · rw [if_neg c1] at H; exact absurd H (by simp)
        · rw [if_neg c0] at H
          have c0b : decide (x5 < (l0.length : Int)) = false := decide_eq_false c0
          clear c0
          obtain rfl := Option.some.inj H
          clear H
          go_wp2
          go_ret
          exact ⟨by first | rfl | (simp; done), by repeat (first | exact HB.out | apply pw_below_drewN | apply below_drew1), by repeat (first | exact HK.out | apply Kept.drewN | apply Kept.drew)⟩

/-! ### laws_markRaga: function 28 (this session's own) -/
def laws_markRaga.f (k : Nat) (x1 x2 : List Int) (x5 : List (List Int)) (a1 : Int) : Option Int := (laws_markInt64S.f k x1 a1).bind fun p => (laws_markInt64S.f k x2 p.1).bind fun q => laws_markInt64SS.l0 k x5 q.1 0
theorem laws_markRaga.mono : ∀ a0 a1 a2 a3 k, LeO (laws_markRaga.f k a0 a1 a2 a3) (laws_markRaga.f (k + 1) a0 a1 a2 a3) := by
  intro a0 a1 a2 a3 k
  unfold laws_markRaga.f
  exact LeO.bind (laws_markInt64S.mono _ _ _) (fun _ => LeO.bind (laws_markInt64S.mono _ _ _) (fun _ => laws_markInt64SS.mono_l _ _ _ _))
theorem laws_markRaga.fresh {W w' : World} {o : Obj} {ok : Nat → Prop} {v : Value} {l : List Int} (ho : Kd.R (Kd.int .i64) 2 w' (W.alloc o).heap.size ok v l) : Kd.R (Kd.int .i64) 2 w' (W.heap.size + 1) (fun k => W.heap.size < k) v l := by
  have h := Kd.R_mono (Kd.R_bound ho) (fun k hk => hk.2.1)
  have e : (W.alloc o).heap.size = W.heap.size + 1 := Array.size_push _
  rw [e] at h
  exact h
theorem laws_markRaga.cut {W w' : World} (_hb : Below W.heap.size W w') : ∃ N, N = W.heap.size := ⟨_, rfl⟩
theorem laws_markRaga.drawn_below {W w' : World} (h : Drawn0 W w') : Below W.heap.size W w' := by
  obtain ⟨n, rfl⟩ := h
  exact pw_below_drewN (Below.refl _ _) n
theorem laws_markRaga.readsAt {W : World} {b A n c : _} {ok : Nat → Prop} {l : List Int} {m : Nat} (hm : l.length = m) (h : Kd.R (Kd.int .i64) 2 W b ok (.slice A n c) l) : Kd.C (Kd.int .i64) W A l.length l := by
  exact (Kd.R_reads' h).2.2
set_option maxHeartbeats 8000000 in
set_option maxRecDepth 100000 in
theorem laws_markRaga.calls (k : Nat) (P1 P2 P5 : Nat → Prop) (s : ByteArray) (v1 v2 v5 : Value) (n3 n4 : Int) (l1 l2 : List Int) (l5 : List (List Int)) (a1 r1 : Int) (w0 w : World) (hB : Below w0.heap.size w0 w) (h1 : Kd.R (Kd.int .i64) 2 w w0.heap.size P1 v1 l1) (h2 : Kd.R (Kd.int .i64) 2 w w0.heap.size P2 v2 l2) (h5 : Kd.S (Kd.slice 2 (Kd.int .i64)) 22 w w0.heap.size P5 v5 l5) (hlt : ∀ k, (P1 k ∨ P2 k ∨ P5 k) → k < w.heap.size) (d12 : ∀ k, P1 k → ¬ P2 k) (d15 : ∀ k, P1 k → ¬ P5 k) (d25 : ∀ k, P2 k → ¬ P5 k) (h : laws_markRaga.f k l1 l2 l5 a1 = some r1) :
    Calls Try.prog 28 #[.agg #[.string s, v1, v2, .int .i64 n3, .int .i64 n4, v5], .int .i64 a1] w fun e w' => e = .returned (.int .i64 r1) ∧ Below w0.heap.size w0 w' ∧ Kept w w' (fun k => P1 k ∨ P2 k ∨ P5 k) := by
  have hu28 := Try.underlying28
  have HR1 := Aside0.mk h1
  have HR2 := Aside0.mk h2
  have HR5 := Aside0.mk h5
  have HL := Aside0.mk hlt
  have D12 := Aside0.mk d12
  have D15 := Aside0.mk d15
  have D25 := Aside0.mk d25
  have HB := Aside0.mk hB
  have HK := Aside0.mk (Kept.refl w (fun k => P1 k ∨ P2 k ∨ P5 k))
  have HZ := Aside0.mk (Nat.le_refl w.heap.size)
  obtain ⟨A1, c1, rfl⟩ := Kd.R_slice h1
  obtain ⟨A2, c2, rfl⟩ := Kd.R_slice h2
  obtain ⟨A5, c5, rfl⟩ := Kd.S_slice h5
  clear h1 h2 h5 hlt d12 d15 d25 hB
  unfold laws_markRaga.f at h
  replace h := Option.bind_eq_some_iff.mp h
  obtain ⟨⟨m1, y1⟩, e1, h⟩ := h
  have E1 := Aside0.mk e1
  replace h := Option.bind_eq_some_iff.mp h
  obtain ⟨⟨m2, y2⟩, e2, h⟩ := h
  have E2 := Aside0.mk e2
  have E5 := Aside0.mk h
  clear e1 e2 h
  go_enter Try.func28, Try.ntmps28
  go_wp2_with (first
    | ((with_reducible refine gate_dst (N := 2) rfl ?_); refine box_event ?hg (N := 2) ?hd (cs := #[.string s, .slice A1 l1.length c1, .slice A2 l2.length c2, .int .i64 n3, .int .i64 n4, .slice A5 l5.length c5]) (t := 28) ?hr ?_; (case hd => rfl); (case hg => rfl); (case hr => first | (go_simp; done) | (go_simp; rfl)); intro gb hg w1 hbox hb;
       have n0 := Aside0.mk (show w.heap.size ≤ gb from by rw [hg]; exact Nat.le_refl _);
       have n1 := Aside0.mk (Below.trans HB.out (hb.mono HB.out.size)); have n2 := Aside0.mk (Kept.below HK.out hb);
       have n3_ := Aside0.mk (Kd.R_below HR1.out hb); have n4_ := Aside0.mk (Kd.R_below HR2.out hb); have n5_ := Aside0.mk (Kd.S_below HR5.out hb); have BK := Aside0.mk hbox; clear HB HK HR1 HR2 HR5 hbox hb hg; have GB := n0; have HB := n1; have HK := n2; have HR1 := n3_; have HR2 := n4_; have HR5 := n5_; clear n0 n1 n2 n3_ n4_ n5_;
       have hcz1 : w1.cell? ⟨gb, 1, none⟩ = some (.slice A1 l1.length c1) := (blk_cell BK.out 1).trans rfl)
    | (go_at_call 29; (with_reducible refine (laws_markInt64S.calls k P1 (.slice A1 l1.length c1) l1 a1 m1 y1 w0 _ ?side1 ?side2 E1.out).mono ?_); (case side1 => exact HB.out); (case side2 => exact HR1.out); rintro e w2 ⟨rfl, _, hb, hk⟩;
       have n1 := Aside0.mk hb; have n2 := Aside0.mk (Kept.then_ HK.out hk (fun k h => .inl (.inl h)));
       have n4_ := Aside0.mk (Kd.R_kept HR2.out hk (fun k h2 h1 => D12.out k h1 h2)); have n5_ := Aside0.mk (Kd.S_kept HR5.out hk (fun k h5 h1 => D15.out k h1 h5));
       have n6 := Aside0.mk (blk_kept BK.out hk (fun h => by have := HL.out gb (.inl h); have := GB.out; omega)); clear HB HK HR2 HR5 BK hb hk HR1; have HB := n1; have HK := n2; have HR2 := n4_; have HR5 := n5_; have BK := n6; clear n1 n2 n4_ n5_ n6;
       have hcz2 : w2.cell? ⟨gb, 2, none⟩ = some (.slice A2 l2.length c2) := (blk_cell BK.out 2).trans rfl)
    | (go_at_call 29; (with_reducible refine (laws_markInt64S.calls k P2 (.slice A2 l2.length c2) l2 m1 m2 y2 w0 _ ?side1 ?side2 E2.out).mono ?_); (case side1 => exact HB.out); (case side2 => exact HR2.out); rintro e w3 ⟨rfl, _, hb, hk⟩;
       have n1 := Aside0.mk hb; have n2 := Aside0.mk (Kept.then_ HK.out hk (fun k h => .inl (.inr (.inl h))));
       have n5_ := Aside0.mk (Kd.S_kept HR5.out hk (fun k h5 h1 => D25.out k h1 h5));
       have n6 := Aside0.mk (blk_kept BK.out hk (fun h => by have := HL.out gb (.inr (.inl h)); have := GB.out; omega)); clear HB HK HR5 BK hb hk HR2; have HB := n1; have HK := n2; have HR5 := n5_; have BK := n6; clear n1 n2 n5_ n6;
       have hcz5 : w3.cell? ⟨gb, 5, none⟩ = some (.slice A5 l5.length c5) := (blk_cell BK.out 5).trans rfl)
    | (go_at_call 61; (with_reducible refine (laws_markInt64SS.calls k P5 (.slice A5 l5.length c5) l5 m2 r1 w0 _ ?side1 ?side2 E5.out).mono ?_); (case side1 => exact HB.out); (case side2 => exact HR5.out); rintro e w4 ⟨rfl, hb, hk⟩;
       have n1 := Aside0.mk hb; have n2 := Aside0.mk (Kept.then_ HK.out hk (fun k h => .inl (.inr (.inr h)))); clear HB HK hb hk; have HB := n1; have HK := n2; clear n1 n2))
  go_ret
  exact ⟨by first | rfl | (simp; done), HB.out, HK.out⟩

/-! ### laws_heldInt64S: function 30 -/
def laws_heldInt64S.l0 : Nat → List Int → Int → Int → Option (Int)
 | 0, _, _, _ => none
 | k + 1, x0, x1, x5 => if x5 < (x0.length : Int) then (if 0 ≤ x5 then (if (rd x0 x5) = x1 then (laws_heldInt64S.l0 k x0 (wrap64 (x1 + 1)) (wrap64 (x5 + 1))) else (some (-1))) else (none)) else (some x1)
def laws_heldInt64S.f (k : Nat) (l0 : List Int) (a1 : Int) : Option (Int) := laws_heldInt64S.l0 k l0 a1 0
theorem laws_heldInt64S.mono_l : ∀ k, (∀ y0 y1 y2, LeO (laws_heldInt64S.l0 k y0 y1 y2) (laws_heldInt64S.l0 (k + 1) y0 y1 y2))
 | 0 => fun _ _ _ r h => by simp [laws_heldInt64S.l0] at h
 | k + 1 => by
  have ih0 := laws_heldInt64S.mono_l k
  ·
   intro y0 y1 y2
   unfold laws_heldInt64S.l0
   repeat' first
   | (with_reducible exact ih0 _ _ _)
   | (with_reducible exact LeO.refl _)
   | (with_reducible exact LeO.none _)
   | (with_reducible refine LeO.ite ?_ ?_)
   | (with_reducible refine LeO.bind ?_ (fun _ => ?_))
   | exact ih0 _ _ _
   | exact LeO.none _
   | refine LeO.ite ?_ ?_
   | refine LeO.bind ?_ (fun _ => ?_)
theorem laws_heldInt64S.mono : ∀ a0 a1 k, LeO (laws_heldInt64S.f k a0 a1) (laws_heldInt64S.f (k + 1) a0 a1) := by
 intro a0 a1 k
 have ih0 := laws_heldInt64S.mono_l k
 unfold laws_heldInt64S.f
 repeat' first
   | (with_reducible exact ih0 _ _ _)
   | (with_reducible exact LeO.refl _)
   | (with_reducible exact LeO.none _)
   | (with_reducible refine LeO.ite ?_ ?_)
   | (with_reducible refine LeO.bind ?_ (fun _ => ?_))
   | exact ih0 _ _ _
   | exact LeO.none _
   | refine LeO.ite ?_ ?_
   | refine LeO.bind ?_ (fun _ => ?_)
set_option maxHeartbeats 8000000 in
set_option maxRecDepth 100000 in
theorem laws_heldInt64S.calls (k : Nat) (A0 : Option Addr) (c0 : Nat) (l0 : List Int) (a1 : Int) (r : Int) (w : World) (hr0 : Kd.C (Kd.int .i64) w A0 l0.length l0) (hc0 : l0.length ≤ c0) (h : laws_heldInt64S.f k l0 a1 = some r) :
  Calls Try.prog 30 #[.slice A0 l0.length c0, .int .i64 a1] w fun e w' => e = .returned (.int .i64 r) ∧ Drawn0 w w' := by
 have HR0 := Aside0.mk hr0
 have HC0 := Aside0.mk hc0
 clear hr0 hc0
 have H : (laws_heldInt64S.l0 k l0 a1 0) = some r := h
 clear h
 have H' := Aside0.mk H
 clear H
 go_enter Try.func30, Try.ntmps30
 go_wp2
 go_loopg [1, 5] k (fun kq v1 v5 w' => ∃ (x1_1 : Int) (x5_1 : Int), v1 = .int .i64 x1_1 ∧ v5 = .int .i64 x5_1 ∧ Aside0 (laws_heldInt64S.l0 kq l0 x1_1 x5_1 = some r) ∧ Aside0 (kq ≤ k) ∧ Drawn0 w w')
 case atStart => exact ⟨(a1), (0), (by first | rfl | (simp; done) | (simp [*]; done)), (by first | rfl | (simp; done) | (simp [*]; done)), H', ⟨Nat.le_refl _⟩, by repeat (first | exact Drawn0.refl _ | apply Drawn0.step)⟩
 case round =>
  clear H'
  try clear p2
  obtain ⟨x1_1, x5_1, rfl, rfl, HA, HK1, ⟨m1, rfl⟩⟩ := hrel
  cases gk with
  | zero => exact absurd HA.out (by simp [laws_heldInt64S.l0])
  | succ k1 =>
   have H := HA.out
   clear HA
   simp only [laws_heldInt64S.l0] at H
   by_cases c3 : x5_1 < (l0.length : Int)
   ·
    rw [if_pos c3] at H
    have c3b0 : decide (x5_1 < (l0.length : Int)) = true := decide_eq_true c3
    clear c3
    by_cases c4 : 0 ≤ x5_1
    ·
     rw [if_pos c4] at H
     have c4b0 : decide (0 ≤ x5_1) = true := decide_eq_true c4
     clear c4
     by_cases c5 : (rd l0 x5_1) = x1_1
     ·
      rw [if_pos c5] at H
      have c5b0 : ((rd l0 x5_1) == x1_1) = true := beq_iff_eq.mpr c5
      have c5b1 : ((rd l0 x5_1) != x1_1) = false := bne_eq_false_iff_eq.mpr c5
      clear c5
      have H' := Aside0.mk H
      clear H
      have p196 : 0 ≤ (x5_1 : Int) := of_decide_eq_true (by first | (with_reducible assumption) | assumption)
      have q196 : x5_1 < (l0.length : Int) := of_decide_eq_true (by first | (with_reducible assumption) | assumption)
      obtain ⟨ad196, e196, hx196_0⟩ := Kd.at_int HR0.out x5_1 p196 q196
      cases e196
      replace p196 := eq_true p196
      replace q196 := eq_true q196
      go_wp2
      go_roundg k1
      case measure => have := HK1.out; omega
      case rel => exact ⟨(wrap64 (x1_1 + 1)), (wrap64 (x5_1 + 1)), (by first | rfl | (simp; done) | (simp [*]; done)), (by first | rfl | (simp; done) | (simp [*]; done)), H', ⟨by have := HK1.out; omega⟩, by repeat (first | exact Drawn0.refl _ | apply Drawn0.step)⟩
     ·
      rw [if_neg c5] at H
      have c5b0 : ((rd l0 x5_1) == x1_1) = false := beq_eq_false_iff_ne.mpr c5
      have c5b1 : ((rd l0 x5_1) != x1_1) = true := bne_iff_ne.mpr c5
      obtain rfl := Option.some.inj H
      have p196 : 0 ≤ (x5_1 : Int) := of_decide_eq_true (by first | (with_reducible assumption) | assumption)
      have q196 : x5_1 < (l0.length : Int) := of_decide_eq_true (by first | (with_reducible assumption) | assumption)
      obtain ⟨ad196, e196, hx196_0⟩ := Kd.at_int HR0.out x5_1 p196 q196
      cases e196
      replace p196 := eq_true p196
      replace q196 := eq_true q196
      go_wp2
      go_ret
      exact ⟨by first | rfl | (simp; done) | (simp [*]; done), by repeat (first | exact Drawn0.refl _ | apply Drawn0.step)⟩
    ·
     rw [if_neg c4] at H
     exact absurd H (by simp)
   ·
    rw [if_neg c3] at H
    have c3b0 : decide (x5_1 < (l0.length : Int)) = false := decide_eq_false c3
    clear c3
    obtain rfl := Option.some.inj H
    go_wp2
    go_ret
    exact ⟨by first | rfl | (simp; done) | (simp [*]; done), by repeat (first | exact Drawn0.refl _ | apply Drawn0.step)⟩

/-! ### laws_FnExactTonesOf: function 7 (this session's own) -/
def laws_FnExactTonesOf.f (k : Nat) (a0_0 : ByteArray) (l0_1 : List Int) (l0_2 : List Int) (a0_3 : Int) (a0_4 : Int) (l0_5 : List (List Int)) : Option Bool := (laws_szRaga.f k a0_0 l0_1 l0_2 a0_3 a0_4 l0_5 1048576).bind fun z => if z < 0 then some true else (laws_toRaga.f k a0_0 l0_1 l0_2 a0_3 a0_4 l0_5).bind fun b => (spec_TonesOf.f k b.1 b.2.1 b.2.2.1 b.2.2.2.1 b.2.2.2.2.1 b.2.2.2.2.2).bind fun p => (impl_TonesOf.f k b.1 b.2.1 b.2.2.1 b.2.2.2.1 b.2.2.2.2.1 b.2.2.2.2.2).bind fun q => if q = p then (laws_eqInt64S.f k p.1 p.1).bind fun e1 => if e1 = true then (laws_eqRaga.f k b.1 b.2.1 b.2.2.1 b.2.2.2.1 b.2.2.2.2.1 b.2.2.2.2.2 b.1 b.2.1 b.2.2.1 b.2.2.2.1 b.2.2.2.2.1 b.2.2.2.2.2).bind fun e2 => if e2 = true then (laws_markRaga.f k b.2.1 b.2.2.1 b.2.2.2.2.2 1).bind fun m => if 0 ≤ m then (laws_markInt64S.f k p.1 1).bind fun n => (laws_heldInt64S.f k n.2 1).bind fun h => if h = n.1 ∧ 0 ≤ h then some true else none else none else none else none else none
theorem laws_FnExactTonesOf.mono : ∀ a0 a1 a2 a3 a4 a5 k, LeO (laws_FnExactTonesOf.f k a0 a1 a2 a3 a4 a5) (laws_FnExactTonesOf.f (k + 1) a0 a1 a2 a3 a4 a5) := by
  intro a0 a1 a2 a3 a4 a5 k
  unfold laws_FnExactTonesOf.f
  exact LeO.bind (laws_szRaga.mono _ _ _ _ _ _ _ _) (fun _ => LeO.ite (LeO.refl _) (LeO.bind (laws_toRaga.mono _ _ _ _ _ _ _) (fun _ => LeO.bind (spec_TonesOf.mono _ _ _ _ _ _ _) (fun _ => LeO.bind (impl_TonesOf.mono _ _ _ _ _ _ _) (fun _ => LeO.ite (LeO.bind (laws_eqInt64S.mono _ _ _) (fun _ => LeO.ite (LeO.bind (laws_eqRaga.mono _ _ _ _ _ _ _ _ _ _ _ _ _) (fun _ => LeO.ite (LeO.bind (laws_markRaga.mono _ _ _ _ _) (fun _ => LeO.ite (LeO.bind (laws_markInt64S.mono _ _ _) (fun _ => LeO.bind (laws_heldInt64S.mono _ _ _) (fun _ => LeO.refl _))) (LeO.refl _))) (LeO.refl _))) (LeO.refl _))) (LeO.refl _))))))
set_option maxHeartbeats 8000000 in
set_option maxRecDepth 100000 in
theorem laws_FnExactTonesOf.calls (k : Nat) (a0_0 : ByteArray) (A0_1 : Option Addr) (c0_1 : Nat) (l0_1 : List Int) (A0_2 : Option Addr) (c0_2 : Nat) (l0_2 : List Int) (a0_3 : Int) (a0_4 : Int) (A0_5 : Option Addr) (c0_5 : Nat) (l0_5 : List (List Int)) (w : World) (hr0_1 : Kd.C (Kd.int .i64) w A0_1 l0_1.length l0_1) (hc0_1 : l0_1.length ≤ c0_1) (hr0_2 : Kd.C (Kd.int .i64) w A0_2 l0_2.length l0_2) (hc0_2 : l0_2.length ≤ c0_2) (hr0_5 : Kd.C (Kd.slice 2 (Kd.int .i64)) w A0_5 l0_5.length l0_5) (hc0_5 : l0_5.length ≤ c0_5) (h : laws_FnExactTonesOf.f k a0_0 l0_1 l0_2 a0_3 a0_4 l0_5 = some true) :
    Calls Try.prog 7 #[.agg #[.string a0_0, .slice A0_1 l0_1.length c0_1, .slice A0_2 l0_2.length c0_2, .int .i64 a0_3, .int .i64 a0_4, .slice A0_5 l0_5.length c0_5]] w fun e w' => e = .returned (.bool true) ∧ Below w.heap.size w w' := by
  have hu25 := Try.underlying25
  have hu28 := Try.underlying28
  have HR0_1 := Aside0.mk hr0_1
  have HC0_1 := Aside0.mk hc0_1
  clear hr0_1 hc0_1
  have HR0_2 := Aside0.mk hr0_2
  have HC0_2 := Aside0.mk hc0_2
  clear hr0_2 hc0_2
  have HR0_5 := Aside0.mk hr0_5
  have HC0_5 := Aside0.mk hc0_5
  clear hr0_5 hc0_5
  have HB := Aside0.mk (Below.refl w.heap.size w)
  have S0 := True.intro
  unfold laws_FnExactTonesOf.f at h
  replace h := Option.bind_eq_some_iff.mp h
  obtain ⟨z, q0, h⟩ := h
  have Q0 := Aside0.mk q0
  clear q0
  by_cases c0 : z < 0
  · have c0b : decide (z < 0) = true := decide_eq_true c0
    clear c0 h
    go_enter Try.func7, Try.ntmps7
    go_wp2_with (first
      | (clear S0; (with_reducible refine gate_dst (N := 1) rfl ?_); refine box_event ?hg (N := 1) ?hd (cs := #[.string a0_0, .slice A0_1 l0_1.length c0_1, .slice A0_2 l0_2.length c0_2, .int .i64 a0_3, .int .i64 a0_4, .slice A0_5 l0_5.length c0_5]) (t := 25) ?hr ?_; (case hd => rfl); (case hg => rfl); (case hr => first | (go_simp; done) | (go_simp; rfl)); intro gb hg w1 hbox hb; have n_HB := Aside0.mk (below_step (by repeat (first | (with_reducible first | exact HB.out | apply below_alloc | apply pw_below_drewN | apply below_drew1) | exact HB.out)) hb); have n_BK := Aside0.mk (hbox); clear HB; have HB := n_HB; have BK := n_BK; clear n_HB n_BK; clear hbox hb hg; have hb_w1_0 : w1.cell? ⟨gb, 0, none⟩ = some (.string a0_0) := (blk_cell BK.out 0).trans rfl; have hb_w1_f0 := blk_frozen BK.out 0; have hb_w1_1 : w1.cell? ⟨gb, 1, none⟩ = some (.slice A0_1 l0_1.length c0_1) := (blk_cell BK.out 1).trans rfl; have hb_w1_f1 := blk_frozen BK.out 1; have hb_w1_2 : w1.cell? ⟨gb, 2, none⟩ = some (.slice A0_2 l0_2.length c0_2) := (blk_cell BK.out 2).trans rfl; have hb_w1_f2 := blk_frozen BK.out 2; have hb_w1_3 : w1.cell? ⟨gb, 3, none⟩ = some (.int .i64 a0_3) := (blk_cell BK.out 3).trans rfl; have hb_w1_f3 := blk_frozen BK.out 3; have hb_w1_4 : w1.cell? ⟨gb, 4, none⟩ = some (.int .i64 a0_4) := (blk_cell BK.out 4).trans rfl; have hb_w1_f4 := blk_frozen BK.out 4; have hb_w1_5 : w1.cell? ⟨gb, 5, none⟩ = some (.slice A0_5 l0_5.length c0_5) := (blk_cell BK.out 5).trans rfl; have hb_w1_f5 := blk_frozen BK.out 5; have S1 := True.intro)
      | (clear S1; go_at_call 14; (with_reducible refine (laws_szRaga.calls k a0_0 _ _ l0_1 _ _ l0_2 a0_3 a0_4 _ _ l0_5 1048576 z _ ?side1 ?side2 ?side3 ?side4 ?side5 ?side6 Q0.out).mono ?_); (case side1 => repeat (first | exact (Kd.C_below HR0_1.out HB.out) | (with_reducible refine Kd.C_alloc ?_ _) | (with_reducible refine Kd.C_drewN ?_ _) | (with_reducible refine Kd.C_drew ?_))); (case side2 => exact HC0_1.out); (case side3 => repeat (first | exact (Kd.C_below HR0_2.out HB.out) | (with_reducible refine Kd.C_alloc ?_ _) | (with_reducible refine Kd.C_drewN ?_ _) | (with_reducible refine Kd.C_drew ?_))); (case side4 => exact HC0_2.out); (case side5 => repeat (first | exact (Kd.C_below HR0_5.out HB.out) | (with_reducible refine Kd.C_alloc ?_ _) | (with_reducible refine Kd.C_drewN ?_ _) | (with_reducible refine Kd.C_drew ?_))); (case side6 => exact HC0_5.out); rintro e w2 ⟨rfl, hb⟩; have n_BK := Aside0.mk (blk_below (g := gb) (o := .cells #[.string a0_0, .slice A0_1 l0_1.length c0_1, .slice A0_2 l0_2.length c0_2, .int .i64 a0_3, .int .i64 a0_4, .slice A0_5 l0_5.length c0_5] 25 (0, 0)) (by (with_reducible repeat (first | refine blk_drewN ?_ _ | refine blk_drew ?_ | refine blk_alloc ?_ _)); exact BK.out) hb); have n_HB := Aside0.mk (below_step (by repeat (first | (with_reducible first | exact HB.out | apply below_alloc | apply pw_below_drewN | apply below_drew1) | exact HB.out)) hb); clear BK HB; have BK := n_BK; have HB := n_HB; clear n_BK n_HB; clear hb; have hb_w2_0 : w2.cell? ⟨gb, 0, none⟩ = some (.string a0_0) := (blk_cell BK.out 0).trans rfl; have hb_w2_f0 := blk_frozen BK.out 0; have hb_w2_1 : w2.cell? ⟨gb, 1, none⟩ = some (.slice A0_1 l0_1.length c0_1) := (blk_cell BK.out 1).trans rfl; have hb_w2_f1 := blk_frozen BK.out 1; have hb_w2_2 : w2.cell? ⟨gb, 2, none⟩ = some (.slice A0_2 l0_2.length c0_2) := (blk_cell BK.out 2).trans rfl; have hb_w2_f2 := blk_frozen BK.out 2; have hb_w2_3 : w2.cell? ⟨gb, 3, none⟩ = some (.int .i64 a0_3) := (blk_cell BK.out 3).trans rfl; have hb_w2_f3 := blk_frozen BK.out 3; have hb_w2_4 : w2.cell? ⟨gb, 4, none⟩ = some (.int .i64 a0_4) := (blk_cell BK.out 4).trans rfl; have hb_w2_f4 := blk_frozen BK.out 4; have hb_w2_5 : w2.cell? ⟨gb, 5, none⟩ = some (.slice A0_5 l0_5.length c0_5) := (blk_cell BK.out 5).trans rfl; have hb_w2_f5 := blk_frozen BK.out 5; have S2 := True.intro))
    go_ret
    exact ⟨by first | rfl | (simp; done), (by repeat (first | (with_reducible first | exact HB.out | apply below_alloc | apply pw_below_drewN | apply below_drew1) | exact HB.out))⟩
  · rw [if_neg c0] at h
    have c0b : decide (z < 0) = false := decide_eq_false c0
    clear c0
    replace h := Option.bind_eq_some_iff.mp h
    obtain ⟨⟨t0, t1, t2, t3, t4, t5⟩, q1, h⟩ := h
    have Q1 := Aside0.mk q1
    clear q1
    replace h := Option.bind_eq_some_iff.mp h
    obtain ⟨⟨p1, p2⟩, q2, h⟩ := h
    have Q2 := Aside0.mk q2
    clear q2
    replace h := Option.bind_eq_some_iff.mp h
    obtain ⟨⟨q1, q2⟩, q3, h⟩ := h
    have Q3 := Aside0.mk q3
    clear q3
    dsimp only at h
    have cq : ((q1, q2) : List Int × Int) = (p1, p2) := by
      by_cases hc : ((q1, q2) : List Int × Int) = (p1, p2)
      · exact hc
      · rw [if_neg hc] at h; exact absurd h (by simp)
    rw [if_pos cq] at h
    obtain ⟨rfl, rfl⟩ := Prod.mk.inj cq
    clear cq
    replace h := Option.bind_eq_some_iff.mp h
    obtain ⟨e1, q4, h⟩ := h
    have Q4 := Aside0.mk q4
    clear q4
    have ce1 : e1 = true := by
      by_cases hc : e1 = true
      · exact hc
      · rw [if_neg hc] at h; exact absurd h (by simp)
    rw [if_pos ce1] at h
    subst ce1
    replace h := Option.bind_eq_some_iff.mp h
    obtain ⟨e2, q5, h⟩ := h
    have Q5 := Aside0.mk q5
    clear q5
    have ce2 : e2 = true := by
      by_cases hc : e2 = true
      · exact hc
      · rw [if_neg hc] at h; exact absurd h (by simp)
    rw [if_pos ce2] at h
    subst ce2
    replace h := Option.bind_eq_some_iff.mp h
    obtain ⟨m, q6, h⟩ := h
    have Q6 := Aside0.mk q6
    clear q6
    have cm : 0 ≤ m := by
      by_cases hc : 0 ≤ m
      · exact hc
      · rw [if_neg hc] at h; exact absurd h (by simp)
    rw [if_pos cm] at h
    have cmb : decide (m < 0) = false := decide_eq_false (by omega)
    clear cm
    replace h := Option.bind_eq_some_iff.mp h
    obtain ⟨⟨n1, n2⟩, q7, h⟩ := h
    have Q7 := Aside0.mk q7
    clear q7
    replace h := Option.bind_eq_some_iff.mp h
    obtain ⟨hh, q8, h⟩ := h
    have Q8 := Aside0.mk q8
    clear q8
    dsimp only at h
    have ch : hh = n1 ∧ 0 ≤ hh := by
      by_cases hc : hh = n1 ∧ 0 ≤ hh
      · exact hc
      · rw [if_neg hc] at h; exact absurd h (by simp)
    rw [if_pos ch] at h
    obtain ⟨rfl, ch0⟩ := ch
    have chb : decide (hh < 0) = false := decide_eq_false (by omega)
    clear ch0 h
    go_enter Try.func7, Try.ntmps7
    go_wp2_with (first
      | (clear S0; (with_reducible refine gate_dst (N := 1) rfl ?_); refine box_event ?hg (N := 1) ?hd (cs := #[.string a0_0, .slice A0_1 l0_1.length c0_1, .slice A0_2 l0_2.length c0_2, .int .i64 a0_3, .int .i64 a0_4, .slice A0_5 l0_5.length c0_5]) (t := 25) ?hr ?_; (case hd => rfl); (case hg => rfl); (case hr => first | (go_simp; done) | (go_simp; rfl)); intro gb hg w1 hbox hb; have n_HB := Aside0.mk (below_step (by repeat (first | (with_reducible first | exact HB.out | apply below_alloc | apply pw_below_drewN | apply below_drew1) | exact HB.out)) hb); have n_BK := Aside0.mk (hbox); clear HB; have HB := n_HB; have BK := n_BK; clear n_HB n_BK; clear hbox hb hg; have hb_w1_0 : w1.cell? ⟨gb, 0, none⟩ = some (.string a0_0) := (blk_cell BK.out 0).trans rfl; have hb_w1_f0 := blk_frozen BK.out 0; have hb_w1_1 : w1.cell? ⟨gb, 1, none⟩ = some (.slice A0_1 l0_1.length c0_1) := (blk_cell BK.out 1).trans rfl; have hb_w1_f1 := blk_frozen BK.out 1; have hb_w1_2 : w1.cell? ⟨gb, 2, none⟩ = some (.slice A0_2 l0_2.length c0_2) := (blk_cell BK.out 2).trans rfl; have hb_w1_f2 := blk_frozen BK.out 2; have hb_w1_3 : w1.cell? ⟨gb, 3, none⟩ = some (.int .i64 a0_3) := (blk_cell BK.out 3).trans rfl; have hb_w1_f3 := blk_frozen BK.out 3; have hb_w1_4 : w1.cell? ⟨gb, 4, none⟩ = some (.int .i64 a0_4) := (blk_cell BK.out 4).trans rfl; have hb_w1_f4 := blk_frozen BK.out 4; have hb_w1_5 : w1.cell? ⟨gb, 5, none⟩ = some (.slice A0_5 l0_5.length c0_5) := (blk_cell BK.out 5).trans rfl; have hb_w1_f5 := blk_frozen BK.out 5; have S1 := True.intro)
      | (clear S1; go_at_call 14; (with_reducible refine (laws_szRaga.calls k a0_0 _ _ l0_1 _ _ l0_2 a0_3 a0_4 _ _ l0_5 1048576 z _ ?side1 ?side2 ?side3 ?side4 ?side5 ?side6 Q0.out).mono ?_); (case side1 => repeat (first | exact (Kd.C_below HR0_1.out HB.out) | (with_reducible refine Kd.C_alloc ?_ _) | (with_reducible refine Kd.C_drewN ?_ _) | (with_reducible refine Kd.C_drew ?_))); (case side2 => exact HC0_1.out); (case side3 => repeat (first | exact (Kd.C_below HR0_2.out HB.out) | (with_reducible refine Kd.C_alloc ?_ _) | (with_reducible refine Kd.C_drewN ?_ _) | (with_reducible refine Kd.C_drew ?_))); (case side4 => exact HC0_2.out); (case side5 => repeat (first | exact (Kd.C_below HR0_5.out HB.out) | (with_reducible refine Kd.C_alloc ?_ _) | (with_reducible refine Kd.C_drewN ?_ _) | (with_reducible refine Kd.C_drew ?_))); (case side6 => exact HC0_5.out); rintro e w2 ⟨rfl, hb⟩; have n_BK := Aside0.mk (blk_below (g := gb) (o := .cells #[.string a0_0, .slice A0_1 l0_1.length c0_1, .slice A0_2 l0_2.length c0_2, .int .i64 a0_3, .int .i64 a0_4, .slice A0_5 l0_5.length c0_5] 25 (0, 0)) (by (with_reducible repeat (first | refine blk_drewN ?_ _ | refine blk_drew ?_ | refine blk_alloc ?_ _)); exact BK.out) hb); have n_HB := Aside0.mk (below_step (by repeat (first | (with_reducible first | exact HB.out | apply below_alloc | apply pw_below_drewN | apply below_drew1) | exact HB.out)) hb); clear BK HB; have BK := n_BK; have HB := n_HB; clear n_BK n_HB; clear hb; have hb_w2_0 : w2.cell? ⟨gb, 0, none⟩ = some (.string a0_0) := (blk_cell BK.out 0).trans rfl; have hb_w2_f0 := blk_frozen BK.out 0; have hb_w2_1 : w2.cell? ⟨gb, 1, none⟩ = some (.slice A0_1 l0_1.length c0_1) := (blk_cell BK.out 1).trans rfl; have hb_w2_f1 := blk_frozen BK.out 1; have hb_w2_2 : w2.cell? ⟨gb, 2, none⟩ = some (.slice A0_2 l0_2.length c0_2) := (blk_cell BK.out 2).trans rfl; have hb_w2_f2 := blk_frozen BK.out 2; have hb_w2_3 : w2.cell? ⟨gb, 3, none⟩ = some (.int .i64 a0_3) := (blk_cell BK.out 3).trans rfl; have hb_w2_f3 := blk_frozen BK.out 3; have hb_w2_4 : w2.cell? ⟨gb, 4, none⟩ = some (.int .i64 a0_4) := (blk_cell BK.out 4).trans rfl; have hb_w2_f4 := blk_frozen BK.out 4; have hb_w2_5 : w2.cell? ⟨gb, 5, none⟩ = some (.slice A0_5 l0_5.length c0_5) := (blk_cell BK.out 5).trans rfl; have hb_w2_f5 := blk_frozen BK.out 5; have S2 := True.intro)
      | (clear S2; go_at_call 16; (with_reducible refine (laws_toRaga.calls k a0_0 _ _ l0_1 _ _ l0_2 a0_3 a0_4 _ _ l0_5 t0 t1 t2 t3 t4 t5 _ ?side1 ?side2 ?side3 ?side4 ?side5 ?side6 Q1.out).mono ?_); (case side1 => repeat (first | exact (Kd.C_below HR0_1.out HB.out) | (with_reducible refine Kd.C_alloc ?_ _) | (with_reducible refine Kd.C_drewN ?_ _) | (with_reducible refine Kd.C_drew ?_))); (case side2 => exact HC0_1.out); (case side3 => repeat (first | exact (Kd.C_below HR0_2.out HB.out) | (with_reducible refine Kd.C_alloc ?_ _) | (with_reducible refine Kd.C_drewN ?_ _) | (with_reducible refine Kd.C_drew ?_))); (case side4 => exact HC0_2.out); (case side5 => repeat (first | exact (Kd.C_below HR0_5.out HB.out) | (with_reducible refine Kd.C_alloc ?_ _) | (with_reducible refine Kd.C_drewN ?_ _) | (with_reducible refine Kd.C_drew ?_))); (case side6 => exact HC0_5.out); rintro e w3 ⟨y1, y2, y5, rfl, ho1, ho2, ho5, hb⟩; have n_HY1 := Aside0.mk (Kd.R_lower ho1 (below_size (by repeat (first | (with_reducible first | exact HB.out | apply below_alloc | apply pw_below_drewN | apply below_drew1) | exact HB.out)))); have n_HY2 := Aside0.mk (Kd.R_lower ho2 (below_size (by repeat (first | (with_reducible first | exact HB.out | apply below_alloc | apply pw_below_drewN | apply below_drew1) | exact HB.out)))); have n_HY5 := Aside0.mk (Kd.S_lower ho5 (below_size (by repeat (first | (with_reducible first | exact HB.out | apply below_alloc | apply pw_below_drewN | apply below_drew1) | exact HB.out)))); have n_BK := Aside0.mk (blk_below (g := gb) (o := .cells #[.string a0_0, .slice A0_1 l0_1.length c0_1, .slice A0_2 l0_2.length c0_2, .int .i64 a0_3, .int .i64 a0_4, .slice A0_5 l0_5.length c0_5] 25 (0, 0)) (by (with_reducible repeat (first | refine blk_drewN ?_ _ | refine blk_drew ?_ | refine blk_alloc ?_ _)); exact BK.out) hb); have n_HB := Aside0.mk (below_step (by repeat (first | (with_reducible first | exact HB.out | apply below_alloc | apply pw_below_drewN | apply below_drew1) | exact HB.out)) hb); clear BK HB; have HY1 := n_HY1; have HY2 := n_HY2; have HY5 := n_HY5; have BK := n_BK; have HB := n_HB; clear n_HY1 n_HY2 n_HY5 n_BK n_HB; clear hb ho1 ho2 ho5; obtain ⟨Y1, y1, e_1⟩ := Kd.R_slice HY1.out; subst e_1; obtain ⟨Y2, y2, e_2⟩ := Kd.R_slice HY2.out; subst e_2; obtain ⟨Y5, y5, e_5⟩ := Kd.S_slice HY5.out; subst e_5; have hb_w3_0 : w3.cell? ⟨gb, 0, none⟩ = some (.string a0_0) := (blk_cell BK.out 0).trans rfl; have hb_w3_f0 := blk_frozen BK.out 0; have hb_w3_1 : w3.cell? ⟨gb, 1, none⟩ = some (.slice A0_1 l0_1.length c0_1) := (blk_cell BK.out 1).trans rfl; have hb_w3_f1 := blk_frozen BK.out 1; have hb_w3_2 : w3.cell? ⟨gb, 2, none⟩ = some (.slice A0_2 l0_2.length c0_2) := (blk_cell BK.out 2).trans rfl; have hb_w3_f2 := blk_frozen BK.out 2; have hb_w3_3 : w3.cell? ⟨gb, 3, none⟩ = some (.int .i64 a0_3) := (blk_cell BK.out 3).trans rfl; have hb_w3_f3 := blk_frozen BK.out 3; have hb_w3_4 : w3.cell? ⟨gb, 4, none⟩ = some (.int .i64 a0_4) := (blk_cell BK.out 4).trans rfl; have hb_w3_f4 := blk_frozen BK.out 4; have hb_w3_5 : w3.cell? ⟨gb, 5, none⟩ = some (.slice A0_5 l0_5.length c0_5) := (blk_cell BK.out 5).trans rfl; have hb_w3_f5 := blk_frozen BK.out 5; have S3 := True.intro)
      | (clear S3; go_at_call 25; (with_reducible refine (spec_TonesOf.calls k t0 _ _ t1 _ _ t2 t3 t4 _ _ t5 q1 q2 _ ?side1 ?side2 ?side3 ?side4 ?side5 ?side6 Q2.out).mono ?_); (case side1 => repeat (first | exact (Kd.R_reads' HY1.out).2.2 | (with_reducible refine Kd.C_alloc ?_ _) | (with_reducible refine Kd.C_drewN ?_ _) | (with_reducible refine Kd.C_drew ?_))); (case side2 => exact (Kd.R_reads' HY1.out).2.1); (case side3 => repeat (first | exact (Kd.R_reads' HY2.out).2.2 | (with_reducible refine Kd.C_alloc ?_ _) | (with_reducible refine Kd.C_drewN ?_ _) | (with_reducible refine Kd.C_drew ?_))); (case side4 => exact (Kd.R_reads' HY2.out).2.1); (case side5 => repeat (first | exact (Kd.S_reads' HY5.out).2.2 | (with_reducible refine Kd.C_alloc ?_ _) | (with_reducible refine Kd.C_drewN ?_ _) | (with_reducible refine Kd.C_drew ?_))); (case side6 => exact (Kd.S_reads' HY5.out).2.1); rintro e w4 ⟨vp, rfl, ho, hb⟩; have n_HP := Aside0.mk (Kd.R_lower ho (below_size (by repeat (first | (with_reducible first | exact HB.out | apply below_alloc | apply pw_below_drewN | apply below_drew1) | exact HB.out)))); have n_BK := Aside0.mk (blk_below (g := gb) (o := .cells #[.string a0_0, .slice A0_1 l0_1.length c0_1, .slice A0_2 l0_2.length c0_2, .int .i64 a0_3, .int .i64 a0_4, .slice A0_5 l0_5.length c0_5] 25 (0, 0)) (by (with_reducible repeat (first | refine blk_drewN ?_ _ | refine blk_drew ?_ | refine blk_alloc ?_ _)); exact BK.out) hb); have n_HB := Aside0.mk (below_step (by repeat (first | (with_reducible first | exact HB.out | apply below_alloc | apply pw_below_drewN | apply below_drew1) | exact HB.out)) hb); clear BK HB; have HP := n_HP; have BK := n_BK; have HB := n_HB; clear n_HP n_BK n_HB; clear hb ho HY1 HY2 HY5; obtain ⟨Ap, cp, e_p⟩ := Kd.R_slice HP.out; subst e_p; have hb_w4_0 : w4.cell? ⟨gb, 0, none⟩ = some (.string a0_0) := (blk_cell BK.out 0).trans rfl; have hb_w4_f0 := blk_frozen BK.out 0; have hb_w4_1 : w4.cell? ⟨gb, 1, none⟩ = some (.slice A0_1 l0_1.length c0_1) := (blk_cell BK.out 1).trans rfl; have hb_w4_f1 := blk_frozen BK.out 1; have hb_w4_2 : w4.cell? ⟨gb, 2, none⟩ = some (.slice A0_2 l0_2.length c0_2) := (blk_cell BK.out 2).trans rfl; have hb_w4_f2 := blk_frozen BK.out 2; have hb_w4_3 : w4.cell? ⟨gb, 3, none⟩ = some (.int .i64 a0_3) := (blk_cell BK.out 3).trans rfl; have hb_w4_f3 := blk_frozen BK.out 3; have hb_w4_4 : w4.cell? ⟨gb, 4, none⟩ = some (.int .i64 a0_4) := (blk_cell BK.out 4).trans rfl; have hb_w4_f4 := blk_frozen BK.out 4; have hb_w4_5 : w4.cell? ⟨gb, 5, none⟩ = some (.slice A0_5 l0_5.length c0_5) := (blk_cell BK.out 5).trans rfl; have hb_w4_f5 := blk_frozen BK.out 5; have S4 := True.intro)
      | (clear S4; go_at_call 16; (with_reducible refine (laws_toRaga.calls k a0_0 _ _ l0_1 _ _ l0_2 a0_3 a0_4 _ _ l0_5 t0 t1 t2 t3 t4 t5 _ ?side1 ?side2 ?side3 ?side4 ?side5 ?side6 Q1.out).mono ?_); (case side1 => repeat (first | exact (Kd.C_below HR0_1.out HB.out) | (with_reducible refine Kd.C_alloc ?_ _) | (with_reducible refine Kd.C_drewN ?_ _) | (with_reducible refine Kd.C_drew ?_))); (case side2 => exact HC0_1.out); (case side3 => repeat (first | exact (Kd.C_below HR0_2.out HB.out) | (with_reducible refine Kd.C_alloc ?_ _) | (with_reducible refine Kd.C_drewN ?_ _) | (with_reducible refine Kd.C_drew ?_))); (case side4 => exact HC0_2.out); (case side5 => repeat (first | exact (Kd.C_below HR0_5.out HB.out) | (with_reducible refine Kd.C_alloc ?_ _) | (with_reducible refine Kd.C_drewN ?_ _) | (with_reducible refine Kd.C_drew ?_))); (case side6 => exact HC0_5.out); rintro e w5 ⟨x1, x2, x5, rfl, ho1, ho2, ho5, hb⟩; obtain ⟨N1, hN1⟩ := laws_markRaga.cut hb; have n_HX1 := Aside0.mk (show Kd.R (Kd.int .i64) 2 w5 w.heap.size (fun k_ => some k_ ≠ x2.ownBlock ∧ N1 ≤ k_) x1 t1 from Kd.R_lower (Kd.R_mono (Kd.R_bound ho1) (fun k_ hk => ⟨hk.1, by rw [hN1]; exact hk.2.1⟩)) (below_size (by repeat (first | (with_reducible first | exact HB.out | apply below_alloc | apply pw_below_drewN | apply below_drew1) | exact HB.out)))); have n_HX2 := Aside0.mk (show Kd.R (Kd.int .i64) 2 w5 w.heap.size (fun k_ => some k_ ≠ x1.ownBlock ∧ N1 ≤ k_) x2 t2 from Kd.R_lower (Kd.R_mono (Kd.R_bound ho2) (fun k_ hk => ⟨hk.1, by rw [hN1]; exact hk.2.1⟩)) (below_size (by repeat (first | (with_reducible first | exact HB.out | apply below_alloc | apply pw_below_drewN | apply below_drew1) | exact HB.out)))); have n_HX5 := Aside0.mk (show Kd.S (Kd.slice 2 (Kd.int .i64)) 22 w5 w.heap.size (fun k_ => (some k_ ≠ x1.ownBlock ∧ some k_ ≠ x2.ownBlock) ∧ N1 ≤ k_) x5 t5 from Kd.S_lower (Kd.S_mono (Kd.S_bound ho5) (fun k_ hk => ⟨hk.1, by rw [hN1]; exact hk.2.1⟩)) (below_size (by repeat (first | (with_reducible first | exact HB.out | apply below_alloc | apply pw_below_drewN | apply below_drew1) | exact HB.out)))); have n_HP := Aside0.mk (show Kd.R (Kd.int .i64) 2 w5 w.heap.size (fun k_ => k_ < N1) (.slice Ap q1.length cp) q1 from Kd.R_mono (Kd.R_below (Kd.R_bound (by (with_reducible repeat (first | apply Kd.R_drewN | apply Kd.R_drew)); exact HP.out)) hb) (fun k_ hk => by rw [hN1]; exact hk.2.2.1)); have n_GB := Aside0.mk (show gb < N1 from by rw [hN1]; exact blk_lt BK.out); have n_BK := Aside0.mk (blk_below (g := gb) (o := .cells #[.string a0_0, .slice A0_1 l0_1.length c0_1, .slice A0_2 l0_2.length c0_2, .int .i64 a0_3, .int .i64 a0_4, .slice A0_5 l0_5.length c0_5] 25 (0, 0)) (by (with_reducible repeat (first | refine blk_drewN ?_ _ | refine blk_drew ?_ | refine blk_alloc ?_ _)); exact BK.out) hb); have n_HB := Aside0.mk (below_step (by repeat (first | (with_reducible first | exact HB.out | apply below_alloc | apply pw_below_drewN | apply below_drew1) | exact HB.out)) hb); have n_GZ := Aside0.mk (show N1 ≤ w5.heap.size from by rw [hN1]; exact hb.size); clear HP BK HB; have HX1 := n_HX1; have HX2 := n_HX2; have HX5 := n_HX5; have HP := n_HP; have GB := n_GB; have BK := n_BK; have HB := n_HB; have GZ := n_GZ; clear n_HX1 n_HX2 n_HX5 n_HP n_GB n_BK n_HB n_GZ; clear hb ho1 ho2 ho5 hN1; obtain ⟨X1, x1, e_1⟩ := Kd.R_slice HX1.out; subst e_1; obtain ⟨X2, x2, e_2⟩ := Kd.R_slice HX2.out; subst e_2; obtain ⟨X5, x5, e_5⟩ := Kd.S_slice HX5.out; subst e_5; have hb_w5_0 : w5.cell? ⟨gb, 0, none⟩ = some (.string a0_0) := (blk_cell BK.out 0).trans rfl; have hb_w5_f0 := blk_frozen BK.out 0; have hb_w5_1 : w5.cell? ⟨gb, 1, none⟩ = some (.slice A0_1 l0_1.length c0_1) := (blk_cell BK.out 1).trans rfl; have hb_w5_f1 := blk_frozen BK.out 1; have hb_w5_2 : w5.cell? ⟨gb, 2, none⟩ = some (.slice A0_2 l0_2.length c0_2) := (blk_cell BK.out 2).trans rfl; have hb_w5_f2 := blk_frozen BK.out 2; have hb_w5_3 : w5.cell? ⟨gb, 3, none⟩ = some (.int .i64 a0_3) := (blk_cell BK.out 3).trans rfl; have hb_w5_f3 := blk_frozen BK.out 3; have hb_w5_4 : w5.cell? ⟨gb, 4, none⟩ = some (.int .i64 a0_4) := (blk_cell BK.out 4).trans rfl; have hb_w5_f4 := blk_frozen BK.out 4; have hb_w5_5 : w5.cell? ⟨gb, 5, none⟩ = some (.slice A0_5 l0_5.length c0_5) := (blk_cell BK.out 5).trans rfl; have hb_w5_f5 := blk_frozen BK.out 5; have S5 := True.intro)
      | (clear S5; go_at_call 26; (with_reducible refine (impl_TonesOf.calls k t0 _ _ t1 _ _ t2 t3 t4 _ _ t5 q1 q2 _ ?side1 ?side2 ?side3 ?side4 ?side5 ?side6 Q3.out).mono ?_); (case side1 => repeat (first | exact (Kd.R_reads' HX1.out).2.2 | (with_reducible refine Kd.C_alloc ?_ _) | (with_reducible refine Kd.C_drewN ?_ _) | (with_reducible refine Kd.C_drew ?_))); (case side2 => exact (Kd.R_reads' HX1.out).2.1); (case side3 => repeat (first | exact (Kd.R_reads' HX2.out).2.2 | (with_reducible refine Kd.C_alloc ?_ _) | (with_reducible refine Kd.C_drewN ?_ _) | (with_reducible refine Kd.C_drew ?_))); (case side4 => exact (Kd.R_reads' HX2.out).2.1); (case side5 => repeat (first | exact (Kd.S_reads' HX5.out).2.2 | (with_reducible refine Kd.C_alloc ?_ _) | (with_reducible refine Kd.C_drewN ?_ _) | (with_reducible refine Kd.C_drew ?_))); (case side6 => exact (Kd.S_reads' HX5.out).2.1); rintro e w7 ⟨vg, rfl, ho, hb0⟩; have hb := below_step (below_alloc (Below.refl w5.heap.size w5) _) hb0; have hbx := blk_below (blk_new w5 _) hb0; have hoo := laws_markRaga.fresh ho; generalize hgx : w5.heap.size = gx at hbx hoo ⊢; have n_HX1 := Aside0.mk (Kd.R_mono (Kd.R_below (Kd.R_bound (by (with_reducible repeat (first | apply Kd.R_drewN | apply Kd.R_drew)); exact HX1.out)) hb) (fun k_ hk => (⟨hk.1, by rw [← hgx]; exact hk.2.2.1⟩ : _ ∧ k_ < gx))); have n_HX2 := Aside0.mk (Kd.R_mono (Kd.R_below (Kd.R_bound (by (with_reducible repeat (first | apply Kd.R_drewN | apply Kd.R_drew)); exact HX2.out)) hb) (fun k_ hk => (⟨hk.1, by rw [← hgx]; exact hk.2.2.1⟩ : _ ∧ k_ < gx))); have n_HX5 := Aside0.mk (Kd.S_mono (Kd.S_below (Kd.S_bound (by (with_reducible repeat (first | apply Kd.S_drewN | apply Kd.S_drew)); exact HX5.out)) hb) (fun k_ hk => (⟨hk.1, by rw [← hgx]; exact hk.2.2.1⟩ : _ ∧ k_ < gx))); have n_HP := Aside0.mk (Kd.R_below (by (with_reducible repeat (first | apply Kd.R_drewN | apply Kd.R_drew)); exact HP.out) hb); have n_BK := Aside0.mk (blk_below (g := gb) (o := .cells #[.string a0_0, .slice A0_1 l0_1.length c0_1, .slice A0_2 l0_2.length c0_2, .int .i64 a0_3, .int .i64 a0_4, .slice A0_5 l0_5.length c0_5] 25 (0, 0)) (by (with_reducible repeat (first | refine blk_drewN ?_ _ | refine blk_drew ?_ | refine blk_alloc ?_ _)); exact BK.out) hb); have n_HB := Aside0.mk (below_step (by repeat (first | (with_reducible first | exact HB.out | apply below_alloc | apply pw_below_drewN | apply below_drew1) | exact HB.out)) hb); have n_GX := Aside0.mk (show N1 ≤ gx from by rw [← hgx]; exact GZ.out); have n_BX := Aside0.mk (hbx); have n_HG := Aside0.mk (show Kd.R (Kd.int .i64) 2 w7 w.heap.size (fun k_ => gx < k_) vg q1 from Kd.R_lower hoo (by have := HB.out.size; omega)); clear HX1 HX2 HX5 HP BK HB; have HX1 := n_HX1; have HX2 := n_HX2; have HX5 := n_HX5; have HP := n_HP; have BK := n_BK; have HB := n_HB; have GX := n_GX; have BX := n_BX; have HG := n_HG; clear n_HX1 n_HX2 n_HX5 n_HP n_BK n_HB n_GX n_BX n_HG; clear hb hb0 ho hoo hbx hgx; obtain ⟨Ag, cg, e_g⟩ := Kd.R_slice HG.out; subst e_g; have hb_w7_0 : w7.cell? ⟨gb, 0, none⟩ = some (.string a0_0) := (blk_cell BK.out 0).trans rfl; have hb_w7_f0 := blk_frozen BK.out 0; have hb_w7_1 : w7.cell? ⟨gb, 1, none⟩ = some (.slice A0_1 l0_1.length c0_1) := (blk_cell BK.out 1).trans rfl; have hb_w7_f1 := blk_frozen BK.out 1; have hb_w7_2 : w7.cell? ⟨gb, 2, none⟩ = some (.slice A0_2 l0_2.length c0_2) := (blk_cell BK.out 2).trans rfl; have hb_w7_f2 := blk_frozen BK.out 2; have hb_w7_3 : w7.cell? ⟨gb, 3, none⟩ = some (.int .i64 a0_3) := (blk_cell BK.out 3).trans rfl; have hb_w7_f3 := blk_frozen BK.out 3; have hb_w7_4 : w7.cell? ⟨gb, 4, none⟩ = some (.int .i64 a0_4) := (blk_cell BK.out 4).trans rfl; have hb_w7_f4 := blk_frozen BK.out 4; have hb_w7_5 : w7.cell? ⟨gb, 5, none⟩ = some (.slice A0_5 l0_5.length c0_5) := (blk_cell BK.out 5).trans rfl; have hb_w7_f5 := blk_frozen BK.out 5; have hx_w7_0 : w7.cell? ⟨gx, 0, none⟩ = some (.string t0) := (blk_cell BX.out 0).trans rfl; have hx_w7_f0 := blk_frozen BX.out 0; have hx_w7_1 : w7.cell? ⟨gx, 1, none⟩ = some (.slice X1 t1.length x1) := (blk_cell BX.out 1).trans rfl; have hx_w7_f1 := blk_frozen BX.out 1; have hx_w7_2 : w7.cell? ⟨gx, 2, none⟩ = some (.slice X2 t2.length x2) := (blk_cell BX.out 2).trans rfl; have hx_w7_f2 := blk_frozen BX.out 2; have hx_w7_3 : w7.cell? ⟨gx, 3, none⟩ = some (.int .i64 t3) := (blk_cell BX.out 3).trans rfl; have hx_w7_f3 := blk_frozen BX.out 3; have hx_w7_4 : w7.cell? ⟨gx, 4, none⟩ = some (.int .i64 t4) := (blk_cell BX.out 4).trans rfl; have hx_w7_f4 := blk_frozen BX.out 4; have hx_w7_5 : w7.cell? ⟨gx, 5, none⟩ = some (.slice X5 t5.length x5) := (blk_cell BX.out 5).trans rfl; have hx_w7_f5 := blk_frozen BX.out 5; have S6 := True.intro)
      | (clear S6; go_at_call 27; (with_reducible refine (laws_eqInt64S.calls k Ag cg q1 Ap cp q1 true _ ?side1 ?side2 ?side3 ?side4 Q4.out).mono ?_); (case side1 => repeat (first | exact (Kd.R_reads' HG.out).2.2 | (with_reducible refine Kd.C_alloc ?_ _) | (with_reducible refine Kd.C_drewN ?_ _) | (with_reducible refine Kd.C_drew ?_))); (case side2 => exact (Kd.R_reads' HG.out).2.1); (case side3 => repeat (first | exact (Kd.R_reads' HP.out).2.2 | (with_reducible refine Kd.C_alloc ?_ _) | (with_reducible refine Kd.C_drewN ?_ _) | (with_reducible refine Kd.C_drew ?_))); (case side4 => exact (Kd.R_reads' HP.out).2.1); rintro e w8 ⟨rfl, hd⟩; have hb := laws_markRaga.drawn_below hd; clear hd; have n_HX1 := Aside0.mk (Kd.R_below (by (with_reducible repeat (first | apply Kd.R_drewN | apply Kd.R_drew)); exact HX1.out) hb); have n_HX2 := Aside0.mk (Kd.R_below (by (with_reducible repeat (first | apply Kd.R_drewN | apply Kd.R_drew)); exact HX2.out) hb); have n_HX5 := Aside0.mk (Kd.S_below (by (with_reducible repeat (first | apply Kd.S_drewN | apply Kd.S_drew)); exact HX5.out) hb); have n_HP := Aside0.mk (Kd.R_below (by (with_reducible repeat (first | apply Kd.R_drewN | apply Kd.R_drew)); exact HP.out) hb); have n_HG := Aside0.mk (Kd.R_below (by (with_reducible repeat (first | apply Kd.R_drewN | apply Kd.R_drew)); exact HG.out) hb); have n_BK := Aside0.mk (blk_below (g := gb) (o := .cells #[.string a0_0, .slice A0_1 l0_1.length c0_1, .slice A0_2 l0_2.length c0_2, .int .i64 a0_3, .int .i64 a0_4, .slice A0_5 l0_5.length c0_5] 25 (0, 0)) (by (with_reducible repeat (first | refine blk_drewN ?_ _ | refine blk_drew ?_ | refine blk_alloc ?_ _)); exact BK.out) hb); have n_BX := Aside0.mk (blk_below (g := gx) (o := .cells #[.string t0, .slice X1 t1.length x1, .slice X2 t2.length x2, .int .i64 t3, .int .i64 t4, .slice X5 t5.length x5] 28 (0, 0)) (by (with_reducible repeat (first | refine blk_drewN ?_ _ | refine blk_drew ?_ | refine blk_alloc ?_ _)); exact BX.out) hb); have n_HB := Aside0.mk (below_step (by repeat (first | (with_reducible first | exact HB.out | apply below_alloc | apply pw_below_drewN | apply below_drew1) | exact HB.out)) hb); clear HX1 HX2 HX5 HP HG BK BX HB; have HX1 := n_HX1; have HX2 := n_HX2; have HX5 := n_HX5; have HP := n_HP; have HG := n_HG; have BK := n_BK; have BX := n_BX; have HB := n_HB; clear n_HX1 n_HX2 n_HX5 n_HP n_HG n_BK n_BX n_HB; clear hb; have hb_w8_0 : w8.cell? ⟨gb, 0, none⟩ = some (.string a0_0) := (blk_cell BK.out 0).trans rfl; have hb_w8_f0 := blk_frozen BK.out 0; have hb_w8_1 : w8.cell? ⟨gb, 1, none⟩ = some (.slice A0_1 l0_1.length c0_1) := (blk_cell BK.out 1).trans rfl; have hb_w8_f1 := blk_frozen BK.out 1; have hb_w8_2 : w8.cell? ⟨gb, 2, none⟩ = some (.slice A0_2 l0_2.length c0_2) := (blk_cell BK.out 2).trans rfl; have hb_w8_f2 := blk_frozen BK.out 2; have hb_w8_3 : w8.cell? ⟨gb, 3, none⟩ = some (.int .i64 a0_3) := (blk_cell BK.out 3).trans rfl; have hb_w8_f3 := blk_frozen BK.out 3; have hb_w8_4 : w8.cell? ⟨gb, 4, none⟩ = some (.int .i64 a0_4) := (blk_cell BK.out 4).trans rfl; have hb_w8_f4 := blk_frozen BK.out 4; have hb_w8_5 : w8.cell? ⟨gb, 5, none⟩ = some (.slice A0_5 l0_5.length c0_5) := (blk_cell BK.out 5).trans rfl; have hb_w8_f5 := blk_frozen BK.out 5; have hx_w8_0 : w8.cell? ⟨gx, 0, none⟩ = some (.string t0) := (blk_cell BX.out 0).trans rfl; have hx_w8_f0 := blk_frozen BX.out 0; have hx_w8_1 : w8.cell? ⟨gx, 1, none⟩ = some (.slice X1 t1.length x1) := (blk_cell BX.out 1).trans rfl; have hx_w8_f1 := blk_frozen BX.out 1; have hx_w8_2 : w8.cell? ⟨gx, 2, none⟩ = some (.slice X2 t2.length x2) := (blk_cell BX.out 2).trans rfl; have hx_w8_f2 := blk_frozen BX.out 2; have hx_w8_3 : w8.cell? ⟨gx, 3, none⟩ = some (.int .i64 t3) := (blk_cell BX.out 3).trans rfl; have hx_w8_f3 := blk_frozen BX.out 3; have hx_w8_4 : w8.cell? ⟨gx, 4, none⟩ = some (.int .i64 t4) := (blk_cell BX.out 4).trans rfl; have hx_w8_f4 := blk_frozen BX.out 4; have hx_w8_5 : w8.cell? ⟨gx, 5, none⟩ = some (.slice X5 t5.length x5) := (blk_cell BX.out 5).trans rfl; have hx_w8_f5 := blk_frozen BX.out 5; have S7 := True.intro))
    go_region_with (first
      | (clear S7; go_at_call 16; (with_reducible refine (laws_toRaga.calls k a0_0 _ _ l0_1 _ _ l0_2 a0_3 a0_4 _ _ l0_5 t0 t1 t2 t3 t4 t5 _ ?side1 ?side2 ?side3 ?side4 ?side5 ?side6 Q1.out).mono ?_); (case side1 => repeat (first | exact (Kd.C_below HR0_1.out HB.out) | (with_reducible refine Kd.C_alloc ?_ _) | (with_reducible refine Kd.C_drewN ?_ _) | (with_reducible refine Kd.C_drew ?_))); (case side2 => exact HC0_1.out); (case side3 => repeat (first | exact (Kd.C_below HR0_2.out HB.out) | (with_reducible refine Kd.C_alloc ?_ _) | (with_reducible refine Kd.C_drewN ?_ _) | (with_reducible refine Kd.C_drew ?_))); (case side4 => exact HC0_2.out); (case side5 => repeat (first | exact (Kd.C_below HR0_5.out HB.out) | (with_reducible refine Kd.C_alloc ?_ _) | (with_reducible refine Kd.C_drewN ?_ _) | (with_reducible refine Kd.C_drew ?_))); (case side6 => exact HC0_5.out); rintro e w9 ⟨z1, z2, z5, rfl, ho1, ho2, ho5, hb⟩; have n_HZ1 := Aside0.mk (Kd.R_lower ho1 (below_size (by repeat (first | (with_reducible first | exact HB.out | apply below_alloc | apply pw_below_drewN | apply below_drew1) | exact HB.out)))); have n_HZ2 := Aside0.mk (Kd.R_lower ho2 (below_size (by repeat (first | (with_reducible first | exact HB.out | apply below_alloc | apply pw_below_drewN | apply below_drew1) | exact HB.out)))); have n_HZ5 := Aside0.mk (Kd.S_lower ho5 (below_size (by repeat (first | (with_reducible first | exact HB.out | apply below_alloc | apply pw_below_drewN | apply below_drew1) | exact HB.out)))); have n_HX1 := Aside0.mk (Kd.R_below (by (with_reducible repeat (first | apply Kd.R_drewN | apply Kd.R_drew)); exact HX1.out) hb); have n_HX2 := Aside0.mk (Kd.R_below (by (with_reducible repeat (first | apply Kd.R_drewN | apply Kd.R_drew)); exact HX2.out) hb); have n_HX5 := Aside0.mk (Kd.S_below (by (with_reducible repeat (first | apply Kd.S_drewN | apply Kd.S_drew)); exact HX5.out) hb); have n_HP := Aside0.mk (Kd.R_below (by (with_reducible repeat (first | apply Kd.R_drewN | apply Kd.R_drew)); exact HP.out) hb); have n_HG := Aside0.mk (Kd.R_below (by (with_reducible repeat (first | apply Kd.R_drewN | apply Kd.R_drew)); exact HG.out) hb); have n_BK := Aside0.mk (blk_below (g := gb) (o := .cells #[.string a0_0, .slice A0_1 l0_1.length c0_1, .slice A0_2 l0_2.length c0_2, .int .i64 a0_3, .int .i64 a0_4, .slice A0_5 l0_5.length c0_5] 25 (0, 0)) (by (with_reducible repeat (first | refine blk_drewN ?_ _ | refine blk_drew ?_ | refine blk_alloc ?_ _)); exact BK.out) hb); have n_BX := Aside0.mk (blk_below (g := gx) (o := .cells #[.string t0, .slice X1 t1.length x1, .slice X2 t2.length x2, .int .i64 t3, .int .i64 t4, .slice X5 t5.length x5] 28 (0, 0)) (by (with_reducible repeat (first | refine blk_drewN ?_ _ | refine blk_drew ?_ | refine blk_alloc ?_ _)); exact BX.out) hb); have n_HB := Aside0.mk (below_step (by repeat (first | (with_reducible first | exact HB.out | apply below_alloc | apply pw_below_drewN | apply below_drew1) | exact HB.out)) hb); clear HX1 HX2 HX5 HP HG BK BX HB; have HZ1 := n_HZ1; have HZ2 := n_HZ2; have HZ5 := n_HZ5; have HX1 := n_HX1; have HX2 := n_HX2; have HX5 := n_HX5; have HP := n_HP; have HG := n_HG; have BK := n_BK; have BX := n_BX; have HB := n_HB; clear n_HZ1 n_HZ2 n_HZ5 n_HX1 n_HX2 n_HX5 n_HP n_HG n_BK n_BX n_HB; clear hb ho1 ho2 ho5; obtain ⟨Z1, z1, e_1⟩ := Kd.R_slice HZ1.out; subst e_1; obtain ⟨Z2, z2, e_2⟩ := Kd.R_slice HZ2.out; subst e_2; obtain ⟨Z5, z5, e_5⟩ := Kd.S_slice HZ5.out; subst e_5; have hb_w9_0 : w9.cell? ⟨gb, 0, none⟩ = some (.string a0_0) := (blk_cell BK.out 0).trans rfl; have hb_w9_f0 := blk_frozen BK.out 0; have hb_w9_1 : w9.cell? ⟨gb, 1, none⟩ = some (.slice A0_1 l0_1.length c0_1) := (blk_cell BK.out 1).trans rfl; have hb_w9_f1 := blk_frozen BK.out 1; have hb_w9_2 : w9.cell? ⟨gb, 2, none⟩ = some (.slice A0_2 l0_2.length c0_2) := (blk_cell BK.out 2).trans rfl; have hb_w9_f2 := blk_frozen BK.out 2; have hb_w9_3 : w9.cell? ⟨gb, 3, none⟩ = some (.int .i64 a0_3) := (blk_cell BK.out 3).trans rfl; have hb_w9_f3 := blk_frozen BK.out 3; have hb_w9_4 : w9.cell? ⟨gb, 4, none⟩ = some (.int .i64 a0_4) := (blk_cell BK.out 4).trans rfl; have hb_w9_f4 := blk_frozen BK.out 4; have hb_w9_5 : w9.cell? ⟨gb, 5, none⟩ = some (.slice A0_5 l0_5.length c0_5) := (blk_cell BK.out 5).trans rfl; have hb_w9_f5 := blk_frozen BK.out 5; have hx_w9_0 : w9.cell? ⟨gx, 0, none⟩ = some (.string t0) := (blk_cell BX.out 0).trans rfl; have hx_w9_f0 := blk_frozen BX.out 0; have hx_w9_1 : w9.cell? ⟨gx, 1, none⟩ = some (.slice X1 t1.length x1) := (blk_cell BX.out 1).trans rfl; have hx_w9_f1 := blk_frozen BX.out 1; have hx_w9_2 : w9.cell? ⟨gx, 2, none⟩ = some (.slice X2 t2.length x2) := (blk_cell BX.out 2).trans rfl; have hx_w9_f2 := blk_frozen BX.out 2; have hx_w9_3 : w9.cell? ⟨gx, 3, none⟩ = some (.int .i64 t3) := (blk_cell BX.out 3).trans rfl; have hx_w9_f3 := blk_frozen BX.out 3; have hx_w9_4 : w9.cell? ⟨gx, 4, none⟩ = some (.int .i64 t4) := (blk_cell BX.out 4).trans rfl; have hx_w9_f4 := blk_frozen BX.out 4; have hx_w9_5 : w9.cell? ⟨gx, 5, none⟩ = some (.slice X5 t5.length x5) := (blk_cell BX.out 5).trans rfl; have hx_w9_f5 := blk_frozen BX.out 5; have S8 := True.intro)
      | (clear S8; go_at_call 18; (with_reducible refine (laws_eqRaga.calls k t0 _ _ t1 _ _ t2 t3 t4 _ _ t5 t0 _ _ t1 _ _ t2 t3 t4 _ _ t5 true _ ?side1 ?side2 ?side3 ?side4 ?side5 ?side6 ?side7 ?side8 ?side9 ?side10 ?side11 ?side12 Q5.out).mono ?_); (case side1 => repeat (first | exact (Kd.R_reads' HX1.out).2.2 | (with_reducible refine Kd.C_alloc ?_ _) | (with_reducible refine Kd.C_drewN ?_ _) | (with_reducible refine Kd.C_drew ?_))); (case side2 => exact (Kd.R_reads' HX1.out).2.1); (case side3 => repeat (first | exact (Kd.R_reads' HX2.out).2.2 | (with_reducible refine Kd.C_alloc ?_ _) | (with_reducible refine Kd.C_drewN ?_ _) | (with_reducible refine Kd.C_drew ?_))); (case side4 => exact (Kd.R_reads' HX2.out).2.1); (case side5 => repeat (first | exact (Kd.S_reads' HX5.out).2.2 | (with_reducible refine Kd.C_alloc ?_ _) | (with_reducible refine Kd.C_drewN ?_ _) | (with_reducible refine Kd.C_drew ?_))); (case side6 => exact (Kd.S_reads' HX5.out).2.1); (case side7 => repeat (first | exact (Kd.R_reads' HZ1.out).2.2 | (with_reducible refine Kd.C_alloc ?_ _) | (with_reducible refine Kd.C_drewN ?_ _) | (with_reducible refine Kd.C_drew ?_))); (case side8 => exact (Kd.R_reads' HZ1.out).2.1); (case side9 => repeat (first | exact (Kd.R_reads' HZ2.out).2.2 | (with_reducible refine Kd.C_alloc ?_ _) | (with_reducible refine Kd.C_drewN ?_ _) | (with_reducible refine Kd.C_drew ?_))); (case side10 => exact (Kd.R_reads' HZ2.out).2.1); (case side11 => repeat (first | exact (Kd.S_reads' HZ5.out).2.2 | (with_reducible refine Kd.C_alloc ?_ _) | (with_reducible refine Kd.C_drewN ?_ _) | (with_reducible refine Kd.C_drew ?_))); (case side12 => exact (Kd.S_reads' HZ5.out).2.1); rintro e w10 ⟨rfl, hb⟩; have n_HX1 := Aside0.mk (Kd.R_below (by (with_reducible repeat (first | apply Kd.R_drewN | apply Kd.R_drew)); exact HX1.out) hb); have n_HX2 := Aside0.mk (Kd.R_below (by (with_reducible repeat (first | apply Kd.R_drewN | apply Kd.R_drew)); exact HX2.out) hb); have n_HX5 := Aside0.mk (Kd.S_below (by (with_reducible repeat (first | apply Kd.S_drewN | apply Kd.S_drew)); exact HX5.out) hb); have n_HP := Aside0.mk (Kd.R_below (by (with_reducible repeat (first | apply Kd.R_drewN | apply Kd.R_drew)); exact HP.out) hb); have n_HG := Aside0.mk (Kd.R_below (by (with_reducible repeat (first | apply Kd.R_drewN | apply Kd.R_drew)); exact HG.out) hb); have n_BK := Aside0.mk (blk_below (g := gb) (o := .cells #[.string a0_0, .slice A0_1 l0_1.length c0_1, .slice A0_2 l0_2.length c0_2, .int .i64 a0_3, .int .i64 a0_4, .slice A0_5 l0_5.length c0_5] 25 (0, 0)) (by (with_reducible repeat (first | refine blk_drewN ?_ _ | refine blk_drew ?_ | refine blk_alloc ?_ _)); exact BK.out) hb); have n_BX := Aside0.mk (blk_below (g := gx) (o := .cells #[.string t0, .slice X1 t1.length x1, .slice X2 t2.length x2, .int .i64 t3, .int .i64 t4, .slice X5 t5.length x5] 28 (0, 0)) (by (with_reducible repeat (first | refine blk_drewN ?_ _ | refine blk_drew ?_ | refine blk_alloc ?_ _)); exact BX.out) hb); have n_HB := Aside0.mk (below_step (by repeat (first | (with_reducible first | exact HB.out | apply below_alloc | apply pw_below_drewN | apply below_drew1) | exact HB.out)) hb); clear HX1 HX2 HX5 HP HG BK BX HB; have HX1 := n_HX1; have HX2 := n_HX2; have HX5 := n_HX5; have HP := n_HP; have HG := n_HG; have BK := n_BK; have BX := n_BX; have HB := n_HB; clear n_HX1 n_HX2 n_HX5 n_HP n_HG n_BK n_BX n_HB; clear hb HZ1 HZ2 HZ5; have hb_w10_0 : w10.cell? ⟨gb, 0, none⟩ = some (.string a0_0) := (blk_cell BK.out 0).trans rfl; have hb_w10_f0 := blk_frozen BK.out 0; have hb_w10_1 : w10.cell? ⟨gb, 1, none⟩ = some (.slice A0_1 l0_1.length c0_1) := (blk_cell BK.out 1).trans rfl; have hb_w10_f1 := blk_frozen BK.out 1; have hb_w10_2 : w10.cell? ⟨gb, 2, none⟩ = some (.slice A0_2 l0_2.length c0_2) := (blk_cell BK.out 2).trans rfl; have hb_w10_f2 := blk_frozen BK.out 2; have hb_w10_3 : w10.cell? ⟨gb, 3, none⟩ = some (.int .i64 a0_3) := (blk_cell BK.out 3).trans rfl; have hb_w10_f3 := blk_frozen BK.out 3; have hb_w10_4 : w10.cell? ⟨gb, 4, none⟩ = some (.int .i64 a0_4) := (blk_cell BK.out 4).trans rfl; have hb_w10_f4 := blk_frozen BK.out 4; have hb_w10_5 : w10.cell? ⟨gb, 5, none⟩ = some (.slice A0_5 l0_5.length c0_5) := (blk_cell BK.out 5).trans rfl; have hb_w10_f5 := blk_frozen BK.out 5; have hx_w10_0 : w10.cell? ⟨gx, 0, none⟩ = some (.string t0) := (blk_cell BX.out 0).trans rfl; have hx_w10_f0 := blk_frozen BX.out 0; have hx_w10_1 : w10.cell? ⟨gx, 1, none⟩ = some (.slice X1 t1.length x1) := (blk_cell BX.out 1).trans rfl; have hx_w10_f1 := blk_frozen BX.out 1; have hx_w10_2 : w10.cell? ⟨gx, 2, none⟩ = some (.slice X2 t2.length x2) := (blk_cell BX.out 2).trans rfl; have hx_w10_f2 := blk_frozen BX.out 2; have hx_w10_3 : w10.cell? ⟨gx, 3, none⟩ = some (.int .i64 t3) := (blk_cell BX.out 3).trans rfl; have hx_w10_f3 := blk_frozen BX.out 3; have hx_w10_4 : w10.cell? ⟨gx, 4, none⟩ = some (.int .i64 t4) := (blk_cell BX.out 4).trans rfl; have hx_w10_f4 := blk_frozen BX.out 4; have hx_w10_5 : w10.cell? ⟨gx, 5, none⟩ = some (.slice X5 t5.length x5) := (blk_cell BX.out 5).trans rfl; have hx_w10_f5 := blk_frozen BX.out 5; have S9 := True.intro))
    all_goals (go_wp2_with (first
      | (clear S9; go_at_call 28; (with_reducible refine (laws_markRaga.calls k (fun k_ => some k_ = (.slice X1 t1.length x1 : Value).ownBlock ∧ (some k_ ≠ (.slice X2 t2.length x2 : Value).ownBlock ∧ N1 ≤ k_) ∧ k_ < gx) (fun k_ => some k_ = (.slice X2 t2.length x2 : Value).ownBlock ∧ (some k_ ≠ (.slice X1 t1.length x1 : Value).ownBlock ∧ N1 ≤ k_) ∧ k_ < gx) (fun k_ => ((some k_ ≠ (.slice X1 t1.length x1 : Value).ownBlock ∧ some k_ ≠ (.slice X2 t2.length x2 : Value).ownBlock) ∧ N1 ≤ k_) ∧ k_ < gx) t0 (.slice X1 t1.length x1) (.slice X2 t2.length x2) (.slice X5 t5.length x5) t3 t4 t1 t2 t5 1 m w _ ?side1 ?side2 ?side3 ?side4 ?side5 ?side6 ?side7 ?side8 Q6.out).mono ?_); (case side1 => exact (by repeat (first | (with_reducible first | exact HB.out | apply below_alloc | apply pw_below_drewN | apply below_drew1) | exact HB.out))); (case side2 => (with_reducible repeat (first | apply Kd.R_drewN | apply Kd.R_drew)); exact Kd.R_tight2 rfl HX1.out); (case side3 => (with_reducible repeat (first | apply Kd.R_drewN | apply Kd.R_drew)); exact Kd.R_tight2 rfl HX2.out); (case side4 => (with_reducible repeat (first | apply Kd.S_drewN | apply Kd.S_drew)); exact HX5.out); (case side5 => intro k_ hk; have hx := blk_lt BX.out; (first | have h2 : k_ < gx := by (rcases hk with hk | hk | hk; exact hk.2.2; exact hk.2.2; exact hk.2)); exact Nat.lt_trans h2 hx); (case side6 => intro k_ h1 h2; exact h1.2.1.1 h2.1); (case side7 => intro k_ h1 h2; exact h2.1.1.1 h1.1); (case side8 => intro k_ h1 h2; exact h2.1.1.2 h1.1); rintro e w11 ⟨rfl, hb, hk⟩; have n_HP := Aside0.mk (Kd.R_kept (by (with_reducible repeat (first | apply Kd.R_drewN | apply Kd.R_drew)); exact HP.out) hk (fun k_ h1 h2 => by have h3 := (show N1 ≤ k_ ∧ k_ < gx from by rcases h2 with h2 | h2 | h2; exact ⟨h2.2.1.2, h2.2.2⟩; exact ⟨h2.2.1.2, h2.2.2⟩; exact ⟨h2.1.2, h2.2⟩); have : k_ < N1 := h1; omega)); have n_HG := Aside0.mk (Kd.R_kept (by (with_reducible repeat (first | apply Kd.R_drewN | apply Kd.R_drew)); exact HG.out) hk (fun k_ h1 h2 => by have h3 := (show N1 ≤ k_ ∧ k_ < gx from by rcases h2 with h2 | h2 | h2; exact ⟨h2.2.1.2, h2.2.2⟩; exact ⟨h2.2.1.2, h2.2.2⟩; exact ⟨h2.1.2, h2.2⟩); have : gx < k_ := h1; omega)); have n_BK := Aside0.mk (blk_kept (by (with_reducible repeat (first | refine blk_drewN ?_ _ | refine blk_drew ?_ | refine blk_alloc ?_ _)); exact BK.out) hk (fun h2 => by have h3 := (show N1 ≤ gb ∧ gb < gx from by rcases h2 with h2 | h2 | h2; exact ⟨h2.2.1.2, h2.2.2⟩; exact ⟨h2.2.1.2, h2.2.2⟩; exact ⟨h2.1.2, h2.2⟩); have := GB.out; omega)); have n_HB := Aside0.mk (hb); clear HP HG BK HB; have HP := n_HP; have HG := n_HG; have BK := n_BK; have HB := n_HB; clear n_HP n_HG n_BK n_HB; clear hb hk HX1 HX2 HX5 BX; have hb_w11_0 : w11.cell? ⟨gb, 0, none⟩ = some (.string a0_0) := (blk_cell BK.out 0).trans rfl; have hb_w11_f0 := blk_frozen BK.out 0; have hb_w11_1 : w11.cell? ⟨gb, 1, none⟩ = some (.slice A0_1 l0_1.length c0_1) := (blk_cell BK.out 1).trans rfl; have hb_w11_f1 := blk_frozen BK.out 1; have hb_w11_2 : w11.cell? ⟨gb, 2, none⟩ = some (.slice A0_2 l0_2.length c0_2) := (blk_cell BK.out 2).trans rfl; have hb_w11_f2 := blk_frozen BK.out 2; have hb_w11_3 : w11.cell? ⟨gb, 3, none⟩ = some (.int .i64 a0_3) := (blk_cell BK.out 3).trans rfl; have hb_w11_f3 := blk_frozen BK.out 3; have hb_w11_4 : w11.cell? ⟨gb, 4, none⟩ = some (.int .i64 a0_4) := (blk_cell BK.out 4).trans rfl; have hb_w11_f4 := blk_frozen BK.out 4; have hb_w11_5 : w11.cell? ⟨gb, 5, none⟩ = some (.slice A0_5 l0_5.length c0_5) := (blk_cell BK.out 5).trans rfl; have hb_w11_f5 := blk_frozen BK.out 5; have S10 := True.intro)
      | (clear S10; go_at_call 27; (with_reducible refine (laws_eqInt64S.calls k Ag cg q1 Ap cp q1 true _ ?side1 ?side2 ?side3 ?side4 Q4.out).mono ?_); (case side1 => repeat (first | exact (Kd.R_reads' HG.out).2.2 | (with_reducible refine Kd.C_alloc ?_ _) | (with_reducible refine Kd.C_drewN ?_ _) | (with_reducible refine Kd.C_drew ?_))); (case side2 => exact (Kd.R_reads' HG.out).2.1); (case side3 => repeat (first | exact (Kd.R_reads' HP.out).2.2 | (with_reducible refine Kd.C_alloc ?_ _) | (with_reducible refine Kd.C_drewN ?_ _) | (with_reducible refine Kd.C_drew ?_))); (case side4 => exact (Kd.R_reads' HP.out).2.1); rintro e w12 ⟨rfl, hd⟩; have hb := laws_markRaga.drawn_below hd; clear hd; have n_HP := Aside0.mk (Kd.R_below (by (with_reducible repeat (first | apply Kd.R_drewN | apply Kd.R_drew)); exact HP.out) hb); have n_HG := Aside0.mk (Kd.R_below (by (with_reducible repeat (first | apply Kd.R_drewN | apply Kd.R_drew)); exact HG.out) hb); have n_BK := Aside0.mk (blk_below (g := gb) (o := .cells #[.string a0_0, .slice A0_1 l0_1.length c0_1, .slice A0_2 l0_2.length c0_2, .int .i64 a0_3, .int .i64 a0_4, .slice A0_5 l0_5.length c0_5] 25 (0, 0)) (by (with_reducible repeat (first | refine blk_drewN ?_ _ | refine blk_drew ?_ | refine blk_alloc ?_ _)); exact BK.out) hb); have n_HB := Aside0.mk (below_step (by repeat (first | (with_reducible first | exact HB.out | apply below_alloc | apply pw_below_drewN | apply below_drew1) | exact HB.out)) hb); clear HP HG BK HB; have HP := n_HP; have HG := n_HG; have BK := n_BK; have HB := n_HB; clear n_HP n_HG n_BK n_HB; clear hb; have hb_w12_0 : w12.cell? ⟨gb, 0, none⟩ = some (.string a0_0) := (blk_cell BK.out 0).trans rfl; have hb_w12_f0 := blk_frozen BK.out 0; have hb_w12_1 : w12.cell? ⟨gb, 1, none⟩ = some (.slice A0_1 l0_1.length c0_1) := (blk_cell BK.out 1).trans rfl; have hb_w12_f1 := blk_frozen BK.out 1; have hb_w12_2 : w12.cell? ⟨gb, 2, none⟩ = some (.slice A0_2 l0_2.length c0_2) := (blk_cell BK.out 2).trans rfl; have hb_w12_f2 := blk_frozen BK.out 2; have hb_w12_3 : w12.cell? ⟨gb, 3, none⟩ = some (.int .i64 a0_3) := (blk_cell BK.out 3).trans rfl; have hb_w12_f3 := blk_frozen BK.out 3; have hb_w12_4 : w12.cell? ⟨gb, 4, none⟩ = some (.int .i64 a0_4) := (blk_cell BK.out 4).trans rfl; have hb_w12_f4 := blk_frozen BK.out 4; have hb_w12_5 : w12.cell? ⟨gb, 5, none⟩ = some (.slice A0_5 l0_5.length c0_5) := (blk_cell BK.out 5).trans rfl; have hb_w12_f5 := blk_frozen BK.out 5; have S11 := True.intro)
      | (clear S11; go_at_call 29; (with_reducible refine (laws_markInt64S.calls k (fun k_ => gx < k_) (.slice Ag q1.length cg) q1 1 hh n2 w _ ?side1 ?side2 Q7.out).mono ?_); (case side1 => exact (by repeat (first | (with_reducible first | exact HB.out | apply below_alloc | apply pw_below_drewN | apply below_drew1) | exact HB.out))); (case side2 => (with_reducible repeat (first | apply Kd.R_drewN | apply Kd.R_drew)); exact HG.out); rintro e w13 ⟨rfl, ho, hb, hk⟩; have ch1 : n2.length = q1.length := (Kd.R_reads' ho).1.symm; have n_HP := Aside0.mk (Kd.R_kept (by (with_reducible repeat (first | apply Kd.R_drewN | apply Kd.R_drew)); exact HP.out) hk (fun k_ h1 h2 => by have : k_ < N1 := h1; have : gx < k_ := h2; have := GX.out; omega)); have n_HG := Aside0.mk (ho); have n_BK := Aside0.mk (blk_kept (by (with_reducible repeat (first | refine blk_drewN ?_ _ | refine blk_drew ?_ | refine blk_alloc ?_ _)); exact BK.out) hk (fun h2 => by have : gx < gb := h2; have := GX.out; have := GB.out; omega)); have n_HB := Aside0.mk (hb); clear HP HG BK HB; have HP := n_HP; have HG := n_HG; have BK := n_BK; have HB := n_HB; clear n_HP n_HG n_BK n_HB; clear hb hk ho; have hb_w13_0 : w13.cell? ⟨gb, 0, none⟩ = some (.string a0_0) := (blk_cell BK.out 0).trans rfl; have hb_w13_f0 := blk_frozen BK.out 0; have hb_w13_1 : w13.cell? ⟨gb, 1, none⟩ = some (.slice A0_1 l0_1.length c0_1) := (blk_cell BK.out 1).trans rfl; have hb_w13_f1 := blk_frozen BK.out 1; have hb_w13_2 : w13.cell? ⟨gb, 2, none⟩ = some (.slice A0_2 l0_2.length c0_2) := (blk_cell BK.out 2).trans rfl; have hb_w13_f2 := blk_frozen BK.out 2; have hb_w13_3 : w13.cell? ⟨gb, 3, none⟩ = some (.int .i64 a0_3) := (blk_cell BK.out 3).trans rfl; have hb_w13_f3 := blk_frozen BK.out 3; have hb_w13_4 : w13.cell? ⟨gb, 4, none⟩ = some (.int .i64 a0_4) := (blk_cell BK.out 4).trans rfl; have hb_w13_f4 := blk_frozen BK.out 4; have hb_w13_5 : w13.cell? ⟨gb, 5, none⟩ = some (.slice A0_5 l0_5.length c0_5) := (blk_cell BK.out 5).trans rfl; have hb_w13_f5 := blk_frozen BK.out 5; have S12 := True.intro)
      | (clear S12; go_at_call 30; (with_reducible refine calls_of_args (args' := #[.slice Ag n2.length cg, .int .i64 1]) (by rw [ch1]) ?_); (with_reducible refine (laws_heldInt64S.calls k Ag cg n2 1 hh _ ?side1 ?side2 Q8.out).mono ?_); (case side1 => repeat (first | exact laws_markRaga.readsAt ch1 HG.out | (with_reducible refine Kd.C_alloc ?_ _) | (with_reducible refine Kd.C_drewN ?_ _) | (with_reducible refine Kd.C_drew ?_))); (case side2 => rw [ch1]; exact (Kd.R_reads' HG.out).2.1); rintro e w14 ⟨rfl, hd⟩; have hb := laws_markRaga.drawn_below hd; clear hd; have n_HP := Aside0.mk (Kd.R_below (by (with_reducible repeat (first | apply Kd.R_drewN | apply Kd.R_drew)); exact HP.out) hb); have n_HG := Aside0.mk (Kd.R_below (by (with_reducible repeat (first | apply Kd.R_drewN | apply Kd.R_drew)); exact HG.out) hb); have n_BK := Aside0.mk (blk_below (g := gb) (o := .cells #[.string a0_0, .slice A0_1 l0_1.length c0_1, .slice A0_2 l0_2.length c0_2, .int .i64 a0_3, .int .i64 a0_4, .slice A0_5 l0_5.length c0_5] 25 (0, 0)) (by (with_reducible repeat (first | refine blk_drewN ?_ _ | refine blk_drew ?_ | refine blk_alloc ?_ _)); exact BK.out) hb); have n_HB := Aside0.mk (below_step (by repeat (first | (with_reducible first | exact HB.out | apply below_alloc | apply pw_below_drewN | apply below_drew1) | exact HB.out)) hb); clear HP HG BK HB; have HP := n_HP; have HG := n_HG; have BK := n_BK; have HB := n_HB; clear n_HP n_HG n_BK n_HB; clear hb; have hb_w14_0 : w14.cell? ⟨gb, 0, none⟩ = some (.string a0_0) := (blk_cell BK.out 0).trans rfl; have hb_w14_f0 := blk_frozen BK.out 0; have hb_w14_1 : w14.cell? ⟨gb, 1, none⟩ = some (.slice A0_1 l0_1.length c0_1) := (blk_cell BK.out 1).trans rfl; have hb_w14_f1 := blk_frozen BK.out 1; have hb_w14_2 : w14.cell? ⟨gb, 2, none⟩ = some (.slice A0_2 l0_2.length c0_2) := (blk_cell BK.out 2).trans rfl; have hb_w14_f2 := blk_frozen BK.out 2; have hb_w14_3 : w14.cell? ⟨gb, 3, none⟩ = some (.int .i64 a0_3) := (blk_cell BK.out 3).trans rfl; have hb_w14_f3 := blk_frozen BK.out 3; have hb_w14_4 : w14.cell? ⟨gb, 4, none⟩ = some (.int .i64 a0_4) := (blk_cell BK.out 4).trans rfl; have hb_w14_f4 := blk_frozen BK.out 4; have hb_w14_5 : w14.cell? ⟨gb, 5, none⟩ = some (.slice A0_5 l0_5.length c0_5) := (blk_cell BK.out 5).trans rfl; have hb_w14_f5 := blk_frozen BK.out 5; have S13 := True.intro)
      | (clear S13; go_at_call 16; (with_reducible refine (laws_toRaga.calls k a0_0 _ _ l0_1 _ _ l0_2 a0_3 a0_4 _ _ l0_5 t0 t1 t2 t3 t4 t5 _ ?side1 ?side2 ?side3 ?side4 ?side5 ?side6 Q1.out).mono ?_); (case side1 => repeat (first | exact (Kd.C_below HR0_1.out HB.out) | (with_reducible refine Kd.C_alloc ?_ _) | (with_reducible refine Kd.C_drewN ?_ _) | (with_reducible refine Kd.C_drew ?_))); (case side2 => exact HC0_1.out); (case side3 => repeat (first | exact (Kd.C_below HR0_2.out HB.out) | (with_reducible refine Kd.C_alloc ?_ _) | (with_reducible refine Kd.C_drewN ?_ _) | (with_reducible refine Kd.C_drew ?_))); (case side4 => exact HC0_2.out); (case side5 => repeat (first | exact (Kd.C_below HR0_5.out HB.out) | (with_reducible refine Kd.C_alloc ?_ _) | (with_reducible refine Kd.C_drewN ?_ _) | (with_reducible refine Kd.C_drew ?_))); (case side6 => exact HC0_5.out); rintro e w15 ⟨u1, u2, u5, rfl, ho1, ho2, ho5, hb⟩; have n_HU1 := Aside0.mk (Kd.R_lower ho1 (below_size (by repeat (first | (with_reducible first | exact HB.out | apply below_alloc | apply pw_below_drewN | apply below_drew1) | exact HB.out)))); have n_HU2 := Aside0.mk (Kd.R_lower ho2 (below_size (by repeat (first | (with_reducible first | exact HB.out | apply below_alloc | apply pw_below_drewN | apply below_drew1) | exact HB.out)))); have n_HU5 := Aside0.mk (Kd.S_lower ho5 (below_size (by repeat (first | (with_reducible first | exact HB.out | apply below_alloc | apply pw_below_drewN | apply below_drew1) | exact HB.out)))); have n_HP := Aside0.mk (Kd.R_below (by (with_reducible repeat (first | apply Kd.R_drewN | apply Kd.R_drew)); exact HP.out) hb); have n_HG := Aside0.mk (Kd.R_below (by (with_reducible repeat (first | apply Kd.R_drewN | apply Kd.R_drew)); exact HG.out) hb); have n_BK := Aside0.mk (blk_below (g := gb) (o := .cells #[.string a0_0, .slice A0_1 l0_1.length c0_1, .slice A0_2 l0_2.length c0_2, .int .i64 a0_3, .int .i64 a0_4, .slice A0_5 l0_5.length c0_5] 25 (0, 0)) (by (with_reducible repeat (first | refine blk_drewN ?_ _ | refine blk_drew ?_ | refine blk_alloc ?_ _)); exact BK.out) hb); have n_HB := Aside0.mk (below_step (by repeat (first | (with_reducible first | exact HB.out | apply below_alloc | apply pw_below_drewN | apply below_drew1) | exact HB.out)) hb); clear HP HG BK HB; have HU1 := n_HU1; have HU2 := n_HU2; have HU5 := n_HU5; have HP := n_HP; have HG := n_HG; have BK := n_BK; have HB := n_HB; clear n_HU1 n_HU2 n_HU5 n_HP n_HG n_BK n_HB; clear hb ho1 ho2 ho5; obtain ⟨U1, u1, e_1⟩ := Kd.R_slice HU1.out; subst e_1; obtain ⟨U2, u2, e_2⟩ := Kd.R_slice HU2.out; subst e_2; obtain ⟨U5, u5, e_5⟩ := Kd.S_slice HU5.out; subst e_5; have hb_w15_0 : w15.cell? ⟨gb, 0, none⟩ = some (.string a0_0) := (blk_cell BK.out 0).trans rfl; have hb_w15_f0 := blk_frozen BK.out 0; have hb_w15_1 : w15.cell? ⟨gb, 1, none⟩ = some (.slice A0_1 l0_1.length c0_1) := (blk_cell BK.out 1).trans rfl; have hb_w15_f1 := blk_frozen BK.out 1; have hb_w15_2 : w15.cell? ⟨gb, 2, none⟩ = some (.slice A0_2 l0_2.length c0_2) := (blk_cell BK.out 2).trans rfl; have hb_w15_f2 := blk_frozen BK.out 2; have hb_w15_3 : w15.cell? ⟨gb, 3, none⟩ = some (.int .i64 a0_3) := (blk_cell BK.out 3).trans rfl; have hb_w15_f3 := blk_frozen BK.out 3; have hb_w15_4 : w15.cell? ⟨gb, 4, none⟩ = some (.int .i64 a0_4) := (blk_cell BK.out 4).trans rfl; have hb_w15_f4 := blk_frozen BK.out 4; have hb_w15_5 : w15.cell? ⟨gb, 5, none⟩ = some (.slice A0_5 l0_5.length c0_5) := (blk_cell BK.out 5).trans rfl; have hb_w15_f5 := blk_frozen BK.out 5; have S14 := True.intro)
      | (clear S14; go_at_call 26; (with_reducible refine (impl_TonesOf.calls k t0 _ _ t1 _ _ t2 t3 t4 _ _ t5 q1 q2 _ ?side1 ?side2 ?side3 ?side4 ?side5 ?side6 Q3.out).mono ?_); (case side1 => repeat (first | exact (Kd.R_reads' HU1.out).2.2 | (with_reducible refine Kd.C_alloc ?_ _) | (with_reducible refine Kd.C_drewN ?_ _) | (with_reducible refine Kd.C_drew ?_))); (case side2 => exact (Kd.R_reads' HU1.out).2.1); (case side3 => repeat (first | exact (Kd.R_reads' HU2.out).2.2 | (with_reducible refine Kd.C_alloc ?_ _) | (with_reducible refine Kd.C_drewN ?_ _) | (with_reducible refine Kd.C_drew ?_))); (case side4 => exact (Kd.R_reads' HU2.out).2.1); (case side5 => repeat (first | exact (Kd.S_reads' HU5.out).2.2 | (with_reducible refine Kd.C_alloc ?_ _) | (with_reducible refine Kd.C_drewN ?_ _) | (with_reducible refine Kd.C_drew ?_))); (case side6 => exact (Kd.S_reads' HU5.out).2.1); rintro e w16 ⟨vh, rfl, ho, hb⟩; have n_HH := Aside0.mk (Kd.R_lower ho (below_size (by repeat (first | (with_reducible first | exact HB.out | apply below_alloc | apply pw_below_drewN | apply below_drew1) | exact HB.out)))); have n_HP := Aside0.mk (Kd.R_below (by (with_reducible repeat (first | apply Kd.R_drewN | apply Kd.R_drew)); exact HP.out) hb); have n_HG := Aside0.mk (Kd.R_below (by (with_reducible repeat (first | apply Kd.R_drewN | apply Kd.R_drew)); exact HG.out) hb); have n_BK := Aside0.mk (blk_below (g := gb) (o := .cells #[.string a0_0, .slice A0_1 l0_1.length c0_1, .slice A0_2 l0_2.length c0_2, .int .i64 a0_3, .int .i64 a0_4, .slice A0_5 l0_5.length c0_5] 25 (0, 0)) (by (with_reducible repeat (first | refine blk_drewN ?_ _ | refine blk_drew ?_ | refine blk_alloc ?_ _)); exact BK.out) hb); have n_HB := Aside0.mk (below_step (by repeat (first | (with_reducible first | exact HB.out | apply below_alloc | apply pw_below_drewN | apply below_drew1) | exact HB.out)) hb); clear HP HG BK HB; have HH := n_HH; have HP := n_HP; have HG := n_HG; have BK := n_BK; have HB := n_HB; clear n_HH n_HP n_HG n_BK n_HB; clear hb ho HU1 HU2 HU5; obtain ⟨Ah, ch, e_h⟩ := Kd.R_slice HH.out; subst e_h; have S15 := True.intro)
      | (clear S15; go_at_call 27; (with_reducible refine (laws_eqInt64S.calls k Ah ch q1 Ap cp q1 true _ ?side1 ?side2 ?side3 ?side4 Q4.out).mono ?_); (case side1 => repeat (first | exact (Kd.R_reads' HH.out).2.2 | (with_reducible refine Kd.C_alloc ?_ _) | (with_reducible refine Kd.C_drewN ?_ _) | (with_reducible refine Kd.C_drew ?_))); (case side2 => exact (Kd.R_reads' HH.out).2.1); (case side3 => repeat (first | exact (Kd.R_reads' HP.out).2.2 | (with_reducible refine Kd.C_alloc ?_ _) | (with_reducible refine Kd.C_drewN ?_ _) | (with_reducible refine Kd.C_drew ?_))); (case side4 => exact (Kd.R_reads' HP.out).2.1); rintro e w17 ⟨rfl, hd⟩; have hb := laws_markRaga.drawn_below hd; clear hd; have n_HP := Aside0.mk (Kd.R_below (by (with_reducible repeat (first | apply Kd.R_drewN | apply Kd.R_drew)); exact HP.out) hb); have n_HG := Aside0.mk (Kd.R_below (by (with_reducible repeat (first | apply Kd.R_drewN | apply Kd.R_drew)); exact HG.out) hb); have n_BK := Aside0.mk (blk_below (g := gb) (o := .cells #[.string a0_0, .slice A0_1 l0_1.length c0_1, .slice A0_2 l0_2.length c0_2, .int .i64 a0_3, .int .i64 a0_4, .slice A0_5 l0_5.length c0_5] 25 (0, 0)) (by (with_reducible repeat (first | refine blk_drewN ?_ _ | refine blk_drew ?_ | refine blk_alloc ?_ _)); exact BK.out) hb); have n_HB := Aside0.mk (below_step (by repeat (first | (with_reducible first | exact HB.out | apply below_alloc | apply pw_below_drewN | apply below_drew1) | exact HB.out)) hb); clear HP HG BK HB; have HP := n_HP; have HG := n_HG; have BK := n_BK; have HB := n_HB; clear n_HP n_HG n_BK n_HB; clear hb; have hb_w17_0 : w17.cell? ⟨gb, 0, none⟩ = some (.string a0_0) := (blk_cell BK.out 0).trans rfl; have hb_w17_f0 := blk_frozen BK.out 0; have hb_w17_1 : w17.cell? ⟨gb, 1, none⟩ = some (.slice A0_1 l0_1.length c0_1) := (blk_cell BK.out 1).trans rfl; have hb_w17_f1 := blk_frozen BK.out 1; have hb_w17_2 : w17.cell? ⟨gb, 2, none⟩ = some (.slice A0_2 l0_2.length c0_2) := (blk_cell BK.out 2).trans rfl; have hb_w17_f2 := blk_frozen BK.out 2; have hb_w17_3 : w17.cell? ⟨gb, 3, none⟩ = some (.int .i64 a0_3) := (blk_cell BK.out 3).trans rfl; have hb_w17_f3 := blk_frozen BK.out 3; have hb_w17_4 : w17.cell? ⟨gb, 4, none⟩ = some (.int .i64 a0_4) := (blk_cell BK.out 4).trans rfl; have hb_w17_f4 := blk_frozen BK.out 4; have hb_w17_5 : w17.cell? ⟨gb, 5, none⟩ = some (.slice A0_5 l0_5.length c0_5) := (blk_cell BK.out 5).trans rfl; have hb_w17_f5 := blk_frozen BK.out 5; have S16 := True.intro)
      | (clear S16; go_at_call 30; (with_reducible refine calls_of_args (args' := #[.slice Ag n2.length cg, .int .i64 1]) (by rw [ch1]) ?_); (with_reducible refine (laws_heldInt64S.calls k Ag cg n2 1 hh _ ?side1 ?side2 Q8.out).mono ?_); (case side1 => repeat (first | exact laws_markRaga.readsAt ch1 HG.out | (with_reducible refine Kd.C_alloc ?_ _) | (with_reducible refine Kd.C_drewN ?_ _) | (with_reducible refine Kd.C_drew ?_))); (case side2 => rw [ch1]; exact (Kd.R_reads' HG.out).2.1); rintro e w18 ⟨rfl, hd⟩; have hb := laws_markRaga.drawn_below hd; clear hd; have n_HP := Aside0.mk (Kd.R_below (by (with_reducible repeat (first | apply Kd.R_drewN | apply Kd.R_drew)); exact HP.out) hb); have n_HG := Aside0.mk (Kd.R_below (by (with_reducible repeat (first | apply Kd.R_drewN | apply Kd.R_drew)); exact HG.out) hb); have n_BK := Aside0.mk (blk_below (g := gb) (o := .cells #[.string a0_0, .slice A0_1 l0_1.length c0_1, .slice A0_2 l0_2.length c0_2, .int .i64 a0_3, .int .i64 a0_4, .slice A0_5 l0_5.length c0_5] 25 (0, 0)) (by (with_reducible repeat (first | refine blk_drewN ?_ _ | refine blk_drew ?_ | refine blk_alloc ?_ _)); exact BK.out) hb); have n_HB := Aside0.mk (below_step (by repeat (first | (with_reducible first | exact HB.out | apply below_alloc | apply pw_below_drewN | apply below_drew1) | exact HB.out)) hb); clear HP HG BK HB; have HP := n_HP; have HG := n_HG; have BK := n_BK; have HB := n_HB; clear n_HP n_HG n_BK n_HB; clear hb; have hb_w18_0 : w18.cell? ⟨gb, 0, none⟩ = some (.string a0_0) := (blk_cell BK.out 0).trans rfl; have hb_w18_f0 := blk_frozen BK.out 0; have hb_w18_1 : w18.cell? ⟨gb, 1, none⟩ = some (.slice A0_1 l0_1.length c0_1) := (blk_cell BK.out 1).trans rfl; have hb_w18_f1 := blk_frozen BK.out 1; have hb_w18_2 : w18.cell? ⟨gb, 2, none⟩ = some (.slice A0_2 l0_2.length c0_2) := (blk_cell BK.out 2).trans rfl; have hb_w18_f2 := blk_frozen BK.out 2; have hb_w18_3 : w18.cell? ⟨gb, 3, none⟩ = some (.int .i64 a0_3) := (blk_cell BK.out 3).trans rfl; have hb_w18_f3 := blk_frozen BK.out 3; have hb_w18_4 : w18.cell? ⟨gb, 4, none⟩ = some (.int .i64 a0_4) := (blk_cell BK.out 4).trans rfl; have hb_w18_f4 := blk_frozen BK.out 4; have hb_w18_5 : w18.cell? ⟨gb, 5, none⟩ = some (.slice A0_5 l0_5.length c0_5) := (blk_cell BK.out 5).trans rfl; have hb_w18_f5 := blk_frozen BK.out 5; have S17 := True.intro)))
    all_goals go_ret
    all_goals exact ⟨by first | rfl | (simp; done), (by repeat (first | (with_reducible first | exact HB.out | apply below_alloc | apply pw_below_drewN | apply below_drew1) | exact HB.out))⟩

end Go.Proofs.Ytglamjckdodeoaa.PFnExactTonesOf
