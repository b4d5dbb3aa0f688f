-- Written by wip/myprint.py: the kit's print, with contracts of this session's own among the functions.
import Derived.Test.YtigjcobannhdlaaDoorPFnExactEqualErrorsx0
import Derived.Test.YtigjcobannhdlaaDoorPFnExactEqualErrorsx3
namespace Go.Proofs.YtigjcobannhdlaaDoor.PFnExactEqualErrors
open Go.RowKit Go.Proofs.YtigjcobannhdlaaDoorW.PrintWords Go.Proofs.YtigjcobannhdlaaDoorW.PrintLast Go.Proofs.YtigjcobannhdlaaDoorW.PrintMore
attribute [local go_sem] max2_int min2_int max_two min_two max_three min_three max_four min_four   -- for this text's walks alone
set_option linter.unusedVariables false
set_option linter.unusedSimpArgs false

/-! ### spec_l03Floor: function 44 -/
def spec_l03Floor.f (a0 : Int) : Option (Int) := (spec_l03Tone.f a0).bind fun t134 => (some (wrap64 (Int.tdiv (wrap64 (a0 - t134)) 12)))
set_option maxHeartbeats 8000000 in
set_option maxRecDepth 100000 in
theorem spec_l03Floor.calls (a0 : Int) (r : Int) (w : World) (h : spec_l03Floor.f a0 = some r) :
  Calls Tryd.prog 44 #[.int .i64 a0] w fun e w' => e = .returned (.int .i64 r) ∧ Drawn0 w w' := by
 have H : ((spec_l03Tone.f a0).bind fun t134 => (some (wrap64 (Int.tdiv (wrap64 (a0 - t134)) 12)))) = some r := h
 clear h
 replace H := Option.bind_eq_some_iff.mp H
 obtain ⟨t134, A20, H⟩ := H
 replace H : (some (wrap64 (Int.tdiv (wrap64 (a0 - t134)) 12))) = some r := H
 have A2 := Aside0.mk A20
 clear A20
 obtain rfl := Option.some.inj H
 go_enter Tryd.func44, Tryd.ntmps44
 go_wp2_with (first | ((with_reducible refine gate_callee (f := 46) rfl ?_); refine goesL_ (some 5) rfl rfl Tryd.func46 (by kernel_rfl) rfl #[.int .i64 a0] rfl (by (try simp only [List.map_toArray, List.map_cons, List.map_nil]); first | done | rfl | (simp only [List.length_drop, List.length_take]; rfl)) ?_; (with_reducible refine (spec_l03Tone.calls a0 t134 _ A2.out).mono ?_); rintro e w' ⟨rfl, ⟨nd, rfl⟩⟩; refine ⟨_, rfl, ?_⟩))
 go_ret
 exact ⟨by first | rfl | (simp; done) | (simp [*]; done), by repeat (first | exact Drawn0.refl _ | apply Drawn0.step)⟩

/-! ### spec_l02Octave: function 63 -/
mutual
def spec_l02Octave.l0 : Nat → Int → Int → Int → Option (Int × Int × Int)
 | 0, _, _, _ => none
 | k + 1, x5, x6, x7 => if x5 ≥ (wrap64 (2 * x6)) then (spec_l02Octave.l0 k x5 (wrap64 (x6 * 2)) (wrap64 (x7 + 1))) else (spec_l02Octave.l1 k x5 x6 x7)
def spec_l02Octave.l1 : Nat → Int → Int → Int → Option (Int × Int × Int)
 | 0, _, _, _ => none
 | k + 1, x5, x6, x7 => if x5 < x6 then (spec_l02Octave.l1 k (wrap64 (x5 * 2)) x6 (wrap64 (x7 - 1))) else (some (x5, x6, x7))
end
def spec_l02Octave.f (k : Nat) (a0_0 : Int) (a0_1 : Int) : Option (Int × Int × Int) := spec_l02Octave.l0 k a0_0 a0_1 0
theorem spec_l02Octave.mono_l : ∀ k, (∀ y0 y1 y2, LeO (spec_l02Octave.l0 k y0 y1 y2) (spec_l02Octave.l0 (k + 1) y0 y1 y2)) ∧ (∀ y0 y1 y2, LeO (spec_l02Octave.l1 k y0 y1 y2) (spec_l02Octave.l1 (k + 1) y0 y1 y2))
 | 0 => ⟨fun _ _ _ r h => by simp [spec_l02Octave.l0] at h, fun _ _ _ r h => by simp [spec_l02Octave.l1] at h⟩
 | k + 1 => by
  obtain ⟨ih0, ih1⟩ := spec_l02Octave.mono_l k
  refine ⟨?_, ?_⟩
  ·
   intro y0 y1 y2
   unfold spec_l02Octave.l0
   repeat' first
   | (with_reducible exact ih0 _ _ _)
   | (with_reducible exact ih1 _ _ _)
   | (with_reducible exact LeO.refl _)
   | (with_reducible exact LeO.none _)
   | (with_reducible refine LeO.ite ?_ ?_)
   | (with_reducible refine LeO.bind ?_ (fun _ => ?_))
   | exact ih0 _ _ _
   | exact ih1 _ _ _
   | exact LeO.none _
   | refine LeO.ite ?_ ?_
   | refine LeO.bind ?_ (fun _ => ?_)
  ·
   intro y0 y1 y2
   unfold spec_l02Octave.l1
   repeat' first
   | (with_reducible exact ih0 _ _ _)
   | (with_reducible exact ih1 _ _ _)
   | (with_reducible exact LeO.refl _)
   | (with_reducible exact LeO.none _)
   | (with_reducible refine LeO.ite ?_ ?_)
   | (with_reducible refine LeO.bind ?_ (fun _ => ?_))
   | exact ih0 _ _ _
   | exact ih1 _ _ _
   | exact LeO.none _
   | refine LeO.ite ?_ ?_
   | refine LeO.bind ?_ (fun _ => ?_)
theorem spec_l02Octave.mono : ∀ a0 a1 k, LeO (spec_l02Octave.f k a0 a1) (spec_l02Octave.f (k + 1) a0 a1) := by
 intro a0 a1 k
 obtain ⟨ih0, ih1⟩ := spec_l02Octave.mono_l k
 unfold spec_l02Octave.f
 repeat' first
   | (with_reducible exact ih0 _ _ _)
   | (with_reducible exact ih1 _ _ _)
   | (with_reducible exact LeO.refl _)
   | (with_reducible exact LeO.none _)
   | (with_reducible refine LeO.ite ?_ ?_)
   | (with_reducible refine LeO.bind ?_ (fun _ => ?_))
   | exact ih0 _ _ _
   | exact ih1 _ _ _
   | exact LeO.none _
   | refine LeO.ite ?_ ?_
   | refine LeO.bind ?_ (fun _ => ?_)
set_option maxHeartbeats 8000000 in
set_option maxRecDepth 100000 in
theorem spec_l02Octave.calls (k : Nat) {g0 : Nat} (a0_0 : Int) (a0_1 : Int) (r1 : Int) (r2 : Int) (r3 : Int) (w : World) (hg0 : w.heap[g0]? = some (.cells #[.int .i64 a0_0, .int .i64 a0_1] 59 (0, 0))) (h : spec_l02Octave.f k a0_0 a0_1 = some (r1, r2, r3)) :
  Calls Tryd.prog 63 #[.pointer (some ⟨g0, 0, none⟩)] w fun e w' => e = .returned (.tuple #[.int .i64 r1, .int .i64 r2, .int .i64 r3]) ∧ Drawn0 w w' := by
 have BK0 := Aside0.mk hg0
 clear hg0
 have H : (spec_l02Octave.l0 k a0_0 a0_1 0) = some (r1, r2, r3) := h
 clear h
 have H' := Aside0.mk H
 clear H
 have hcz2_0 : w.cell? ⟨g0, 0, none⟩ = some (.int .i64 a0_0) := (blk_cell BK0.out 0).trans rfl
 have hcz2_1 : w.cell? ⟨g0, 1, none⟩ = some (.int .i64 a0_1) := (blk_cell BK0.out 1).trans rfl
 have hfz2_0 := blk_frozen BK0.out 0
 have hfz2_1 := blk_frozen BK0.out 1
 go_enter Tryd.func63, Tryd.ntmps63
 go_wp2
 go_loopg [6, 7] k (fun kq v6 v7 w' => ∃ (x6_1 : Int) (x7_1 : Int), v6 = .int .i64 x6_1 ∧ v7 = .int .i64 x7_1 ∧ Aside0 (spec_l02Octave.l0 kq a0_0 x6_1 x7_1 = some (r1, r2, r3)) ∧ Aside0 (kq ≤ k) ∧ Aside0 (w'.heap[g0]? = some (.cells #[.int .i64 a0_0, .int .i64 a0_1] 59 (0, 0))) ∧ Drawn0 w w')
 case atStart => exact ⟨(a0_1), (0), (by first | rfl | (simp; done) | (simp [*]; done)), (by first | rfl | (simp; done) | (simp [*]; done)), H', ⟨Nat.le_refl _⟩, ⟨by (with_reducible repeat (first | refine blk_drewN ?_ _ | refine blk_drew ?_ | refine blk_alloc ?_ _)); exact BK0.out⟩, by repeat (first | exact Drawn0.refl _ | apply Drawn0.step)⟩
 case round =>
  clear H'
  try clear p2
  try clear hcz2_0
  try clear hcz2_1
  try clear hfz2_0
  try clear hfz2_1
  obtain ⟨x6_1, x7_1, rfl, rfl, HA, HK1, BK0, ⟨m1, rfl⟩⟩ := hrel
  cases gk with
  | zero => exact absurd HA.out (by simp [spec_l02Octave.l0])
  | succ k1 =>
   have H := HA.out
   clear HA
   simp only [spec_l02Octave.l0] at H
   by_cases c3 : a0_0 ≥ (wrap64 (2 * x6_1))
   ·
    rw [if_pos c3] at H
    have c3b0 : decide ((wrap64 (2 * x6_1)) ≤ a0_0) = true := decide_eq_true c3
    clear c3
    have H' := Aside0.mk H
    clear H
    go_wp2
    go_roundg k1
    case measure => have := HK1.out; omega
    case rel => exact ⟨(wrap64 (x6_1 * 2)), (wrap64 (x7_1 + 1)), (by first | rfl | (simp; done) | (simp [*]; done)), (by first | rfl | (simp; done) | (simp [*]; done)), H', ⟨by have := HK1.out; omega⟩, ⟨by (with_reducible repeat (first | refine blk_drewN ?_ _ | refine blk_drew ?_ | refine blk_alloc ?_ _)); exact BK0.out⟩, by repeat (first | exact Drawn0.refl _ | apply Drawn0.step)⟩
   ·
    rw [if_neg c3] at H
    have c3b0 : decide ((wrap64 (2 * x6_1)) ≤ a0_0) = false := decide_eq_false c3
    clear c3
    have H' := Aside0.mk H
    clear H
    go_wp2
    go_loopg [5, 7] k1 (fun kq v5 v7 w' => ∃ (x5_2 : Int) (x7_2 : Int), v5 = .int .i64 x5_2 ∧ v7 = .int .i64 x7_2 ∧ Aside0 (spec_l02Octave.l1 kq x5_2 x6_1 x7_2 = some (r1, r2, r3)) ∧ Aside0 (kq ≤ k1) ∧ Aside0 (w'.heap[g0]? = some (.cells #[.int .i64 a0_0, .int .i64 a0_1] 59 (0, 0))) ∧ Drawn0 w w')
    case atStart => exact ⟨(a0_0), (x7_1), (by first | rfl | (simp; done) | (simp [*]; done)), (by first | rfl | (simp; done) | (simp [*]; done)), H', ⟨Nat.le_refl _⟩, ⟨by (with_reducible repeat (first | refine blk_drewN ?_ _ | refine blk_drew ?_ | refine blk_alloc ?_ _)); exact BK0.out⟩, by repeat (first | exact Drawn0.refl _ | apply Drawn0.step)⟩
    case round =>
     clear H'
     try clear p2
     try clear c3
     try clear c3b0
     try clear hcz2_0
     try clear hcz2_1
     try clear hfz2_0
     try clear hfz2_1
     try clear p2
     obtain ⟨x5_2, x7_2, rfl, rfl, HA, HK2, BK0, ⟨m2, rfl⟩⟩ := hrel
     cases gk with
     | zero => exact absurd HA.out (by simp [spec_l02Octave.l1])
     | succ k2 =>
      have H := HA.out
      clear HA
      simp only [spec_l02Octave.l1] at H
      by_cases c4 : x5_2 < x6_1
      ·
       rw [if_pos c4] at H
       have c4b0 : decide (x5_2 < x6_1) = true := decide_eq_true c4
       clear c4
       have H' := Aside0.mk H
       clear H
       go_wp2
       go_roundg k2
       case measure => have := HK1.out; have := HK2.out; omega
       case rel => exact ⟨(wrap64 (x5_2 * 2)), (wrap64 (x7_2 - 1)), (by first | rfl | (simp; done) | (simp [*]; done)), (by first | rfl | (simp; done) | (simp [*]; done)), H', ⟨by have := HK1.out; have := HK2.out; omega⟩, ⟨by (with_reducible repeat (first | refine blk_drewN ?_ _ | refine blk_drew ?_ | refine blk_alloc ?_ _)); exact BK0.out⟩, by repeat (first | exact Drawn0.refl _ | apply Drawn0.step)⟩
      ·
       rw [if_neg c4] at H
       have c4b0 : decide (x5_2 < x6_1) = false := decide_eq_false c4
       clear c4
       simp only [Option.some.injEq, Prod.mk.injEq] at H
       obtain ⟨rfl, rfl, rfl⟩ := H
       go_wp2
       go_ret3
       exact ⟨by first | rfl | (simp; done) | (simp [*]; done), by repeat (first | exact Drawn0.refl _ | apply Drawn0.step)⟩
set_option maxHeartbeats 8000000 in
set_option maxRecDepth 100000 in
theorem spec_l02OctaveAt.calls (k : Nat) (p : Addr) (a0_0 : Int) (a0_1 : Int) (r1 : Int) (r2 : Int) (r3 : Int) (w : World) (h0 : w.cell? p = some (.int .i64 a0_0)) (h1 : w.cell? ⟨p.block, p.off + 1, none⟩ = some (.int .i64 a0_1)) (h : spec_l02Octave.f k a0_0 a0_1 = some (r1, r2, r3)) :
  Calls Tryd.prog 63 #[.pointer (some p)] w fun e w' => e = .returned (.tuple #[.int .i64 r1, .int .i64 r2, .int .i64 r3]) ∧ Drawn0 w w' := by
 have BK0 := Aside0.mk (And.intro h0 h1)
 have H : (spec_l02Octave.l0 k a0_0 a0_1 0) = some (r1, r2, r3) := h
 clear h
 have H' := Aside0.mk H
 clear H
 have hcz2_0 : w.cell? p = some (.int .i64 a0_0) := h0
 have hcz2_1 : w.cell? ⟨p.block, p.off + 1, none⟩ = some (.int .i64 a0_1) := h1
 go_enter Tryd.func63, Tryd.ntmps63
 go_wp2
 go_loopg [6, 7] k (fun kq v6 v7 w' => ∃ (x6_1 : Int) (x7_1 : Int), v6 = .int .i64 x6_1 ∧ v7 = .int .i64 x7_1 ∧ Aside0 (spec_l02Octave.l0 kq a0_0 x6_1 x7_1 = some (r1, r2, r3)) ∧ Aside0 (kq ≤ k) ∧ Aside0 True ∧ Drawn0 w w')
 case atStart => exact ⟨(a0_1), (0), (by first | rfl | (simp; done) | (simp [*]; done)), (by first | rfl | (simp; done) | (simp [*]; done)), H', ⟨Nat.le_refl _⟩, ⟨trivial⟩, by repeat (first | exact Drawn0.refl _ | apply Drawn0.step)⟩
 case round =>
  clear H'
  try clear p2
  try clear hcz2_0
  try clear hcz2_1
  try clear hfz2_0
  try clear hfz2_1
  obtain ⟨x6_1, x7_1, rfl, rfl, HA, HK1, BK0, ⟨m1, rfl⟩⟩ := hrel
  cases gk with
  | zero => exact absurd HA.out (by simp [spec_l02Octave.l0])
  | succ k1 =>
   have H := HA.out
   clear HA
   simp only [spec_l02Octave.l0] at H
   by_cases c3 : a0_0 ≥ (wrap64 (2 * x6_1))
   ·
    rw [if_pos c3] at H
    have c3b0 : decide ((wrap64 (2 * x6_1)) ≤ a0_0) = true := decide_eq_true c3
    clear c3
    have H' := Aside0.mk H
    clear H
    go_wp2
    go_roundg k1
    case measure => have := HK1.out; omega
    case rel => exact ⟨(wrap64 (x6_1 * 2)), (wrap64 (x7_1 + 1)), (by first | rfl | (simp; done) | (simp [*]; done)), (by first | rfl | (simp; done) | (simp [*]; done)), H', ⟨by have := HK1.out; omega⟩, ⟨trivial⟩, by repeat (first | exact Drawn0.refl _ | apply Drawn0.step)⟩
   ·
    rw [if_neg c3] at H
    have c3b0 : decide ((wrap64 (2 * x6_1)) ≤ a0_0) = false := decide_eq_false c3
    clear c3
    have H' := Aside0.mk H
    clear H
    go_wp2
    go_loopg [5, 7] k1 (fun kq v5 v7 w' => ∃ (x5_2 : Int) (x7_2 : Int), v5 = .int .i64 x5_2 ∧ v7 = .int .i64 x7_2 ∧ Aside0 (spec_l02Octave.l1 kq x5_2 x6_1 x7_2 = some (r1, r2, r3)) ∧ Aside0 (kq ≤ k1) ∧ Aside0 True ∧ Drawn0 w w')
    case atStart => exact ⟨(a0_0), (x7_1), (by first | rfl | (simp; done) | (simp [*]; done)), (by first | rfl | (simp; done) | (simp [*]; done)), H', ⟨Nat.le_refl _⟩, ⟨trivial⟩, by repeat (first | exact Drawn0.refl _ | apply Drawn0.step)⟩
    case round =>
     clear H'
     try clear p2
     try clear c3
     try clear c3b0
     try clear hcz2_0
     try clear hcz2_1
     try clear hfz2_0
     try clear hfz2_1
     try clear p2
     obtain ⟨x5_2, x7_2, rfl, rfl, HA, HK2, BK0, ⟨m2, rfl⟩⟩ := hrel
     cases gk with
     | zero => exact absurd HA.out (by simp [spec_l02Octave.l1])
     | succ k2 =>
      have H := HA.out
      clear HA
      simp only [spec_l02Octave.l1] at H
      by_cases c4 : x5_2 < x6_1
      ·
       rw [if_pos c4] at H
       have c4b0 : decide (x5_2 < x6_1) = true := decide_eq_true c4
       clear c4
       have H' := Aside0.mk H
       clear H
       go_wp2
       go_roundg k2
       case measure => have := HK1.out; have := HK2.out; omega
       case rel => exact ⟨(wrap64 (x5_2 * 2)), (wrap64 (x7_2 - 1)), (by first | rfl | (simp; done) | (simp [*]; done)), (by first | rfl | (simp; done) | (simp [*]; done)), H', ⟨by have := HK1.out; have := HK2.out; omega⟩, ⟨trivial⟩, by repeat (first | exact Drawn0.refl _ | apply Drawn0.step)⟩
      ·
       rw [if_neg c4] at H
       have c4b0 : decide (x5_2 < x6_1) = false := decide_eq_false c4
       clear c4
       simp only [Option.some.injEq, Prod.mk.injEq] at H
       obtain ⟨rfl, rfl, rfl⟩ := H
       go_wp2
       go_ret3
       exact ⟨by first | rfl | (simp; done) | (simp [*]; done), by repeat (first | exact Drawn0.refl _ | apply Drawn0.step)⟩

/-! ### spec_l02Table: function 64 -/
def spec_l02Table.f  : Option (List Int) := some (([0, 5327, 10496, 15514, 20391, 25134, 29751, 34248, 38631, 42906, 47078, 51152, 55132, 59022, 62827, 66551, 70196, 73765, 77263, 80691, 84053, 87350, 90587, 93763, 96883, 99947, 102958, 105917, 108827, 111688, 114504, 117274, 120000] : List Int))
set_option maxHeartbeats 8000000 in
set_option maxRecDepth 100000 in
theorem spec_l02Table.calls  (r : List Int) (w : World) (h : spec_l02Table.f  = some r) :
  Calls Tryd.prog 64 #[] w fun e w' => ∃ v0_ : Value, e = .returned (v0_) ∧ Kd.R (Kd.int .i64) 2 w' w.heap.size (fun _ => True) v0_ r ∧ Below w.heap.size w w' := by
 have HB := Aside0.mk (Below.refl w.heap.size w)
 have H : (some (([0, 5327, 10496, 15514, 20391, 25134, 29751, 34248, 38631, 42906, 47078, 51152, 55132, 59022, 62827, 66551, 70196, 73765, 77263, 80691, 84053, 87350, 90587, 93763, 96883, 99947, 102958, 105917, 108827, 111688, 114504, 117274, 120000] : List Int))) = some r := h
 clear h
 obtain ⟨y135, hy135⟩ : ∃ y_ : List Int, y_ = (([0, 5327, 10496, 15514, 20391, 25134, 29751, 34248, 38631, 42906, 47078, 51152, 55132, 59022, 62827, 66551, 70196, 73765, 77263, 80691, 84053, 87350, 90587, 93763, 96883, 99947, 102958, 105917, 108827, 111688, 114504, 117274, 120000] : List Int)) := ⟨_, rfl⟩
 replace H : (some y135) = some r := by first | (rw [hy135]; with_reducible exact H) | (have H2_ := (Option.bind_some _ _).symm.trans H; rw [hy135]; with_reducible exact H2_) | (have H2_ := (Option.bind_some _ _).symm.trans H; with_reducible exact H2_) | with_reducible exact H | (rw [hy135]; exact H) | exact H
 have Ny135 := Aside0.mk hy135
 clear hy135
 obtain rfl := Option.some.inj H
 go_enter Tryd.func64, Tryd.ntmps64
 go_wp2_with (first | ((with_reducible refine gate_dst (N := 1) rfl ?_); refine Kd.R_lit (Kd.int .i64) _ 2 ?hg (N := 1) ?hd (xs := ([0, 5327, 10496, 15514, 20391, 25134, 29751, 34248, 38631, 42906, 47078, 51152, 55132, 59022, 62827, 66551, 70196, 73765, 77263, 80691, 84053, 87350, 90587, 93763, 96883, 99947, 102958, 105917, 108827, 111688, 114504, 117274, 120000] : List Int)) (inner := [.int .i64 0, .int .i64 5327, .int .i64 10496, .int .i64 15514, .int .i64 20391, .int .i64 25134, .int .i64 29751, .int .i64 34248, .int .i64 38631, .int .i64 42906, .int .i64 47078, .int .i64 51152, .int .i64 55132, .int .i64 59022, .int .i64 62827, .int .i64 66551, .int .i64 70196, .int .i64 73765, .int .i64 77263, .int .i64 80691, .int .i64 84053, .int .i64 87350, .int .i64 90587, .int .i64 93763, .int .i64 96883, .int .i64 99947, .int .i64 102958, .int .i64 105917, .int .i64 108827, .int .i64 111688, .int .i64 114504, .int .i64 117274, .int .i64 120000]) (ok := fun _ => True) (okp := fun _ => True) ?hr ?hp (fun _ hk => hk) trivial (Below.refl _ _) (Nat.le_refl _) (by simp) ?_; (case hd => rfl); (case hg => rfl); (case hr => first | (go_simp; done) | (go_simp; rfl)); (case hp => exact (Reps.one (show Kd.M (Kd.int .i64) _ _ _ 0 [.int .i64 0] from rfl) (Reps.one (show Kd.M (Kd.int .i64) _ _ _ 5327 [.int .i64 5327] from rfl) (Reps.one (show Kd.M (Kd.int .i64) _ _ _ 10496 [.int .i64 10496] from rfl) (Reps.one (show Kd.M (Kd.int .i64) _ _ _ 15514 [.int .i64 15514] from rfl) (Reps.one (show Kd.M (Kd.int .i64) _ _ _ 20391 [.int .i64 20391] from rfl) (Reps.one (show Kd.M (Kd.int .i64) _ _ _ 25134 [.int .i64 25134] from rfl) (Reps.one (show Kd.M (Kd.int .i64) _ _ _ 29751 [.int .i64 29751] from rfl) (Reps.one (show Kd.M (Kd.int .i64) _ _ _ 34248 [.int .i64 34248] from rfl) (Reps.one (show Kd.M (Kd.int .i64) _ _ _ 38631 [.int .i64 38631] from rfl) (Reps.one (show Kd.M (Kd.int .i64) _ _ _ 42906 [.int .i64 42906] from rfl) (Reps.one (show Kd.M (Kd.int .i64) _ _ _ 47078 [.int .i64 47078] from rfl) (Reps.one (show Kd.M (Kd.int .i64) _ _ _ 51152 [.int .i64 51152] from rfl) (Reps.one (show Kd.M (Kd.int .i64) _ _ _ 55132 [.int .i64 55132] from rfl) (Reps.one (show Kd.M (Kd.int .i64) _ _ _ 59022 [.int .i64 59022] from rfl) (Reps.one (show Kd.M (Kd.int .i64) _ _ _ 62827 [.int .i64 62827] from rfl) (Reps.one (show Kd.M (Kd.int .i64) _ _ _ 66551 [.int .i64 66551] from rfl) (Reps.one (show Kd.M (Kd.int .i64) _ _ _ 70196 [.int .i64 70196] from rfl) (Reps.one (show Kd.M (Kd.int .i64) _ _ _ 73765 [.int .i64 73765] from rfl) (Reps.one (show Kd.M (Kd.int .i64) _ _ _ 77263 [.int .i64 77263] from rfl) (Reps.one (show Kd.M (Kd.int .i64) _ _ _ 80691 [.int .i64 80691] from rfl) (Reps.one (show Kd.M (Kd.int .i64) _ _ _ 84053 [.int .i64 84053] from rfl) (Reps.one (show Kd.M (Kd.int .i64) _ _ _ 87350 [.int .i64 87350] from rfl) (Reps.one (show Kd.M (Kd.int .i64) _ _ _ 90587 [.int .i64 90587] from rfl) (Reps.one (show Kd.M (Kd.int .i64) _ _ _ 93763 [.int .i64 93763] from rfl) (Reps.one (show Kd.M (Kd.int .i64) _ _ _ 96883 [.int .i64 96883] from rfl) (Reps.one (show Kd.M (Kd.int .i64) _ _ _ 99947 [.int .i64 99947] from rfl) (Reps.one (show Kd.M (Kd.int .i64) _ _ _ 102958 [.int .i64 102958] from rfl) (Reps.one (show Kd.M (Kd.int .i64) _ _ _ 105917 [.int .i64 105917] from rfl) (Reps.one (show Kd.M (Kd.int .i64) _ _ _ 108827 [.int .i64 108827] from rfl) (Reps.one (show Kd.M (Kd.int .i64) _ _ _ 111688 [.int .i64 111688] from rfl) (Reps.one (show Kd.M (Kd.int .i64) _ _ _ 114504 [.int .i64 114504] from rfl) (Reps.one (show Kd.M (Kd.int .i64) _ _ _ 117274 [.int .i64 117274] from rfl) (Reps.one (show Kd.M (Kd.int .i64) _ _ _ 120000 [.int .i64 120000] from rfl) (Reps.none _ _))))))))))))))))))))))))))))))))))); intro v136 w1 ho2 hb hg_ hnew_; clear hg_ hnew_; (first | rw [← Ny135.out] at ho2 | (simp only [Int.reduceToNat] at ho2; rw [← Ny135.out] at ho2)); have n0_ := Aside0.mk (Kd.R_lower ho2 (below_size (by repeat (first | (with_reducible first | exact HB.out | apply below_alloc | apply pw_below_drewN | apply below_drew1) | exact HB.out)))); have n1_ := Aside0.mk (below_step (by repeat (first | (with_reducible first | exact HB.out | apply below_alloc | apply pw_below_drewN | apply below_drew1) | exact HB.out)) hb); clear HB; have HO137 := n0_; have HB := n1_; clear n0_ n1_; clear hb ho2))
 go_ret
 exact ⟨_, by first | rfl | (simp [errW_none, errW_some] <;> rfl) | (simp [*, errW_none, errW_some] <;> rfl), by (with_reducible repeat (first | apply Kd.R_alloc | apply Kd.R_drewN | apply Kd.R_drew)); exact HO137.out, by repeat (first | (with_reducible first | exact HB.out | apply below_alloc | apply pw_below_drewN | apply below_drew1) | exact HB.out)⟩

/-! ### spec_l01Div: function 65 -/
def spec_l01Div.f (a0 : Int) (a1 : Int) : Option (Int) := if a1 < 0 then (if (wrap64 (-a0)) < 0 then (if (wrap64 (2 * (wrap64 (-a1)))) = 0 then (none) else (some (wrap64 (-(wrap64 (Int.tdiv (wrap64 ((wrap64 (-a1)) - (wrap64 (2 * (wrap64 (-a0)))))) (wrap64 (2 * (wrap64 (-a1)))))))))) else (if (wrap64 (2 * (wrap64 (-a1)))) = 0 then (none) else (some (wrap64 (Int.tdiv (wrap64 ((wrap64 (2 * (wrap64 (-a0)))) + (wrap64 (-a1)))) (wrap64 (2 * (wrap64 (-a1))))))))) else (if a0 < 0 then (if (wrap64 (2 * a1)) = 0 then (none) else (some (wrap64 (-(wrap64 (Int.tdiv (wrap64 (a1 - (wrap64 (2 * a0)))) (wrap64 (2 * a1)))))))) else (if (wrap64 (2 * a1)) = 0 then (none) else (some (wrap64 (Int.tdiv (wrap64 ((wrap64 (2 * a0)) + a1)) (wrap64 (2 * a1)))))))
set_option maxHeartbeats 8000000 in
set_option maxRecDepth 100000 in
theorem spec_l01Div.calls (a0 : Int) (a1 : Int) (r : Int) (w : World) (h : spec_l01Div.f a0 a1 = some r) :
  Calls Tryd.prog 65 #[.int .i64 a0, .int .i64 a1] w fun e w' => e = .returned (.int .i64 r) ∧ Drawn0 w w' := by
 have H : (if a1 < 0 then (if (wrap64 (-a0)) < 0 then (if (wrap64 (2 * (wrap64 (-a1)))) = 0 then (none) else (some (wrap64 (-(wrap64 (Int.tdiv (wrap64 ((wrap64 (-a1)) - (wrap64 (2 * (wrap64 (-a0)))))) (wrap64 (2 * (wrap64 (-a1)))))))))) else (if (wrap64 (2 * (wrap64 (-a1)))) = 0 then (none) else (some (wrap64 (Int.tdiv (wrap64 ((wrap64 (2 * (wrap64 (-a0)))) + (wrap64 (-a1)))) (wrap64 (2 * (wrap64 (-a1))))))))) else (if a0 < 0 then (if (wrap64 (2 * a1)) = 0 then (none) else (some (wrap64 (-(wrap64 (Int.tdiv (wrap64 (a1 - (wrap64 (2 * a0)))) (wrap64 (2 * a1)))))))) else (if (wrap64 (2 * a1)) = 0 then (none) else (some (wrap64 (Int.tdiv (wrap64 ((wrap64 (2 * a0)) + a1)) (wrap64 (2 * a1)))))))) = some r := h
 clear h
 by_cases c3 : a1 < 0
 ·
  rw [if_pos c3] at H
  have c3b0 : decide (a1 < 0) = true := decide_eq_true c3
  clear c3
  by_cases c4 : (wrap64 (-a0)) < 0
  ·
   rw [if_pos c4] at H
   have c4b0 : decide ((wrap64 (-a0)) < 0) = true := decide_eq_true c4
   clear c4
   by_cases c5 : (wrap64 (2 * (wrap64 (-a1)))) = 0
   ·
    rw [if_pos c5] at H
    exact absurd H (by simp)
   ·
    rw [if_neg c5] at H
    have c5b0 : ((wrap64 (2 * (wrap64 (-a1)))) == 0) = false := beq_eq_false_iff_ne.mpr c5
    have c5b1 : ((wrap64 (2 * (wrap64 (-a1)))) != 0) = true := bne_iff_ne.mpr c5
    obtain rfl := Option.some.inj H
    go_enter Tryd.func65, Tryd.ntmps65
    go_wp2
    go_ret
    exact ⟨by first | rfl | (simp; done) | (simp [*]; done), by repeat (first | exact Drawn0.refl _ | apply Drawn0.step)⟩
  ·
   rw [if_neg c4] at H
   have c4b0 : decide ((wrap64 (-a0)) < 0) = false := decide_eq_false c4
   clear c4
   by_cases c6 : (wrap64 (2 * (wrap64 (-a1)))) = 0
   ·
    rw [if_pos c6] at H
    exact absurd H (by simp)
   ·
    rw [if_neg c6] at H
    have c6b0 : ((wrap64 (2 * (wrap64 (-a1)))) == 0) = false := beq_eq_false_iff_ne.mpr c6
    have c6b1 : ((wrap64 (2 * (wrap64 (-a1)))) != 0) = true := bne_iff_ne.mpr c6
    obtain rfl := Option.some.inj H
    go_enter Tryd.func65, Tryd.ntmps65
    go_wp2
    go_ret
    exact ⟨by first | rfl | (simp; done) | (simp [*]; done), by repeat (first | exact Drawn0.refl _ | apply Drawn0.step)⟩
 ·
  rw [if_neg c3] at H
  have c3b0 : decide (a1 < 0) = false := decide_eq_false c3
  clear c3
  by_cases c7 : a0 < 0
  ·
   rw [if_pos c7] at H
   have c7b0 : decide (a0 < 0) = true := decide_eq_true c7
   clear c7
   by_cases c8 : (wrap64 (2 * a1)) = 0
   ·
    rw [if_pos c8] at H
    exact absurd H (by simp)
   ·
    rw [if_neg c8] at H
    have c8b0 : ((wrap64 (2 * a1)) == 0) = false := beq_eq_false_iff_ne.mpr c8
    have c8b1 : ((wrap64 (2 * a1)) != 0) = true := bne_iff_ne.mpr c8
    obtain rfl := Option.some.inj H
    go_enter Tryd.func65, Tryd.ntmps65
    go_wp2
    go_ret
    exact ⟨by first | rfl | (simp; done) | (simp [*]; done), by repeat (first | exact Drawn0.refl _ | apply Drawn0.step)⟩
  ·
   rw [if_neg c7] at H
   have c7b0 : decide (a0 < 0) = false := decide_eq_false c7
   clear c7
   by_cases c9 : (wrap64 (2 * a1)) = 0
   ·
    rw [if_pos c9] at H
    exact absurd H (by simp)
   ·
    rw [if_neg c9] at H
    have c9b0 : ((wrap64 (2 * a1)) == 0) = false := beq_eq_false_iff_ne.mpr c9
    have c9b1 : ((wrap64 (2 * a1)) != 0) = true := bne_iff_ne.mpr c9
    obtain rfl := Option.some.inj H
    go_enter Tryd.func65, Tryd.ntmps65
    go_wp2
    go_ret
    exact ⟨by first | rfl | (simp; done) | (simp [*]; done), by repeat (first | exact Drawn0.refl _ | apply Drawn0.step)⟩

end Go.Proofs.YtigjcobannhdlaaDoor.PFnExactEqualErrors
