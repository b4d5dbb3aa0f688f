-- Written by wip/myprint.py: the kit's print, with contracts of this session's own among the functions.
import Derived.Test.YthdjfbhjlnplnaaPFnExactRootOfx0
namespace Go.Proofs.Ythdjfbhjlnplnaa.PFnExactRootOf
open Go.RowKit Go.Proofs.YthdjfbhjlnplnaaW.PrintWords Go.Proofs.YthdjfbhjlnplnaaW.PrintLast Go.Proofs.YthdjfbhjlnplnaaW.PrintMore
attribute [local go_sem] max2_int min2_int max_two min_two max_three min_three max_four min_four   -- for this text's walks alone
set_option linter.unusedVariables false
set_option linter.unusedSimpArgs false

/-! ### spec_l01Root: function 54 -/
def spec_l01Root.l0 : Nat → Int → Int → Int → Option (Int)
 | 0, _, _, _ => none
 | k + 1, x0, x3, x4 => if x3 < x4 then (if (wrap64 ((wrap64 (Int.tdiv (wrap64 ((wrap64 (x3 + x4)) + 1)) 2)) * (wrap64 (Int.tdiv (wrap64 ((wrap64 (x3 + x4)) + 1)) 2)))) ≤ x0 then (spec_l01Root.l0 k x0 (wrap64 (Int.tdiv (wrap64 ((wrap64 (x3 + x4)) + 1)) 2)) x4) else (spec_l01Root.l0 k x0 x3 (wrap64 ((wrap64 (Int.tdiv (wrap64 ((wrap64 (x3 + x4)) + 1)) 2)) - 1)))) else (some x3)
def spec_l01Root.f (k : Nat) (a0 : Int) : Option (Int) := spec_l01Root.l0 k a0 0 3037000499
theorem spec_l01Root.mono_l : ∀ k, (∀ y0 y1 y2, LeO (spec_l01Root.l0 k y0 y1 y2) (spec_l01Root.l0 (k + 1) y0 y1 y2))
 | 0 => fun _ _ _ r h => by simp [spec_l01Root.l0] at h
 | k + 1 => by
  have ih0 := spec_l01Root.mono_l k
  ·
   intro y0 y1 y2
   unfold spec_l01Root.l0
   repeat' first
   | (with_reducible exact ih0 _ _ _)
   | (with_reducible exact LeO.refl _)
   | (with_reducible exact LeO.none _)
   | (with_reducible refine LeO.ite ?_ ?_)
   | (with_reducible refine LeO.bind ?_ (fun _ => ?_))
   | exact ih0 _ _ _
   | exact LeO.none _
   | refine LeO.ite ?_ ?_
   | refine LeO.bind ?_ (fun _ => ?_)
theorem spec_l01Root.mono : ∀ a0 k, LeO (spec_l01Root.f k a0) (spec_l01Root.f (k + 1) a0) := by
 intro a0 k
 have ih0 := spec_l01Root.mono_l k
 unfold spec_l01Root.f
 repeat' first
   | (with_reducible exact ih0 _ _ _)
   | (with_reducible exact LeO.refl _)
   | (with_reducible exact LeO.none _)
   | (with_reducible refine LeO.ite ?_ ?_)
   | (with_reducible refine LeO.bind ?_ (fun _ => ?_))
   | exact ih0 _ _ _
   | exact LeO.none _
   | refine LeO.ite ?_ ?_
   | refine LeO.bind ?_ (fun _ => ?_)
set_option maxHeartbeats 8000000 in
set_option maxRecDepth 100000 in
theorem spec_l01Root.calls (k : Nat) (a0 : Int) (r : Int) (w : World) (h : spec_l01Root.f k a0 = some r) :
  Calls Try.prog 54 #[.int .i64 a0] w fun e w' => e = .returned (.int .i64 r) ∧ Drawn0 w w' := by
 have H : (spec_l01Root.l0 k a0 0 3037000499) = some r := h
 clear h
 have H' := Aside0.mk H
 clear H
 go_enter Try.func54, Try.ntmps54
 go_wp2
 go_loopg [3, 4] k (fun kq v3 v4 w' => ∃ (x3_1 : Int) (x4_1 : Int), v3 = .int .i64 x3_1 ∧ v4 = .int .i64 x4_1 ∧ Aside0 (spec_l01Root.l0 kq a0 x3_1 x4_1 = some r) ∧ Aside0 (kq ≤ k) ∧ Drawn0 w w')
 case atStart => exact ⟨(0), (3037000499), (by first | rfl | (simp; done) | (simp [*]; done)), (by first | rfl | (simp; done) | (simp [*]; done)), H', ⟨Nat.le_refl _⟩, by repeat (first | exact Drawn0.refl _ | apply Drawn0.step)⟩
 case round =>
  clear H'
  obtain ⟨x3_1, x4_1, rfl, rfl, HA, HK1, ⟨m1, rfl⟩⟩ := hrel
  cases gk with
  | zero => exact absurd HA.out (by simp [spec_l01Root.l0])
  | succ k1 =>
   have H := HA.out
   clear HA
   simp only [spec_l01Root.l0] at H
   by_cases c2 : x3_1 < x4_1
   ·
    rw [if_pos c2] at H
    have c2b0 : decide (x3_1 < x4_1) = true := decide_eq_true c2
    clear c2
    by_cases c3 : (wrap64 ((wrap64 (Int.tdiv (wrap64 ((wrap64 (x3_1 + x4_1)) + 1)) 2)) * (wrap64 (Int.tdiv (wrap64 ((wrap64 (x3_1 + x4_1)) + 1)) 2)))) ≤ a0
    ·
     rw [if_pos c3] at H
     have c3b0 : decide ((wrap64 ((wrap64 (Int.tdiv (wrap64 ((wrap64 (x3_1 + x4_1)) + 1)) 2)) * (wrap64 (Int.tdiv (wrap64 ((wrap64 (x3_1 + x4_1)) + 1)) 2)))) ≤ a0) = true := decide_eq_true c3
     clear c3
     have H' := Aside0.mk H
     clear H
     go_wp2
     go_roundg k1
     case measure => have := HK1.out; omega
     case rel => exact ⟨(wrap64 (Int.tdiv (wrap64 ((wrap64 (x3_1 + x4_1)) + 1)) 2)), (x4_1), (by first | rfl | (simp; done) | (simp [*]; done)), (by first | rfl | (simp; done) | (simp [*]; done)), H', ⟨by have := HK1.out; omega⟩, by repeat (first | exact Drawn0.refl _ | apply Drawn0.step)⟩
    ·
     rw [if_neg c3] at H
     have c3b0 : decide ((wrap64 ((wrap64 (Int.tdiv (wrap64 ((wrap64 (x3_1 + x4_1)) + 1)) 2)) * (wrap64 (Int.tdiv (wrap64 ((wrap64 (x3_1 + x4_1)) + 1)) 2)))) ≤ a0) = false := decide_eq_false c3
     clear c3
     have H' := Aside0.mk H
     clear H
     go_wp2
     go_roundg k1
     case measure => have := HK1.out; omega
     case rel => exact ⟨(x3_1), (wrap64 ((wrap64 (Int.tdiv (wrap64 ((wrap64 (x3_1 + x4_1)) + 1)) 2)) - 1)), (by first | rfl | (simp; done) | (simp [*]; done)), (by first | rfl | (simp; done) | (simp [*]; done)), H', ⟨by have := HK1.out; omega⟩, by repeat (first | exact Drawn0.refl _ | apply Drawn0.step)⟩
   ·
    rw [if_neg c2] at H
    have c2b0 : decide (x3_1 < x4_1) = false := decide_eq_false c2
    clear c2
    obtain rfl := Option.some.inj H
    go_wp2
    go_ret
    exact ⟨by first | rfl | (simp; done) | (simp [*]; done), by repeat (first | exact Drawn0.refl _ | apply Drawn0.step)⟩

/-! ### spec_RootOf: function 30 -/
def spec_RootOf.f (k : Nat) (a0 : Int) : Option (Int) := (spec_l01Root.f k a0).bind fun t101 => (some t101)
theorem spec_RootOf.mono : ∀ a0 k, LeO (spec_RootOf.f k a0) (spec_RootOf.f (k + 1) a0) := by
 intro a0 k
 unfold spec_RootOf.f
 repeat' first
   | (with_reducible exact spec_l01Root.mono _ _)
   | (with_reducible exact LeO.refl _)
   | (with_reducible exact LeO.none _)
   | (with_reducible refine LeO.ite ?_ ?_)
   | (with_reducible refine LeO.bind ?_ (fun _ => ?_))
   | exact spec_l01Root.mono _ _
   | exact LeO.none _
   | refine LeO.ite ?_ ?_
   | refine LeO.bind ?_ (fun _ => ?_)
set_option maxHeartbeats 8000000 in
set_option maxRecDepth 100000 in
theorem spec_RootOf.calls (k : Nat) (a0 : Int) (r : Int) (w : World) (h : spec_RootOf.f k a0 = some r) :
  Calls Try.prog 30 #[.int .i64 a0] w fun e w' => e = .returned (.int .i64 r) ∧ Drawn0 w w' := by
 have H : ((spec_l01Root.f k a0).bind fun t101 => (some t101)) = some r := h
 clear h
 replace H := Option.bind_eq_some_iff.mp H
 obtain ⟨t101, A20, H⟩ := H
 replace H : (some t101) = some r := H
 have A2 := Aside0.mk A20
 clear A20
 obtain rfl := Option.some.inj H
 go_enter Try.func30, Try.ntmps30
 go_wp2_with (first | ((with_reducible refine gate_callee (f := 54) rfl ?_); refine goesL_ (some 4) rfl rfl Try.func54 (by kernel_rfl) rfl #[.int .i64 a0] rfl (by (try simp only [List.map_toArray, List.map_cons, List.map_nil]); first | done | rfl | (simp only [List.length_drop, List.length_take]; rfl)) ?_; (with_reducible refine (spec_l01Root.calls k a0 t101 _ A2.out).mono ?_); rintro e w' ⟨rfl, ⟨nd, rfl⟩⟩; refine ⟨_, rfl, ?_⟩))
 go_ret
 exact ⟨by first | rfl | (simp; done) | (simp [*]; done), by repeat (first | exact Drawn0.refl _ | apply Drawn0.step)⟩

/-! ### sort_Search: function 55 (this session's own) -/
/-- What is asked of a function value over whole numbers: it answers as p says; it may make memory. -/
def sort_Search.FnB (g : Nat) (lb : Array Value) (p : Int → Option Bool) (w : World) : Prop :=
  ∀ (W : World) (x : Int) (r : Bool), Below w.heap.size w W → p x = some r → Calls Try.prog g (#[.int .i64 x] ++ lb) W fun e w' => e = .returned (.bool r) ∧ Below W.heap.size W w'
def sort_Search.l0 (p : Int → Option Bool) : Nat → Int → Int → Option Int
  | 0, _, _ => none
  | k + 1, i, j => if i < j then (if 0 ≤ i ∧ i + j < 4611686018427387904 then ((p ((i + j) / 2)).bind fun t => if t = true then sort_Search.l0 p k i ((i + j) / 2) else sort_Search.l0 p k ((i + j) / 2 + 1) j) else none) else some i
theorem sort_Search.mono_l (p p' : Int → Option Bool) (hp : ∀ n, LeO (p n) (p' n)) : ∀ k y0 y1, LeO (sort_Search.l0 p k y0 y1) (sort_Search.l0 p' (k + 1) y0 y1)
  | 0, _, _ => fun r h => by simp [sort_Search.l0] at h
  | k + 1, y0, y1 => by
    unfold sort_Search.l0
    exact LeO.ite (LeO.ite (LeO.bind (hp _) (fun _ => LeO.ite (sort_Search.mono_l p p' hp k _ _) (sort_Search.mono_l p p' hp k _ _))) (LeO.refl _)) (LeO.refl _)
set_option maxHeartbeats 8000000 in
set_option maxRecDepth 100000 in
theorem sort_Search.calls (p : Int → Option Bool) (g : Nat) (lb : Array Value) (eg : ∀ args w, (callFunc g args).run Try.prog w = .ok (.enter g args) w) (k : Nat) (a0 : Int) (r1 : Int) (w : World) (hp : sort_Search.FnB g lb p w) (h : sort_Search.l0 p k 0 a0 = some r1) :
    Calls Try.prog 55 #[.int .i64 a0, .func (.func g) #[] lb] w fun e w' => e = .returned (.int .i64 r1) ∧ Below w.heap.size w w' := by
  have H' := Aside0.mk h
  clear h
  have HP : Aside0 (∀ (W : World) (x : Int) (r : Bool), Below w.heap.size w W → p x = some r → Calls Try.prog g (#[.int .i64 x] ++ lb) W fun e w' => e = .returned (.bool r) ∧ Below W.heap.size W w') := ⟨hp⟩
  clear hp
  go_enter Try.func55, Try.ntmps55
  go_wp2
  go_loopg [5, 6] k (fun kq v5 v6 w' => ∃ (i j : Int), v5 = .int .i64 i ∧ v6 = .int .i64 j ∧ Aside0 (sort_Search.l0 p kq i j = some r1) ∧ Aside0 (kq ≤ k) ∧ Aside0 (Below w.heap.size w w'))
  case atStart => exact ⟨0, a0, (by first | rfl | (simp; done) | (simp [*]; done)), (by first | rfl | (simp; done) | (simp [*]; done)), H', ⟨Nat.le_refl _⟩, ⟨Below.refl _ _⟩⟩
  case round =>
    clear H'
    obtain ⟨i, j, rfl, rfl, HA, HK1, HB⟩ := hrel
    cases gk with
    | zero => exact absurd HA.out (by simp [sort_Search.l0])
    | succ k1 =>
      have H := HA.out
      clear HA
      simp only [sort_Search.l0] at H
      by_cases c3 : i < j
      · rw [if_pos c3] at H
        have hb : 0 ≤ i ∧ i + j < 4611686018427387904 := by
          by_cases hc : 0 ≤ i ∧ i + j < 4611686018427387904
          · exact hc
          · rw [if_neg hc] at H; exact absurd H (by simp)
        rw [if_pos hb] at H
        have c3b0 : decide (i < j) = true := decide_eq_true c3
        have e1 : wrap64 (i + j) = i + j := by unfold wrap64; omega
        have e2 : IntKind.u64.wrap (i + j) = i + j := by show (i + j) % 18446744073709551616 = i + j; omega
        have e3 : wrap64 ((i + j) / 2) = (i + j) / 2 := by unfold wrap64; omega
        have e4 : wrap64 ((i + j) / 2 + 1) = (i + j) / 2 + 1 := by unfold wrap64; omega
        clear hb c3
        replace H := Option.bind_eq_some_iff.mp H
        obtain ⟨t, h1, H⟩ := H
        have H1 := Aside0.mk h1
        clear h1
        cases t with
        | true =>
          simp only [if_true] at H
          have H2 := Aside0.mk H
          clear H
          go_wp2_with (go_at_fn g; (with_reducible refine (HP.out _ _ true HB.out H1.out).mono ?_); rintro e w' ⟨rfl, hb⟩; have HB2 := Aside0.mk hb; clear hb)
          go_roundg k1
          case measure => have := HK1.out; omega
          case rel => exact ⟨_, _, (by first | rfl | (simp; done) | (simp [*]; done)), (by first | rfl | (simp; done) | (simp [*]; done)), H2, ⟨by have := HK1.out; omega⟩, ⟨HB.out.trans (HB2.out.mono HB.out.size)⟩⟩
        | false =>
          simp only [Bool.false_eq_true, if_false] at H
          have H2 := Aside0.mk H
          clear H
          go_wp2_with (go_at_fn g; (with_reducible refine (HP.out _ _ false HB.out H1.out).mono ?_); rintro e w' ⟨rfl, hb⟩; have HB2 := Aside0.mk hb; clear hb)
          go_roundg k1
          case measure => have := HK1.out; omega
          case rel => exact ⟨_, _, (by first | rfl | (simp; done) | (simp [*]; done)), (by first | rfl | (simp; done) | (simp [*]; done)), H2, ⟨by have := HK1.out; omega⟩, ⟨HB.out.trans (HB2.out.mono HB.out.size)⟩⟩
      · rw [if_neg c3] at H
        have c3b0 : decide (i < j) = false := decide_eq_false c3
        clear c3
        obtain rfl := Option.some.inj H
        clear H
        go_wp2
        go_ret
        exact ⟨rfl, HB.out⟩

/-! ### impl_RootOf_1: function 56 (this session's own) -/
/-- The literal in RootOf. -/
def impl_RootOf_1.f (n : Int) (r : Int) : Option Bool := some (decide (n < wrap64 (wrap64 (r + 1) * wrap64 (r + 1))))
set_option maxHeartbeats 8000000 in
set_option maxRecDepth 100000 in
theorem impl_RootOf_1.calls {g0 : Nat} (n x : Int) (r : Bool) (w : World) (hg0 : w.heap[g0]? = some (.cells #[.int .i64 n] 2 (0, 0))) (h : impl_RootOf_1.f n x = some r) :
    Calls Try.prog 56 #[.int .i64 x, .pointer (some ⟨g0, 0, none⟩)] w fun e w' => e = .returned (.bool r) ∧ Below w.heap.size w w' := by
  have hx0 : w.cell? ⟨g0, 0, none⟩ = some (.int .i64 n) := (blk_cell hg0 0).trans rfl
  clear hg0
  unfold impl_RootOf_1.f at h
  obtain rfl := Option.some.inj h
  clear h
  go_enter Try.func56, Try.ntmps56
  go_wp2
  all_goals go_ret
  all_goals exact ⟨by first | rfl | (simp; done) | (simp [gt_iff_lt]; done), by repeat (first | exact Below.refl _ _ | apply below_alloc | apply pw_below_drewN | apply below_drew1)⟩

/-! ### impl_RootOf: function 31 (this session's own) -/
def impl_RootOf.f (k : Nat) (n : Int) : Option Int := if n < 0 then some 0 else sort_Search.l0 (fun r => impl_RootOf_1.f n r) k 0 3037000499
theorem impl_RootOf.mono : ∀ a0 k, LeO (impl_RootOf.f k a0) (impl_RootOf.f (k + 1) a0) := by
  intro a0 k
  unfold impl_RootOf.f
  exact LeO.ite (LeO.refl _) (sort_Search.mono_l _ _ (fun n => LeO.refl _) _ _ _)
set_option maxHeartbeats 8000000 in
set_option maxRecDepth 100000 in
theorem impl_RootOf.calls (k : Nat) (n : Int) (r : Int) (w : World) (h : impl_RootOf.f k n = some r) :
    Calls Try.prog 31 #[.int .i64 n] w fun e w' => e = .returned (.int .i64 r) ∧ Below w.heap.size w w' := by
  have hmf : ∀ (fn : Fn) (first cap : Array Value) (w : World), (Instr.makeFunc fn first cap).run Try.prog w = .ok (.func fn first cap) w := fun _ _ _ _ => rfl
  unfold impl_RootOf.f at h
  by_cases c : n < 0
  · rw [if_pos c] at h
    have cb : decide (n < 0) = true := decide_eq_true c
    clear c
    obtain rfl := Option.some.inj h
    clear h
    go_enter Try.func31, Try.ntmps31
    go_wp2
    go_ret
    exact ⟨rfl, by repeat (first | exact Below.refl _ _ | apply below_alloc | apply pw_below_drewN | apply below_drew1)⟩
  · rw [if_neg c] at h
    have cb : decide (n < 0) = false := decide_eq_false c
    clear c
    have H := Aside0.mk h
    clear h
    have eg : ∀ args w, (callFunc 56 args).run Try.prog w = .ok (.enter 56 args) w := enters_of Try.func56 (by kernel_rfl) rfl
    have FV : Aside0 (∀ W0 : World, W0.heap[w.heap.size]? = some (.cells #[.int .i64 n] 2 (0, 0)) →
          sort_Search.FnB 56 #[.pointer (some ⟨w.heap.size, 0, none⟩)] (fun r => impl_RootOf_1.f n r) W0) := ⟨by
        intro W0 hg0 W x r hW hx
        exact impl_RootOf_1.calls n x r W (hW.block _ (blk_lt hg0) |>.trans hg0) hx⟩
    go_enter Try.func31, Try.ntmps31
    go_wp2_with (go_at_call 55; (with_reducible refine (sort_Search.calls _ _ _ eg k _ r _ (FV.out _ ?side1) H.out).mono ?_); (case side1 => exact blk_new w _); rintro e w' ⟨rfl, hb⟩; have HB := Aside0.mk (show Below w.heap.size w w' from below_step (by repeat (first | exact Below.refl _ _ | apply below_alloc | apply pw_below_drewN | apply below_drew1)) hb); clear hb)
    go_ret
    exact ⟨rfl, HB.out⟩

/-! ### laws_FnExactRootOf: function 11 -/
def laws_FnExactRootOf.f (k : Nat) (a0 : Int) : Option (Bool) := (spec_RootOf.f k a0).bind fun t102 => ((impl_RootOf.f k a0).bind fun t103 => (if t103 = t102 then (some true) else (some false)))
theorem laws_FnExactRootOf.mono : ∀ a0 k, LeO (laws_FnExactRootOf.f k a0) (laws_FnExactRootOf.f (k + 1) a0) := by
 intro a0 k
 unfold laws_FnExactRootOf.f
 repeat' first
   | (with_reducible exact impl_RootOf.mono _ _)
   | (with_reducible exact spec_RootOf.mono _ _)
   | (with_reducible exact LeO.refl _)
   | (with_reducible exact LeO.none _)
   | (with_reducible refine LeO.ite ?_ ?_)
   | (with_reducible refine LeO.bind ?_ (fun _ => ?_))
   | exact impl_RootOf.mono _ _
   | exact spec_RootOf.mono _ _
   | exact LeO.none _
   | refine LeO.ite ?_ ?_
   | refine LeO.bind ?_ (fun _ => ?_)
set_option maxHeartbeats 8000000 in
set_option maxRecDepth 100000 in
theorem laws_FnExactRootOf.calls (k : Nat) (a0 : Int) (w : World) (h : laws_FnExactRootOf.f k a0 = some true) :
  Calls Try.prog 11 #[.int .i64 a0] w fun e w' => e = .returned (.bool true) ∧ Below w.heap.size w w' := by
 have HB := Aside0.mk (Below.refl w.heap.size w)
 have H : ((spec_RootOf.f k a0).bind fun t102 => ((impl_RootOf.f k a0).bind fun t103 => (if t103 = t102 then (some true) else (some false)))) = some true := h
 clear h
 replace H := Option.bind_eq_some_iff.mp H
 obtain ⟨t102, A20, H⟩ := H
 replace H : ((impl_RootOf.f k a0).bind fun t103 => (if t103 = t102 then (some true) else (some false))) = some true := H
 have A2 := Aside0.mk A20
 clear A20
 replace H := Option.bind_eq_some_iff.mp H
 obtain ⟨t103, A30, H⟩ := H
 replace H : (if t103 = t102 then (some true) else (some false)) = some true := H
 have A3 := Aside0.mk A30
 clear A30
 by_cases c4 : t103 = t102
 ·
  rw [if_pos c4] at H
  have c4b0 : (t103 == t102) = true := beq_iff_eq.mpr c4
  have c4b1 : (t103 != t102) = false := bne_eq_false_iff_eq.mpr c4
  clear c4
  clear H
  go_enter Try.func11, Try.ntmps11
  go_wp2_with (first | ((with_reducible refine gate_callee (f := 30) rfl ?_); refine goesL_ (some 6) rfl rfl Try.func30 (by kernel_rfl) rfl #[.int .i64 a0] rfl (by (try simp only [List.map_toArray, List.map_cons, List.map_nil]); first | done | rfl | (simp only [List.length_drop, List.length_take]; rfl)) ?_; (with_reducible refine (spec_RootOf.calls k a0 t102 _ A2.out).mono ?_); rintro e w' ⟨rfl, ⟨nd, rfl⟩⟩; refine ⟨_, rfl, ?_⟩) | ((with_reducible refine gate_callee (f := 31) rfl ?_); refine goesL_ (some 8) rfl rfl Try.func31 (by kernel_rfl) rfl #[.int .i64 a0] rfl (by (try simp only [List.map_toArray, List.map_cons, List.map_nil]); first | done | rfl | (simp only [List.length_drop, List.length_take]; rfl)) ?_; (with_reducible refine (impl_RootOf.calls k a0 t103 _ A3.out).mono ?_); rintro e w5 ⟨rfl, hb⟩; refine ⟨_, rfl, ?_⟩; have n0_ := Aside0.mk (below_step (by repeat (first | (with_reducible first | exact HB.out | apply below_alloc | apply pw_below_drewN | apply below_drew1) | exact HB.out)) hb); clear HB; have HB := n0_; clear n0_; (try clear hb); (try clear hb2); (try clear hk); (try clear hi)))
  go_ret
  exact ⟨by first | rfl | (simp [errW_none, errW_some] <;> rfl) | (simp [*, errW_none, errW_some] <;> rfl), by repeat (first | (with_reducible first | exact HB.out | apply below_alloc | apply pw_below_drewN | apply below_drew1) | exact HB.out)⟩
 ·
  rw [if_neg c4] at H
  have c4b0 : (t103 == t102) = false := beq_eq_false_iff_ne.mpr c4
  have c4b1 : (t103 != t102) = true := bne_iff_ne.mpr c4
  exact absurd H (by simp)

/-- THE ONE PURE STATEMENT of laws_FnExactRootOf: yours. -/
def laws_FnExactRootOf.Pure : Prop := ∀ (a0 : Int), (Lit.int .i64 a0).wf = true → ∃ k, laws_FnExactRootOf.f k a0 = some true
theorem laws_FnExactRootOf.walk (P : laws_FnExactRootOf.Pure) (a0 : Int) (w : World) (w0 : (Lit.int .i64 a0).wf = true) :
  Calls Try.prog 11 #[.int .i64 a0] w fun e w' => e = .returned (.bool true) ∧ Below w.heap.size w w' := by
 obtain ⟨k, h⟩ := P a0 w0
 refine (laws_FnExactRootOf.calls k a0 w h).mono ?_
 rintro e w' ⟨rfl, hd⟩
 exact ⟨rfl, hd⟩

end Go.Proofs.Ythdjfbhjlnplnaa.PFnExactRootOf
