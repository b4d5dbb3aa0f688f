-- Written by wip/myprint.py: the kit's print, with contracts of this session's own among the functions.
import Derived.Test.YtnmpkijibhidaaaPFnExactBlendx0
import Derived.Test.YtnmpkijibhidaaaPFnExactBlendx1
namespace Go.Proofs.Ytnmpkijibhidaaa.PFnExactBlend
open Go.RowKit Go.Proofs.YtnmpkijibhidaaaW.PrintWords Go.Proofs.YtnmpkijibhidaaaW.PrintLast Go.Proofs.YtnmpkijibhidaaaW.PrintMore
attribute [local go_sem] max2_int min2_int max_two min_two max_three min_three max_four min_four   -- for this text's walks alone
set_option linter.unusedVariables false
set_option linter.unusedSimpArgs false

/-! ### impl_Blend: function 16 (this session's own) -/
def impl_Blend.f (k : Nat) (a0 : Int) (a1 : Int) (a2 : Int) (a3 : Int) (a4 : Int) : Option (Int) := (impl_within.f a0 (-1000000) 1000000).bind fun t0 => (if t0 = true then ((impl_within.f a1 (-1000000) 1000000).bind fun t1 => (if t1 = true then ((impl_within.f a2 (-1000000) 1000000).bind fun t2 => (if t2 = true then ((impl_within.f a3 (-1000000) 1000000).bind fun t3 => (if t3 = true then (impl_blend.f k a0 a1 a2 a3 a4) else (some 0))) else (some 0))) else (some 0))) else (some 0))
theorem impl_Blend.mono : ∀ a0 a1 a2 a3 a4 k, LeO (impl_Blend.f k a0 a1 a2 a3 a4) (impl_Blend.f (k + 1) a0 a1 a2 a3 a4) := by
  intro a0 a1 a2 a3 a4 k
  unfold impl_Blend.f
  repeat' first
      | (with_reducible exact impl_blend.mono _ _ _ _ _ _)
      | (with_reducible exact LeO.refl _)
      | (with_reducible exact LeO.none _)
      | (with_reducible refine LeO.ite ?_ ?_)
      | (with_reducible refine LeO.bind ?_ (fun _ => ?_))
      | exact impl_blend.mono _ _ _ _ _ _
      | exact LeO.none _
      | refine LeO.ite ?_ ?_
      | refine LeO.bind ?_ (fun _ => ?_)
set_option maxHeartbeats 8000000 in
set_option maxRecDepth 100000 in
theorem impl_Blend.calls (k : Nat) (a0 : Int) (a1 : Int) (a2 : Int) (a3 : Int) (a4 : Int) (r : Int) (w : World) (h : impl_Blend.f k a0 a1 a2 a3 a4 = some r) :
    Calls Try.prog 16 #[.int .i64 a0, .int .i64 a1, .int .i64 a2, .int .i64 a3, .int .i64 a4] w fun e w' => e = .returned (.int .i64 r) ∧ Below w.heap.size w w' := by
  have HB := Aside0.mk (Below.refl w.heap.size w)
  unfold impl_Blend.f at h
  have i0 : ∀ w : World, (Instr.index 47 (.agg #[.int .i64 a0, .int .i64 a1, .int .i64 a2, .int .i64 a3]) (.int .i64 0)).run Try.prog w = .ok (.int .i64 a0) w := fun _ => by kernel_rfl
  have i1 : ∀ w : World, (Instr.index 47 (.agg #[.int .i64 a0, .int .i64 a1, .int .i64 a2, .int .i64 a3]) (.int .i64 1)).run Try.prog w = .ok (.int .i64 a1) w := fun _ => by kernel_rfl
  have i2 : ∀ w : World, (Instr.index 47 (.agg #[.int .i64 a0, .int .i64 a1, .int .i64 a2, .int .i64 a3]) (.int .i64 2)).run Try.prog w = .ok (.int .i64 a2) w := fun _ => by kernel_rfl
  have i3 : ∀ w : World, (Instr.index 47 (.agg #[.int .i64 a0, .int .i64 a1, .int .i64 a2, .int .i64 a3]) (.int .i64 3)).run Try.prog w = .ok (.int .i64 a3) w := fun _ => by kernel_rfl
  replace h := Option.bind_eq_some_iff.mp h; obtain ⟨t0, h0, h⟩ := h; have H0 := Aside0.mk h0; clear h0
  cases t0 with
  | false =>
    simp only [Bool.false_eq_true, if_false] at h
    obtain rfl := Option.some.inj h
    go_enter Try.func16, Try.ntmps16
    go_wp2
    refine wp_loop_rounds 1 ?_
    rw [rounds_succ]
    go_wp2_with ((go_at_call 45; (with_reducible refine (impl_within.calls a0 (-1000000) 1000000 false _ H0.out).mono ?_); rintro e w' ⟨rfl, nd, rfl⟩))
    go_ret
    exact ⟨by first | rfl | (simp; done) | (simp [*]; done), by repeat (first | exact Below.refl _ _ | exact HB.out | apply below_alloc | apply pw_below_drewN | apply below_drew1)⟩
  | true =>
    simp only [if_true] at h
    replace h := Option.bind_eq_some_iff.mp h; obtain ⟨t1, h1, h⟩ := h; have H1 := Aside0.mk h1; clear h1
    cases t1 with
    | false =>
      simp only [Bool.false_eq_true, if_false] at h
      obtain rfl := Option.some.inj h
      go_enter Try.func16, Try.ntmps16
      go_wp2
      refine wp_loop_rounds 2 ?_
      rw [rounds_succ]
      go_wp2_with ((go_at_call 45; (with_reducible refine (impl_within.calls a0 (-1000000) 1000000 true _ H0.out).mono ?_); rintro e w' ⟨rfl, nd, rfl⟩))
      rw [rounds_succ]
      go_wp2_with ((go_at_call 45; (with_reducible refine (impl_within.calls a1 (-1000000) 1000000 false _ H1.out).mono ?_); rintro e w' ⟨rfl, nd, rfl⟩))
      go_ret
      exact ⟨by first | rfl | (simp; done) | (simp [*]; done), by repeat (first | exact Below.refl _ _ | exact HB.out | apply below_alloc | apply pw_below_drewN | apply below_drew1)⟩
    | true =>
      simp only [if_true] at h
      replace h := Option.bind_eq_some_iff.mp h; obtain ⟨t2, h2, h⟩ := h; have H2 := Aside0.mk h2; clear h2
      cases t2 with
      | false =>
        simp only [Bool.false_eq_true, if_false] at h
        obtain rfl := Option.some.inj h
        go_enter Try.func16, Try.ntmps16
        go_wp2
        refine wp_loop_rounds 3 ?_
        rw [rounds_succ]
        go_wp2_with ((go_at_call 45; (with_reducible refine (impl_within.calls a0 (-1000000) 1000000 true _ H0.out).mono ?_); rintro e w' ⟨rfl, nd, rfl⟩))
        rw [rounds_succ]
        go_wp2_with ((go_at_call 45; (with_reducible refine (impl_within.calls a1 (-1000000) 1000000 true _ H1.out).mono ?_); rintro e w' ⟨rfl, nd, rfl⟩))
        rw [rounds_succ]
        go_wp2_with ((go_at_call 45; (with_reducible refine (impl_within.calls a2 (-1000000) 1000000 false _ H2.out).mono ?_); rintro e w' ⟨rfl, nd, rfl⟩))
        go_ret
        exact ⟨by first | rfl | (simp; done) | (simp [*]; done), by repeat (first | exact Below.refl _ _ | exact HB.out | apply below_alloc | apply pw_below_drewN | apply below_drew1)⟩
      | true =>
        simp only [if_true] at h
        replace h := Option.bind_eq_some_iff.mp h; obtain ⟨t3, h3, h⟩ := h; have H3 := Aside0.mk h3; clear h3
        cases t3 with
        | false =>
          simp only [Bool.false_eq_true, if_false] at h
          obtain rfl := Option.some.inj h
          go_enter Try.func16, Try.ntmps16
          go_wp2
          refine wp_loop_rounds 4 ?_
          rw [rounds_succ]
          go_wp2_with ((go_at_call 45; (with_reducible refine (impl_within.calls a0 (-1000000) 1000000 true _ H0.out).mono ?_); rintro e w' ⟨rfl, nd, rfl⟩))
          rw [rounds_succ]
          go_wp2_with ((go_at_call 45; (with_reducible refine (impl_within.calls a1 (-1000000) 1000000 true _ H1.out).mono ?_); rintro e w' ⟨rfl, nd, rfl⟩))
          rw [rounds_succ]
          go_wp2_with ((go_at_call 45; (with_reducible refine (impl_within.calls a2 (-1000000) 1000000 true _ H2.out).mono ?_); rintro e w' ⟨rfl, nd, rfl⟩))
          rw [rounds_succ]
          go_wp2_with ((go_at_call 45; (with_reducible refine (impl_within.calls a3 (-1000000) 1000000 false _ H3.out).mono ?_); rintro e w' ⟨rfl, nd, rfl⟩))
          go_ret
          exact ⟨by first | rfl | (simp; done) | (simp [*]; done), by repeat (first | exact Below.refl _ _ | exact HB.out | apply below_alloc | apply pw_below_drewN | apply below_drew1)⟩
        | true =>
          simp only [if_true] at h
          have H := Aside0.mk h
          clear h
          go_enter Try.func16, Try.ntmps16
          go_wp2
          refine wp_loop_rounds 5 ?_
          rw [rounds_succ]
          go_wp2_with ((go_at_call 45; (with_reducible refine (impl_within.calls a0 (-1000000) 1000000 true _ H0.out).mono ?_); rintro e w' ⟨rfl, nd, rfl⟩))
          rw [rounds_succ]
          go_wp2_with ((go_at_call 45; (with_reducible refine (impl_within.calls a1 (-1000000) 1000000 true _ H1.out).mono ?_); rintro e w' ⟨rfl, nd, rfl⟩))
          rw [rounds_succ]
          go_wp2_with ((go_at_call 45; (with_reducible refine (impl_within.calls a2 (-1000000) 1000000 true _ H2.out).mono ?_); rintro e w' ⟨rfl, nd, rfl⟩))
          rw [rounds_succ]
          go_wp2_with ((go_at_call 45; (with_reducible refine (impl_within.calls a3 (-1000000) 1000000 true _ H3.out).mono ?_); rintro e w' ⟨rfl, nd, rfl⟩))
          rw [rounds_succ]
          go_wp2_with (go_at_call 46; (with_reducible refine (impl_blend.calls k a0 a1 a2 a3 a4 r _ H.out).mono ?_); rintro e w' ⟨rfl, hb⟩)
          go_ret
          exact ⟨rfl, (by repeat (first | exact Below.refl _ _ | exact HB.out | apply below_alloc | apply pw_below_drewN | apply below_drew1) : Below w.heap.size w _).trans (hb.mono (by simp))⟩

/-! ### laws_FnExactBlend: function 3 -/
def laws_FnExactBlend.f (k : Nat) (a0 : Int) (a1 : Int) (a2 : Int) (a3 : Int) (a4 : Int) : Option (Bool) := (spec_Blend.f k a0 a1 a2 a3 a4).bind fun t110 => ((impl_Blend.f k a0 a1 a2 a3 a4).bind fun t111 => (if t111 = t110 then (some true) else (some false)))
theorem laws_FnExactBlend.mono : ∀ a0 a1 a2 a3 a4 k, LeO (laws_FnExactBlend.f k a0 a1 a2 a3 a4) (laws_FnExactBlend.f (k + 1) a0 a1 a2 a3 a4) := by
  intro a0 a1 a2 a3 a4 k
  unfold laws_FnExactBlend.f
  repeat' first
      | (with_reducible exact impl_Blend.mono _ _ _ _ _ _)
      | (with_reducible exact spec_Blend.mono _ _ _ _ _ _)
      | (with_reducible exact LeO.refl _)
      | (with_reducible exact LeO.none _)
      | (with_reducible refine LeO.ite ?_ ?_)
      | (with_reducible refine LeO.bind ?_ (fun _ => ?_))
      | exact impl_Blend.mono _ _ _ _ _ _
      | exact spec_Blend.mono _ _ _ _ _ _
      | exact LeO.none _
      | refine LeO.ite ?_ ?_
      | refine LeO.bind ?_ (fun _ => ?_)
set_option maxHeartbeats 8000000 in
set_option maxRecDepth 100000 in
theorem laws_FnExactBlend.calls (k : Nat) (a0 : Int) (a1 : Int) (a2 : Int) (a3 : Int) (a4 : Int) (w : World) (h : laws_FnExactBlend.f k a0 a1 a2 a3 a4 = some true) :
    Calls Try.prog 3 #[.int .i64 a0, .int .i64 a1, .int .i64 a2, .int .i64 a3, .int .i64 a4] w fun e w' => e = .returned (.bool true) ∧ Below w.heap.size w w' := by
  have HB := Aside0.mk (Below.refl w.heap.size w)
  have H : ((spec_Blend.f k a0 a1 a2 a3 a4).bind fun t110 => ((impl_Blend.f k a0 a1 a2 a3 a4).bind fun t111 => (if t111 = t110 then (some true) else (some false)))) = some true := h
  clear h
  replace H := Option.bind_eq_some_iff.mp H
  obtain ⟨t110, A60, H⟩ := H
  replace H : ((impl_Blend.f k a0 a1 a2 a3 a4).bind fun t111 => (if t111 = t110 then (some true) else (some false))) = some true := H
  have A6 := Aside0.mk A60
  clear A60
  replace H := Option.bind_eq_some_iff.mp H
  obtain ⟨t111, A70, H⟩ := H
  replace H : (if t111 = t110 then (some true) else (some false)) = some true := H
  have A7 := Aside0.mk A70
  clear A70
  by_cases c8 : t111 = t110
  · rw [if_pos c8] at H
    have c8b0 : (t111 == t110) = true := beq_iff_eq.mpr c8
    have c8b1 : (t111 != t110) = false := bne_eq_false_iff_eq.mpr c8
    clear c8
    clear H
    go_enter Try.func3, Try.ntmps3
    go_wp2_with (first | ((with_reducible refine gate_callee (f := 15) rfl ?_); refine goesL_ (some 18) rfl rfl Try.func15 (by kernel_rfl) rfl #[.int .i64 a0, .int .i64 a1, .int .i64 a2, .int .i64 a3, .int .i64 a4] rfl (by (try simp only [List.map_toArray, List.map_cons, List.map_nil]); first | done | rfl | (simp only [List.length_drop, List.length_take]; rfl)) ?_; (with_reducible refine (spec_Blend.calls k a0 a1 a2 a3 a4 t110 _ A6.out).mono ?_); rintro e w' ⟨rfl, ⟨nd, rfl⟩⟩; refine ⟨_, rfl, ?_⟩) | ((with_reducible refine gate_callee (f := 16) rfl ?_); refine goesL_ (some 24) rfl rfl Try.func16 (by kernel_rfl) rfl #[.int .i64 a0, .int .i64 a1, .int .i64 a2, .int .i64 a3, .int .i64 a4] rfl (by (try simp only [List.map_toArray, List.map_cons, List.map_nil]); first | done | rfl | (simp only [List.length_drop, List.length_take]; rfl)) ?_; (with_reducible refine (impl_Blend.calls k a0 a1 a2 a3 a4 t111 _ A7.out).mono ?_); rintro e w9 ⟨rfl, hb⟩; refine ⟨_, rfl, ?_⟩; have n0_ := Aside0.mk (below_step (by repeat (first | (with_reducible first | exact HB.out | apply below_alloc | apply pw_below_drewN | apply below_drew1) | exact HB.out)) hb); clear HB; have HB := n0_; clear n0_; (try clear hb); (try clear hb2); (try clear hk); (try clear hi)))
    go_ret
    exact ⟨by first | rfl | (simp [errW_none, errW_some] <;> rfl) | (simp [*, errW_none, errW_some] <;> rfl), by repeat (first | (with_reducible first | exact HB.out | apply below_alloc | apply pw_below_drewN | apply below_drew1) | exact HB.out)⟩
  · rw [if_neg c8] at H
    have c8b0 : (t111 == t110) = false := beq_eq_false_iff_ne.mpr c8
    have c8b1 : (t111 != t110) = true := bne_iff_ne.mpr c8
    exact absurd H (by simp)

/-- THE ONE PURE STATEMENT of laws_FnExactBlend: yours. -/
def laws_FnExactBlend.Pure : Prop := ∀ (a0 : Int) (a1 : Int) (a2 : Int) (a3 : Int) (a4 : Int), (Lit.int .i64 a0).wf = true → (Lit.int .i64 a1).wf = true → (Lit.int .i64 a2).wf = true → (Lit.int .i64 a3).wf = true → (Lit.int .i64 a4).wf = true → ∃ k, laws_FnExactBlend.f k a0 a1 a2 a3 a4 = some true
theorem laws_FnExactBlend.walk (P : laws_FnExactBlend.Pure) (a0 : Int) (a1 : Int) (a2 : Int) (a3 : Int) (a4 : Int) (w : World) (w0 : (Lit.int .i64 a0).wf = true) (w1 : (Lit.int .i64 a1).wf = true) (w2 : (Lit.int .i64 a2).wf = true) (w3 : (Lit.int .i64 a3).wf = true) (w4 : (Lit.int .i64 a4).wf = true) :
    Calls Try.prog 3 #[.int .i64 a0, .int .i64 a1, .int .i64 a2, .int .i64 a3, .int .i64 a4] w fun e w' => e = .returned (.bool true) ∧ Below w.heap.size w w' := by
  obtain ⟨k, h⟩ := P a0 a1 a2 a3 a4 w0 w1 w2 w3 w4
  refine (laws_FnExactBlend.calls k a0 a1 a2 a3 a4 w h).mono ?_
  rintro e w' ⟨rfl, hd⟩
  exact ⟨rfl, hd⟩

end Go.Proofs.Ytnmpkijibhidaaa.PFnExactBlend
