-- Written by wip/myprint.py: the kit's print, with contracts of this session's own among the functions.
import Derived.Test.YtigjcobannhdlaaDoorPFnExactWorstFifthx0
import Derived.Test.YtigjcobannhdlaaDoorPFnExactWorstFifthx2
namespace Go.Proofs.YtigjcobannhdlaaDoor.PFnExactWorstFifth
open Go.RowKit Go.Proofs.YtigjcobannhdlaaDoorW.PrintWords Go.Proofs.YtigjcobannhdlaaDoorW.PrintLast Go.Proofs.YtigjcobannhdlaaDoorW.PrintMore
attribute [local go_sem] max2_int min2_int max_two min_two max_three min_three max_four min_four   -- for this text's walks alone
set_option linter.unusedVariables false
set_option linter.unusedSimpArgs false

/-! ### spec_l04Ok: function 26 (this session's own) -/
set_option maxHeartbeats 8000000 in
set_option maxRecDepth 100000 in
theorem spec_l02OkAt.calls (k : Nat) (p : Addr) (a0_0 : Int) (a0_1 : Int) (r : Bool) (w : World) (h0 : w.cell? p = some (.int .i64 a0_0)) (h1 : w.cell? ⟨p.block, p.off + 1, none⟩ = some (.int .i64 a0_1)) (h : spec_l02Ok.f k a0_0 a0_1 = some r) :
    Calls Tryd.prog 42 #[.pointer (some p)] w fun e w' => e = .returned (.bool r) ∧ Drawn0 w w' := by
  unfold spec_l02Ok.f at h
  replace h := Option.bind_eq_some_iff.mp h
  obtain ⟨t1, e1, h⟩ := h
  have A1 := Aside0.mk e1
  clear e1
  cases t1
  rotate_left
  simp only [if_true] at h
  replace h := Option.bind_eq_some_iff.mp h
  obtain ⟨t2, e2, h⟩ := h
  have A2 := Aside0.mk e2
  clear e2
  cases t2
  rotate_left
  simp only [if_true] at h
  replace h := Option.bind_eq_some_iff.mp h
  obtain ⟨v, e3, h⟩ := h
  have A3 := Aside0.mk e3
  clear e3
  all_goals (try simp only [Bool.false_eq_true, if_false] at h)
  all_goals
    obtain rfl := Option.some.inj h
    clear h
    go_enter Tryd.func42, Tryd.ntmps42
    go_wp2
    go_quiet (first | (go_at_call 61; (with_reducible refine (spec_l02Part.calls a0_0 _ _ A1.out).mono ?_); rintro e w' ⟨rfl, nd, rfl⟩; (try first | exact ⟨rfl, _, World.drewN_drewN _ _ _⟩ | exact ⟨rfl, _, Eq.trans (World.drewN_drewN _ _ _) (congrArg (World.drewN _) (Nat.add_assoc _ _ _))⟩)) | (go_at_call 61; (with_reducible refine (spec_l02Part.calls a0_1 _ _ A2.out).mono ?_); rintro e w' ⟨rfl, nd, rfl⟩; (try first | exact ⟨rfl, _, World.drewN_drewN _ _ _⟩ | exact ⟨rfl, _, Eq.trans (World.drewN_drewN _ _ _) (congrArg (World.drewN _) (Nat.add_assoc _ _ _))⟩)) | (go_at_call 62; (with_reducible refine (spec_l02Gcd.calls k a0_0 a0_1 _ _ A3.out).mono ?_); rintro e w' ⟨rfl, nd, rfl⟩; (try first | exact ⟨rfl, _, World.drewN_drewN _ _ _⟩ | exact ⟨rfl, _, Eq.trans (World.drewN_drewN _ _ _) (congrArg (World.drewN _) (Nat.add_assoc _ _ _))⟩)))
    go_wp2
    go_ret
    exact ⟨rfl, (by repeat (first | exact Drawn0.refl _ | apply Drawn0.step))⟩
set_option maxHeartbeats 8000000 in
set_option maxRecDepth 100000 in
theorem spec_l02CompareAt.calls (p q : Addr) (a0_0 : Int) (a0_1 : Int) (a1_0 : Int) (a1_1 : Int) (r : Int) (w : World) (h0 : w.cell? p = some (.int .i64 a0_0)) (h1 : w.cell? ⟨p.block, p.off + 1, none⟩ = some (.int .i64 a0_1)) (g0 : w.cell? q = some (.int .i64 a1_0)) (g1 : w.cell? ⟨q.block, q.off + 1, none⟩ = some (.int .i64 a1_1)) (h : spec_l02Compare.f a0_0 a0_1 a1_0 a1_1 = some r) :
    Calls Tryd.prog 43 #[.pointer (some p), .pointer (some q)] w fun e w' => e = .returned (.int .i64 r) ∧ Drawn0 w w' := by
  unfold spec_l02Compare.f at h
  obtain ⟨m, hm⟩ : ∃ m, wrap64 (a0_0 * a1_1) = m := ⟨_, rfl⟩
  obtain ⟨n, hn⟩ : ∃ n, wrap64 (a1_0 * a0_1) = n := ⟨_, rfl⟩
  rw [hm, hn] at h
  have hm2 : IntKind.i64.wrap (a0_0 * a1_1) = m := (i64_w _).trans hm
  have hn2 : IntKind.i64.wrap (a1_0 * a0_1) = n := (i64_w _).trans hn
  by_cases c1 : m < n
  · rw [if_pos c1] at h
    have c1b : decide (m < n) = true := decide_eq_true c1
    clear c1
    obtain rfl := Option.some.inj h
    clear h
    go_enter Tryd.func43, Tryd.ntmps43
    go_wp2
    repeat (go_quiet (fail); try go_wp2)
    go_ret
    exact ⟨rfl, (by repeat (first | exact Drawn0.refl _ | apply Drawn0.step))⟩
  · rw [if_neg c1] at h
    have c1b : decide (m < n) = false := decide_eq_false c1
    clear c1
    by_cases c2 : m > n
    · rw [if_pos c2] at h
      have c2b : decide (n < m) = true := decide_eq_true c2
      clear c2
      obtain rfl := Option.some.inj h
      clear h
      go_enter Tryd.func43, Tryd.ntmps43
      go_wp2
      repeat (go_quiet (fail); try go_wp2)
      go_ret
      exact ⟨rfl, (by repeat (first | exact Drawn0.refl _ | apply Drawn0.step))⟩
    · rw [if_neg c2] at h
      have c2b : decide (n < m) = false := decide_eq_false c2
      clear c2
      obtain rfl := Option.some.inj h
      clear h
      go_enter Tryd.func43, Tryd.ntmps43
      go_wp2
      repeat (go_quiet (fail); try go_wp2)
      go_ret
      exact ⟨rfl, (by repeat (first | exact Drawn0.refl _ | apply Drawn0.step))⟩
def spec_l04Ok.l0 : Nat → List (S59) → Int → Option (Bool)
  | 0, _, _ => none
  | k + 1, x, i => if i < (x.length : Int) then (if 0 ≤ i then ((spec_l02Ok.f k (rd_T59 x i).f0 (rd_T59 x i).f1).bind fun t => if t = true then (if (rd_T59 x i).f0 ≥ wrap64 (2 * (rd_T59 x i).f1) then some false else (if i > 0 then (if 0 ≤ wrap64 (i - 1) then (if wrap64 (i - 1) < (x.length : Int) then ((spec_l02Compare.f (rd_T59 x (wrap64 (i - 1))).f0 (rd_T59 x (wrap64 (i - 1))).f1 (rd_T59 x i).f0 (rd_T59 x i).f1).bind fun v => if v ≥ 0 then some false else spec_l04Ok.l0 k x (wrap64 (i + 1))) else none) else none) else spec_l04Ok.l0 k x (wrap64 (i + 1)))) else some false) else none) else (if 0 < (x.length : Int) then (if (rd_T59 x 0).f0 = 1 then some ((rd_T59 x 0).f1 == 1) else some false) else none)
def spec_l04Ok.f (k : Nat) (a0_0 : ByteArray) (l0_1 : List (S59)) : Option (Bool) := (spec_l01Name.f k a0_0).bind fun t => if t = true then (if (l0_1.length : Int) = 12 then spec_l04Ok.l0 k l0_1 0 else some false) else some false
theorem spec_l04Ok.mono_l : ∀ k y0 y1, LeO (spec_l04Ok.l0 k y0 y1) (spec_l04Ok.l0 (k + 1) y0 y1)
  | 0, _, _ => fun r h => by simp [spec_l04Ok.l0] at h
  | k + 1, y0, y1 => by
    unfold spec_l04Ok.l0
    repeat' first
      | (with_reducible exact spec_l04Ok.mono_l _ _ _)
      | (with_reducible exact spec_l02Ok.mono _ _ _)
      | (with_reducible exact LeO.refl _)
      | (with_reducible exact LeO.none _)
      | (with_reducible refine LeO.ite ?_ ?_)
      | (with_reducible refine LeO.bind ?_ (fun _ => ?_))
theorem spec_l04Ok.mono : ∀ a0 a1 k, LeO (spec_l04Ok.f k a0 a1) (spec_l04Ok.f (k + 1) a0 a1) := fun a0 a1 k => LeO.bind (spec_l01Name.mono _ _) (fun _ => LeO.ite (LeO.ite (spec_l04Ok.mono_l k a1 0) (LeO.refl _)) (LeO.refl _))
theorem spec_l04Ok.cells {W : World} {g t : Nat} {x0 x1 : Value} (h : W.heap[g]? = some (.cells #[x0, x1] t (0, 0))) : (W.cell? ⟨g, 0, none⟩ = some x0 ∧ W.frozen? ⟨g, 0, none⟩ = false) ∧ W.cell? ⟨g, 1, none⟩ = some x1 ∧ W.frozen? ⟨g, 1, none⟩ = false :=
  ⟨⟨(blk_cell h 0).trans rfl, blk_frozen h 0⟩, (blk_cell h 1).trans rfl, blk_frozen h 1⟩
set_option maxHeartbeats 8000000 in
set_option maxRecDepth 100000 in
theorem spec_l04Ok.calls (k : Nat) {g0 : Nat} (a0_0 : ByteArray) (A0_1 : Option Addr) (c0_1 : Nat) (l0_1 : List (S59)) (r : Bool) (w : World) (hg0 : w.heap[g0]? = some (.cells #[.string a0_0, .slice A0_1 l0_1.length c0_1] 30 (0, 0))) (hr0_1 : Kd.C k59 w A0_1 l0_1.length l0_1) (hc0_1 : l0_1.length ≤ c0_1) (h : spec_l04Ok.f k a0_0 l0_1 = some r) :
    Calls Tryd.prog 26 #[.pointer (some ⟨g0, 0, none⟩)] w fun e w' => e = .returned (.bool r) ∧ Drawn0 w w' := by
  have HR := Aside0.mk hr0_1
  have BK := Aside0.mk hg0
  have HM : Aside0 (l0_1.length ≤ 9223372036854775807) := ⟨Kd.C_max hr0_1⟩
  clear hr0_1 hc0_1 hg0
  unfold spec_l04Ok.f at h
  replace h := Option.bind_eq_some_iff.mp h
  obtain ⟨t1, h1, h⟩ := h
  have A1 := Aside0.mk h1
  clear h1
  obtain ⟨⟨g0c, f0⟩, g1c, f1⟩ := spec_l04Ok.cells BK.out
  cases t1 with
  | false =>
    simp only [Bool.false_eq_true, if_false] at h
    obtain rfl := Option.some.inj h
    clear h
    go_enter Tryd.func26, Tryd.ntmps26
    go_wp2_with (go_at_call 41; (with_reducible refine (spec_l01Name.calls k a0_0 _ _ A1.out).mono ?_); rintro e w' ⟨rfl, ⟨nd, rfl⟩⟩)
    go_ret
    exact ⟨rfl, (by repeat (first | exact Drawn0.refl _ | apply Drawn0.step))⟩
  | true =>
    simp only [if_true] at h
    by_cases c2 : (l0_1.length : Int) = 12
    rotate_left
    · rw [if_neg c2] at h
      have c2b : ((l0_1.length : Int) == 12) = false := beq_eq_false_iff_ne.mpr c2
      have c2d : ((l0_1.length : Int) != 12) = true := bne_iff_ne.mpr c2
      clear c2
      obtain rfl := Option.some.inj h
      clear h
      go_enter Tryd.func26, Tryd.ntmps26
      go_wp2_with (go_at_call 41; (with_reducible refine (spec_l01Name.calls k a0_0 _ _ A1.out).mono ?_); rintro e w' ⟨rfl, ⟨nd, rfl⟩⟩)
      go_ret
      exact ⟨rfl, (by repeat (first | exact Drawn0.refl _ | apply Drawn0.step))⟩
    · rw [if_pos c2] at h
      have c2b : ((l0_1.length : Int) == 12) = true := beq_iff_eq.mpr c2
      have c2d : ((l0_1.length : Int) != 12) = false := bne_eq_false_iff_eq.mpr c2
      clear c2
      have H' := Aside0.mk h
      clear h
      go_enter Tryd.func26, Tryd.ntmps26
      go_wp2_with (go_at_call 41; (with_reducible refine (spec_l01Name.calls k a0_0 _ _ A1.out).mono ?_); rintro e w' ⟨rfl, ⟨nd, rfl⟩⟩)
      go_loopg [3] k (fun kq v3 w' => ∃ (x : Int), v3 = .int .i64 x ∧ Aside0 (spec_l04Ok.l0 kq l0_1 x = some r) ∧ Aside0 (kq ≤ k) ∧ Drawn0 w w')
      case atStart => exact ⟨0, (by first | rfl | (simp; done) | (simp [*]; done)), H', ⟨Nat.le_refl _⟩, (by repeat (first | exact Drawn0.refl _ | apply Drawn0.step))⟩
      case round =>
        clear H' c2b c2d
        obtain ⟨x, rfl, HA, HK1, ⟨n, rfl⟩⟩ := hrel
        cases gk with
        | zero => exact absurd HA.out (by simp [spec_l04Ok.l0])
        | succ k1 =>
          have H := HA.out
          clear HA
          simp only [spec_l04Ok.l0] at H
          by_cases c0 : x < (l0_1.length : Int)
          · rw [if_pos c0] at H
            have c0b : decide (x < (l0_1.length : Int)) = true := decide_eq_true c0
            by_cases c1 : 0 ≤ x
            · rw [if_pos c1] at H
              obtain ⟨ad, e, hx0, hx1⟩ := at_T59 HR.out x c1 c0
              cases e
              obtain ⟨p, hp⟩ : ∃ p, ad.add (x.toNat * 2) = p := ⟨_, rfl⟩
              rw [hp] at hx0 hx1
              have p1 := eq_true c1
              have q1 := eq_true c0
              replace H := Option.bind_eq_some_iff.mp H
              obtain ⟨t, h0, H⟩ := H
              have A0h := Aside0.mk h0
              clear h0
              cases t with
              | false =>
                simp only [Bool.false_eq_true, if_false] at H
                obtain rfl := Option.some.inj H
                clear H c0 c1
                go_wp2
                go_quiet ((go_at_call 42; (with_reducible refine (spec_l02OkAt.calls k1 p _ _ _ _ ?sx ?sy A0h.out).mono ?_); (case sx => exact hx0); (case sy => exact hx1); rintro e w' ⟨rfl, nd, rfl⟩; (try first | exact ⟨rfl, _, World.drewN_drewN _ _ _⟩ | exact ⟨rfl, _, Eq.trans (World.drewN_drewN _ _ _) (congrArg (World.drewN _) (Nat.add_assoc _ _ _))⟩)))
                go_wp2
                go_ret
                exact ⟨rfl, (by repeat (first | exact Drawn0.refl _ | apply Drawn0.step))⟩
              | true =>
                simp only [if_true] at H
                obtain ⟨m, hm⟩ : ∃ m, wrap64 (2 * (rd_T59 l0_1 x).f1) = m := ⟨_, rfl⟩
                rw [hm] at H
                have hm2 : IntKind.i64.wrap (2 * (rd_T59 l0_1 x).f1) = m := (i64_w _).trans hm
                by_cases c3 : (rd_T59 l0_1 x).f0 ≥ m
                · rw [if_pos c3] at H
                  have c3b : decide (m ≤ (rd_T59 l0_1 x).f0) = true := decide_eq_true c3
                  clear c3 c0 c1
                  obtain rfl := Option.some.inj H
                  clear H
                  go_wp2
                  go_quiet ((go_at_call 42; (with_reducible refine (spec_l02OkAt.calls k1 p _ _ _ _ ?sx ?sy A0h.out).mono ?_); (case sx => exact hx0); (case sy => exact hx1); rintro e w' ⟨rfl, nd, rfl⟩; (try first | exact ⟨rfl, _, World.drewN_drewN _ _ _⟩ | exact ⟨rfl, _, Eq.trans (World.drewN_drewN _ _ _) (congrArg (World.drewN _) (Nat.add_assoc _ _ _))⟩)))
                  go_wp2
                  go_ret
                  exact ⟨rfl, (by repeat (first | exact Drawn0.refl _ | apply Drawn0.step))⟩
                · rw [if_neg c3] at H
                  have c3b : decide (m ≤ (rd_T59 l0_1 x).f0) = false := decide_eq_false c3
                  clear c3
                  by_cases c4 : x > 0
                  · rw [if_pos c4] at H
                    have c4b : decide (0 < x) = true := decide_eq_true c4
                    obtain ⟨j, hj⟩ : ∃ j : Int, j = x - 1 := ⟨_, rfl⟩
                    have hw : wrap64 (x - 1) = j := by have := HM.out; subst hj; unfold wrap64; omega
                    rw [hw, if_pos (by omega), if_pos (by omega)] at H
                    have hw2 : IntKind.i64.wrap (x - 1) = j := (i64_w _).trans hw
                    have p3 := eq_true (show 0 ≤ j by omega)
                    have q3 := eq_true (show j < (l0_1.length : Int) by omega)
                    obtain ⟨ad4, e4, hy0, hy1⟩ := at_T59 HR.out j (by omega) (by omega)
                    obtain rfl : ad = ad4 := by injection e4
                    obtain ⟨q, hq⟩ : ∃ q, ad.add (j.toNat * 2) = q := ⟨_, rfl⟩
                    rw [hq] at hy0 hy1
                    clear e4 hj hw c4 c0 c1
                    replace H := Option.bind_eq_some_iff.mp H
                    obtain ⟨v, h3, H⟩ := H
                    have A3h := Aside0.mk h3
                    clear h3
                    by_cases c5 : v ≥ 0
                    · rw [if_pos c5] at H
                      have c5b : decide (0 ≤ v) = true := decide_eq_true c5
                      clear c5
                      obtain rfl := Option.some.inj H
                      clear H
                      go_wp2
                      go_quiet (first | (go_at_call 42; (with_reducible refine (spec_l02OkAt.calls k1 p _ _ _ _ ?sx ?sy A0h.out).mono ?_); (case sx => exact hx0); (case sy => exact hx1); rintro e w' ⟨rfl, nd, rfl⟩; (try first | exact ⟨rfl, _, World.drewN_drewN _ _ _⟩ | exact ⟨rfl, _, Eq.trans (World.drewN_drewN _ _ _) (congrArg (World.drewN _) (Nat.add_assoc _ _ _))⟩)) | (go_at_call 43; (with_reducible refine (spec_l02CompareAt.calls q p _ _ _ _ _ _ ?s0 ?s1 ?sx ?sy A3h.out).mono ?_); (case s0 => exact hy0); (case s1 => exact hy1); (case sx => exact hx0); (case sy => exact hx1); rintro e w' ⟨rfl, nd, rfl⟩; (try first | exact ⟨rfl, _, World.drewN_drewN _ _ _⟩ | exact ⟨rfl, _, Eq.trans (World.drewN_drewN _ _ _) (congrArg (World.drewN _) (Nat.add_assoc _ _ _))⟩)))
                      go_wp2
                      go_ret
                      exact ⟨rfl, (by repeat (first | exact Drawn0.refl _ | apply Drawn0.step))⟩
                    · rw [if_neg c5] at H
                      have c5b : decide (0 ≤ v) = false := decide_eq_false c5
                      clear c5
                      have H' := Aside0.mk H
                      clear H
                      go_wp2
                      go_quiet (first | (go_at_call 42; (with_reducible refine (spec_l02OkAt.calls k1 p _ _ _ _ ?sx ?sy A0h.out).mono ?_); (case sx => exact hx0); (case sy => exact hx1); rintro e w' ⟨rfl, nd, rfl⟩; (try first | exact ⟨rfl, _, World.drewN_drewN _ _ _⟩ | exact ⟨rfl, _, Eq.trans (World.drewN_drewN _ _ _) (congrArg (World.drewN _) (Nat.add_assoc _ _ _))⟩)) | (go_at_call 43; (with_reducible refine (spec_l02CompareAt.calls q p _ _ _ _ _ _ ?s0 ?s1 ?sx ?sy A3h.out).mono ?_); (case s0 => exact hy0); (case s1 => exact hy1); (case sx => exact hx0); (case sy => exact hx1); rintro e w' ⟨rfl, nd, rfl⟩; (try first | exact ⟨rfl, _, World.drewN_drewN _ _ _⟩ | exact ⟨rfl, _, Eq.trans (World.drewN_drewN _ _ _) (congrArg (World.drewN _) (Nat.add_assoc _ _ _))⟩)))
                      go_wp2
                      go_roundg k1
                      case measure => have := HK1.out; omega
                      case rel => exact ⟨_, (by first | rfl | (simp; done) | (simp [*]; done)), H', ⟨by have := HK1.out; omega⟩, (by repeat (first | exact Drawn0.refl _ | apply Drawn0.step))⟩
                  · rw [if_neg c4] at H
                    have c4b : decide (0 < x) = false := decide_eq_false c4
                    clear c4 c0 c1
                    have H' := Aside0.mk H
                    clear H
                    go_wp2
                    go_quiet ((go_at_call 42; (with_reducible refine (spec_l02OkAt.calls k1 p _ _ _ _ ?sx ?sy A0h.out).mono ?_); (case sx => exact hx0); (case sy => exact hx1); rintro e w' ⟨rfl, nd, rfl⟩; (try first | exact ⟨rfl, _, World.drewN_drewN _ _ _⟩ | exact ⟨rfl, _, Eq.trans (World.drewN_drewN _ _ _) (congrArg (World.drewN _) (Nat.add_assoc _ _ _))⟩)))
                    go_wp2
                    go_roundg k1
                    case measure => have := HK1.out; omega
                    case rel => exact ⟨_, (by first | rfl | (simp; done) | (simp [*]; done)), H', ⟨by have := HK1.out; omega⟩, (by repeat (first | exact Drawn0.refl _ | apply Drawn0.step))⟩
            · rw [if_neg c1] at H; exact absurd H (by simp)
          · rw [if_neg c0] at H
            have c0b : decide (x < (l0_1.length : Int)) = false := decide_eq_false c0
            clear c0
            by_cases c1 : 0 < (l0_1.length : Int)
            · rw [if_pos c1] at H
              obtain ⟨ad, e, hx0, hx1⟩ := at_T59 HR.out 0 (by omega) c1
              cases e
              rw [show (0 : Int).toNat * 2 = 0 from rfl, Addr.add_zero'] at hx0 hx1
              have n1 : (0 < l0_1.length) = True := eq_true (by omega)
              have n2 := eq_true c1
              clear c1
              by_cases c3 : (rd_T59 l0_1 0).f0 = 1
              · rw [if_pos c3] at H
                have c3b : ((rd_T59 l0_1 0).f0 == 1) = true := beq_iff_eq.mpr c3
                clear c3
                obtain rfl := Option.some.inj H
                clear H
                go_wp2
                go_ret
                exact ⟨by first | rfl | (simp; done) | (simp [*]; done), (by repeat (first | exact Drawn0.refl _ | apply Drawn0.step))⟩
              · rw [if_neg c3] at H
                have c3b : ((rd_T59 l0_1 0).f0 == 1) = false := beq_eq_false_iff_ne.mpr c3
                clear c3
                obtain rfl := Option.some.inj H
                clear H
                go_wp2
                go_ret
                exact ⟨by first | rfl | (simp; done) | (simp [*]; done), (by repeat (first | exact Drawn0.refl _ | apply Drawn0.step))⟩
            · rw [if_neg c1] at H; exact absurd H (by simp)

/-! ### spec_l03Tone: function 46 -/
def spec_l03Tone.f (a0 : Int) : Option (Int) := some (Int.tmod (wrap64 ((Int.tmod a0 12) + 12)) 12)
set_option maxHeartbeats 8000000 in
set_option maxRecDepth 100000 in
theorem spec_l03Tone.calls (a0 : Int) (r : Int) (w : World) (h : spec_l03Tone.f a0 = some r) :
  Calls Tryd.prog 46 #[.int .i64 a0] w fun e w' => e = .returned (.int .i64 r) ∧ Drawn0 w w' := by
 have H : (some (Int.tmod (wrap64 ((Int.tmod a0 12) + 12)) 12)) = some r := h
 clear h
 obtain rfl := Option.some.inj H
 go_enter Tryd.func46, Tryd.ntmps46
 go_wp2
 go_ret
 exact ⟨by first | rfl | (simp; done) | (simp [*]; done), by repeat (first | exact Drawn0.refl _ | apply Drawn0.step)⟩

/-! ### spec_l03Floor: function 44 -/
def spec_l03Floor.f (a0 : Int) : Option (Int) := (spec_l03Tone.f a0).bind fun t110 => (some (wrap64 (Int.tdiv (wrap64 (a0 - t110)) 12)))
set_option maxHeartbeats 8000000 in
set_option maxRecDepth 100000 in
theorem spec_l03Floor.calls (a0 : Int) (r : Int) (w : World) (h : spec_l03Floor.f a0 = some r) :
  Calls Tryd.prog 44 #[.int .i64 a0] w fun e w' => e = .returned (.int .i64 r) ∧ Drawn0 w w' := by
 have H : ((spec_l03Tone.f a0).bind fun t110 => (some (wrap64 (Int.tdiv (wrap64 (a0 - t110)) 12)))) = some r := h
 clear h
 replace H := Option.bind_eq_some_iff.mp H
 obtain ⟨t110, A20, H⟩ := H
 replace H : (some (wrap64 (Int.tdiv (wrap64 (a0 - t110)) 12))) = some r := H
 have A2 := Aside0.mk A20
 clear A20
 obtain rfl := Option.some.inj H
 go_enter Tryd.func44, Tryd.ntmps44
 go_wp2_with (first | ((with_reducible refine gate_callee (f := 46) rfl ?_); refine goesL_ (some 5) rfl rfl Tryd.func46 (by kernel_rfl) rfl #[.int .i64 a0] rfl (by (try simp only [List.map_toArray, List.map_cons, List.map_nil]); first | done | rfl | (simp only [List.length_drop, List.length_take]; rfl)) ?_; (with_reducible refine (spec_l03Tone.calls a0 t110 _ A2.out).mono ?_); rintro e w' ⟨rfl, ⟨nd, rfl⟩⟩; refine ⟨_, rfl, ?_⟩))
 go_ret
 exact ⟨by first | rfl | (simp; done) | (simp [*]; done), by repeat (first | exact Drawn0.refl _ | apply Drawn0.step)⟩

/-! ### spec_l02Octave: function 63 -/
mutual
def spec_l02Octave.l0 : Nat → Int → Int → Int → Option (Int × Int × Int)
 | 0, _, _, _ => none
 | k + 1, x5, x6, x7 => if x5 ≥ (wrap64 (2 * x6)) then (spec_l02Octave.l0 k x5 (wrap64 (x6 * 2)) (wrap64 (x7 + 1))) else (spec_l02Octave.l1 k x5 x6 x7)
def spec_l02Octave.l1 : Nat → Int → Int → Int → Option (Int × Int × Int)
 | 0, _, _, _ => none
 | k + 1, x5, x6, x7 => if x5 < x6 then (spec_l02Octave.l1 k (wrap64 (x5 * 2)) x6 (wrap64 (x7 - 1))) else (some (x5, x6, x7))
end
def spec_l02Octave.f (k : Nat) (a0_0 : Int) (a0_1 : Int) : Option (Int × Int × Int) := spec_l02Octave.l0 k a0_0 a0_1 0
theorem spec_l02Octave.mono_l : ∀ k, (∀ y0 y1 y2, LeO (spec_l02Octave.l0 k y0 y1 y2) (spec_l02Octave.l0 (k + 1) y0 y1 y2)) ∧ (∀ y0 y1 y2, LeO (spec_l02Octave.l1 k y0 y1 y2) (spec_l02Octave.l1 (k + 1) y0 y1 y2))
 | 0 => ⟨fun _ _ _ r h => by simp [spec_l02Octave.l0] at h, fun _ _ _ r h => by simp [spec_l02Octave.l1] at h⟩
 | k + 1 => by
  obtain ⟨ih0, ih1⟩ := spec_l02Octave.mono_l k
  refine ⟨?_, ?_⟩
  ·
   intro y0 y1 y2
   unfold spec_l02Octave.l0
   repeat' first
   | (with_reducible exact ih0 _ _ _)
   | (with_reducible exact ih1 _ _ _)
   | (with_reducible exact LeO.refl _)
   | (with_reducible exact LeO.none _)
   | (with_reducible refine LeO.ite ?_ ?_)
   | (with_reducible refine LeO.bind ?_ (fun _ => ?_))
   | exact ih0 _ _ _
   | exact ih1 _ _ _
   | exact LeO.none _
   | refine LeO.ite ?_ ?_
   | refine LeO.bind ?_ (fun _ => ?_)
  ·
   intro y0 y1 y2
   unfold spec_l02Octave.l1
   repeat' first
   | (with_reducible exact ih0 _ _ _)
   | (with_reducible exact ih1 _ _ _)
   | (with_reducible exact LeO.refl _)
   | (with_reducible exact LeO.none _)
   | (with_reducible refine LeO.ite ?_ ?_)
   | (with_reducible refine LeO.bind ?_ (fun _ => ?_))
   | exact ih0 _ _ _
   | exact ih1 _ _ _
   | exact LeO.none _
   | refine LeO.ite ?_ ?_
   | refine LeO.bind ?_ (fun _ => ?_)
theorem spec_l02Octave.mono : ∀ a0 a1 k, LeO (spec_l02Octave.f k a0 a1) (spec_l02Octave.f (k + 1) a0 a1) := by
 intro a0 a1 k
 obtain ⟨ih0, ih1⟩ := spec_l02Octave.mono_l k
 unfold spec_l02Octave.f
 repeat' first
   | (with_reducible exact ih0 _ _ _)
   | (with_reducible exact ih1 _ _ _)
   | (with_reducible exact LeO.refl _)
   | (with_reducible exact LeO.none _)
   | (with_reducible refine LeO.ite ?_ ?_)
   | (with_reducible refine LeO.bind ?_ (fun _ => ?_))
   | exact ih0 _ _ _
   | exact ih1 _ _ _
   | exact LeO.none _
   | refine LeO.ite ?_ ?_
   | refine LeO.bind ?_ (fun _ => ?_)
set_option maxHeartbeats 8000000 in
set_option maxRecDepth 100000 in
theorem spec_l02Octave.calls (k : Nat) {g0 : Nat} (a0_0 : Int) (a0_1 : Int) (r1 : Int) (r2 : Int) (r3 : Int) (w : World) (hg0 : w.heap[g0]? = some (.cells #[.int .i64 a0_0, .int .i64 a0_1] 59 (0, 0))) (h : spec_l02Octave.f k a0_0 a0_1 = some (r1, r2, r3)) :
  Calls Tryd.prog 63 #[.pointer (some ⟨g0, 0, none⟩)] w fun e w' => e = .returned (.tuple #[.int .i64 r1, .int .i64 r2, .int .i64 r3]) ∧ Drawn0 w w' := by
 have BK0 := Aside0.mk hg0
 clear hg0
 have H : (spec_l02Octave.l0 k a0_0 a0_1 0) = some (r1, r2, r3) := h
 clear h
 have H' := Aside0.mk H
 clear H
 have hcz2_0 : w.cell? ⟨g0, 0, none⟩ = some (.int .i64 a0_0) := (blk_cell BK0.out 0).trans rfl
 have hcz2_1 : w.cell? ⟨g0, 1, none⟩ = some (.int .i64 a0_1) := (blk_cell BK0.out 1).trans rfl
 have hfz2_0 := blk_frozen BK0.out 0
 have hfz2_1 := blk_frozen BK0.out 1
 go_enter Tryd.func63, Tryd.ntmps63
 go_wp2
 go_loopg [6, 7] k (fun kq v6 v7 w' => ∃ (x6_1 : Int) (x7_1 : Int), v6 = .int .i64 x6_1 ∧ v7 = .int .i64 x7_1 ∧ Aside0 (spec_l02Octave.l0 kq a0_0 x6_1 x7_1 = some (r1, r2, r3)) ∧ Aside0 (kq ≤ k) ∧ Aside0 (w'.heap[g0]? = some (.cells #[.int .i64 a0_0, .int .i64 a0_1] 59 (0, 0))) ∧ Drawn0 w w')
 case atStart => exact ⟨(a0_1), (0), (by first | rfl | (simp; done) | (simp [*]; done)), (by first | rfl | (simp; done) | (simp [*]; done)), H', ⟨Nat.le_refl _⟩, ⟨by (with_reducible repeat (first | refine blk_drewN ?_ _ | refine blk_drew ?_ | refine blk_alloc ?_ _)); exact BK0.out⟩, by repeat (first | exact Drawn0.refl _ | apply Drawn0.step)⟩
 case round =>
  clear H'
  try clear p2
  try clear hcz2_0
  try clear hcz2_1
  try clear hfz2_0
  try clear hfz2_1
  obtain ⟨x6_1, x7_1, rfl, rfl, HA, HK1, BK0, ⟨m1, rfl⟩⟩ := hrel
  cases gk with
  | zero => exact absurd HA.out (by simp [spec_l02Octave.l0])
  | succ k1 =>
   have H := HA.out
   clear HA
   simp only [spec_l02Octave.l0] at H
   by_cases c3 : a0_0 ≥ (wrap64 (2 * x6_1))
   ·
    rw [if_pos c3] at H
    have c3b0 : decide ((wrap64 (2 * x6_1)) ≤ a0_0) = true := decide_eq_true c3
    clear c3
    have H' := Aside0.mk H
    clear H
    go_wp2
    go_roundg k1
    case measure => have := HK1.out; omega
    case rel => exact ⟨(wrap64 (x6_1 * 2)), (wrap64 (x7_1 + 1)), (by first | rfl | (simp; done) | (simp [*]; done)), (by first | rfl | (simp; done) | (simp [*]; done)), H', ⟨by have := HK1.out; omega⟩, ⟨by (with_reducible repeat (first | refine blk_drewN ?_ _ | refine blk_drew ?_ | refine blk_alloc ?_ _)); exact BK0.out⟩, by repeat (first | exact Drawn0.refl _ | apply Drawn0.step)⟩
   ·
    rw [if_neg c3] at H
    have c3b0 : decide ((wrap64 (2 * x6_1)) ≤ a0_0) = false := decide_eq_false c3
    clear c3
    have H' := Aside0.mk H
    clear H
    go_wp2
    go_loopg [5, 7] k1 (fun kq v5 v7 w' => ∃ (x5_2 : Int) (x7_2 : Int), v5 = .int .i64 x5_2 ∧ v7 = .int .i64 x7_2 ∧ Aside0 (spec_l02Octave.l1 kq x5_2 x6_1 x7_2 = some (r1, r2, r3)) ∧ Aside0 (kq ≤ k1) ∧ Aside0 (w'.heap[g0]? = some (.cells #[.int .i64 a0_0, .int .i64 a0_1] 59 (0, 0))) ∧ Drawn0 w w')
    case atStart => exact ⟨(a0_0), (x7_1), (by first | rfl | (simp; done) | (simp [*]; done)), (by first | rfl | (simp; done) | (simp [*]; done)), H', ⟨Nat.le_refl _⟩, ⟨by (with_reducible repeat (first | refine blk_drewN ?_ _ | refine blk_drew ?_ | refine blk_alloc ?_ _)); exact BK0.out⟩, by repeat (first | exact Drawn0.refl _ | apply Drawn0.step)⟩
    case round =>
     clear H'
     try clear p2
     try clear c3
     try clear c3b0
     try clear hcz2_0
     try clear hcz2_1
     try clear hfz2_0
     try clear hfz2_1
     try clear p2
     obtain ⟨x5_2, x7_2, rfl, rfl, HA, HK2, BK0, ⟨m2, rfl⟩⟩ := hrel
     cases gk with
     | zero => exact absurd HA.out (by simp [spec_l02Octave.l1])
     | succ k2 =>
      have H := HA.out
      clear HA
      simp only [spec_l02Octave.l1] at H
      by_cases c4 : x5_2 < x6_1
      ·
       rw [if_pos c4] at H
       have c4b0 : decide (x5_2 < x6_1) = true := decide_eq_true c4
       clear c4
       have H' := Aside0.mk H
       clear H
       go_wp2
       go_roundg k2
       case measure => have := HK1.out; have := HK2.out; omega
       case rel => exact ⟨(wrap64 (x5_2 * 2)), (wrap64 (x7_2 - 1)), (by first | rfl | (simp; done) | (simp [*]; done)), (by first | rfl | (simp; done) | (simp [*]; done)), H', ⟨by have := HK1.out; have := HK2.out; omega⟩, ⟨by (with_reducible repeat (first | refine blk_drewN ?_ _ | refine blk_drew ?_ | refine blk_alloc ?_ _)); exact BK0.out⟩, by repeat (first | exact Drawn0.refl _ | apply Drawn0.step)⟩
      ·
       rw [if_neg c4] at H
       have c4b0 : decide (x5_2 < x6_1) = false := decide_eq_false c4
       clear c4
       simp only [Option.some.injEq, Prod.mk.injEq] at H
       obtain ⟨rfl, rfl, rfl⟩ := H
       go_wp2
       go_ret3
       exact ⟨by first | rfl | (simp; done) | (simp [*]; done), by repeat (first | exact Drawn0.refl _ | apply Drawn0.step)⟩
set_option maxHeartbeats 8000000 in
set_option maxRecDepth 100000 in
theorem spec_l02OctaveAt.calls (k : Nat) (p : Addr) (a0_0 : Int) (a0_1 : Int) (r1 : Int) (r2 : Int) (r3 : Int) (w : World) (h0 : w.cell? p = some (.int .i64 a0_0)) (h1 : w.cell? ⟨p.block, p.off + 1, none⟩ = some (.int .i64 a0_1)) (h : spec_l02Octave.f k a0_0 a0_1 = some (r1, r2, r3)) :
  Calls Tryd.prog 63 #[.pointer (some p)] w fun e w' => e = .returned (.tuple #[.int .i64 r1, .int .i64 r2, .int .i64 r3]) ∧ Drawn0 w w' := by
 have BK0 := Aside0.mk (And.intro h0 h1)
 have H : (spec_l02Octave.l0 k a0_0 a0_1 0) = some (r1, r2, r3) := h
 clear h
 have H' := Aside0.mk H
 clear H
 have hcz2_0 : w.cell? p = some (.int .i64 a0_0) := h0
 have hcz2_1 : w.cell? ⟨p.block, p.off + 1, none⟩ = some (.int .i64 a0_1) := h1
 go_enter Tryd.func63, Tryd.ntmps63
 go_wp2
 go_loopg [6, 7] k (fun kq v6 v7 w' => ∃ (x6_1 : Int) (x7_1 : Int), v6 = .int .i64 x6_1 ∧ v7 = .int .i64 x7_1 ∧ Aside0 (spec_l02Octave.l0 kq a0_0 x6_1 x7_1 = some (r1, r2, r3)) ∧ Aside0 (kq ≤ k) ∧ Aside0 True ∧ Drawn0 w w')
 case atStart => exact ⟨(a0_1), (0), (by first | rfl | (simp; done) | (simp [*]; done)), (by first | rfl | (simp; done) | (simp [*]; done)), H', ⟨Nat.le_refl _⟩, ⟨trivial⟩, by repeat (first | exact Drawn0.refl _ | apply Drawn0.step)⟩
 case round =>
  clear H'
  try clear p2
  try clear hcz2_0
  try clear hcz2_1
  try clear hfz2_0
  try clear hfz2_1
  obtain ⟨x6_1, x7_1, rfl, rfl, HA, HK1, BK0, ⟨m1, rfl⟩⟩ := hrel
  cases gk with
  | zero => exact absurd HA.out (by simp [spec_l02Octave.l0])
  | succ k1 =>
   have H := HA.out
   clear HA
   simp only [spec_l02Octave.l0] at H
   by_cases c3 : a0_0 ≥ (wrap64 (2 * x6_1))
   ·
    rw [if_pos c3] at H
    have c3b0 : decide ((wrap64 (2 * x6_1)) ≤ a0_0) = true := decide_eq_true c3
    clear c3
    have H' := Aside0.mk H
    clear H
    go_wp2
    go_roundg k1
    case measure => have := HK1.out; omega
    case rel => exact ⟨(wrap64 (x6_1 * 2)), (wrap64 (x7_1 + 1)), (by first | rfl | (simp; done) | (simp [*]; done)), (by first | rfl | (simp; done) | (simp [*]; done)), H', ⟨by have := HK1.out; omega⟩, ⟨trivial⟩, by repeat (first | exact Drawn0.refl _ | apply Drawn0.step)⟩
   ·
    rw [if_neg c3] at H
    have c3b0 : decide ((wrap64 (2 * x6_1)) ≤ a0_0) = false := decide_eq_false c3
    clear c3
    have H' := Aside0.mk H
    clear H
    go_wp2
    go_loopg [5, 7] k1 (fun kq v5 v7 w' => ∃ (x5_2 : Int) (x7_2 : Int), v5 = .int .i64 x5_2 ∧ v7 = .int .i64 x7_2 ∧ Aside0 (spec_l02Octave.l1 kq x5_2 x6_1 x7_2 = some (r1, r2, r3)) ∧ Aside0 (kq ≤ k1) ∧ Aside0 True ∧ Drawn0 w w')
    case atStart => exact ⟨(a0_0), (x7_1), (by first | rfl | (simp; done) | (simp [*]; done)), (by first | rfl | (simp; done) | (simp [*]; done)), H', ⟨Nat.le_refl _⟩, ⟨trivial⟩, by repeat (first | exact Drawn0.refl _ | apply Drawn0.step)⟩
    case round =>
     clear H'
     try clear p2
     try clear c3
     try clear c3b0
     try clear hcz2_0
     try clear hcz2_1
     try clear hfz2_0
     try clear hfz2_1
     try clear p2
     obtain ⟨x5_2, x7_2, rfl, rfl, HA, HK2, BK0, ⟨m2, rfl⟩⟩ := hrel
     cases gk with
     | zero => exact absurd HA.out (by simp [spec_l02Octave.l1])
     | succ k2 =>
      have H := HA.out
      clear HA
      simp only [spec_l02Octave.l1] at H
      by_cases c4 : x5_2 < x6_1
      ·
       rw [if_pos c4] at H
       have c4b0 : decide (x5_2 < x6_1) = true := decide_eq_true c4
       clear c4
       have H' := Aside0.mk H
       clear H
       go_wp2
       go_roundg k2
       case measure => have := HK1.out; have := HK2.out; omega
       case rel => exact ⟨(wrap64 (x5_2 * 2)), (wrap64 (x7_2 - 1)), (by first | rfl | (simp; done) | (simp [*]; done)), (by first | rfl | (simp; done) | (simp [*]; done)), H', ⟨by have := HK1.out; have := HK2.out; omega⟩, ⟨trivial⟩, by repeat (first | exact Drawn0.refl _ | apply Drawn0.step)⟩
      ·
       rw [if_neg c4] at H
       have c4b0 : decide (x5_2 < x6_1) = false := decide_eq_false c4
       clear c4
       simp only [Option.some.injEq, Prod.mk.injEq] at H
       obtain ⟨rfl, rfl, rfl⟩ := H
       go_wp2
       go_ret3
       exact ⟨by first | rfl | (simp; done) | (simp [*]; done), by repeat (first | exact Drawn0.refl _ | apply Drawn0.step)⟩

/-! ### spec_l02Table: function 64 -/
def spec_l02Table.f  : Option (List Int) := some (([0, 5327, 10496, 15514, 20391, 25134, 29751, 34248, 38631, 42906, 47078, 51152, 55132, 59022, 62827, 66551, 70196, 73765, 77263, 80691, 84053, 87350, 90587, 93763, 96883, 99947, 102958, 105917, 108827, 111688, 114504, 117274, 120000] : List Int))
set_option maxHeartbeats 8000000 in
set_option maxRecDepth 100000 in
theorem spec_l02Table.calls  (r : List Int) (w : World) (h : spec_l02Table.f  = some r) :
  Calls Tryd.prog 64 #[] w fun e w' => ∃ v0_ : Value, e = .returned (v0_) ∧ Kd.R (Kd.int .i64) 2 w' w.heap.size (fun _ => True) v0_ r ∧ Below w.heap.size w w' := by
 have HB := Aside0.mk (Below.refl w.heap.size w)
 have H : (some (([0, 5327, 10496, 15514, 20391, 25134, 29751, 34248, 38631, 42906, 47078, 51152, 55132, 59022, 62827, 66551, 70196, 73765, 77263, 80691, 84053, 87350, 90587, 93763, 96883, 99947, 102958, 105917, 108827, 111688, 114504, 117274, 120000] : List Int))) = some r := h
 clear h
 obtain ⟨y111, hy111⟩ : ∃ y_ : List Int, y_ = (([0, 5327, 10496, 15514, 20391, 25134, 29751, 34248, 38631, 42906, 47078, 51152, 55132, 59022, 62827, 66551, 70196, 73765, 77263, 80691, 84053, 87350, 90587, 93763, 96883, 99947, 102958, 105917, 108827, 111688, 114504, 117274, 120000] : List Int)) := ⟨_, rfl⟩
 replace H : (some y111) = some r := by first | (rw [hy111]; with_reducible exact H) | (have H2_ := (Option.bind_some _ _).symm.trans H; rw [hy111]; with_reducible exact H2_) | (have H2_ := (Option.bind_some _ _).symm.trans H; with_reducible exact H2_) | with_reducible exact H | (rw [hy111]; exact H) | exact H
 have Ny111 := Aside0.mk hy111
 clear hy111
 obtain rfl := Option.some.inj H
 go_enter Tryd.func64, Tryd.ntmps64
 go_wp2_with (first | ((with_reducible refine gate_dst (N := 1) rfl ?_); refine Kd.R_lit (Kd.int .i64) _ 2 ?hg (N := 1) ?hd (xs := ([0, 5327, 10496, 15514, 20391, 25134, 29751, 34248, 38631, 42906, 47078, 51152, 55132, 59022, 62827, 66551, 70196, 73765, 77263, 80691, 84053, 87350, 90587, 93763, 96883, 99947, 102958, 105917, 108827, 111688, 114504, 117274, 120000] : List Int)) (inner := [.int .i64 0, .int .i64 5327, .int .i64 10496, .int .i64 15514, .int .i64 20391, .int .i64 25134, .int .i64 29751, .int .i64 34248, .int .i64 38631, .int .i64 42906, .int .i64 47078, .int .i64 51152, .int .i64 55132, .int .i64 59022, .int .i64 62827, .int .i64 66551, .int .i64 70196, .int .i64 73765, .int .i64 77263, .int .i64 80691, .int .i64 84053, .int .i64 87350, .int .i64 90587, .int .i64 93763, .int .i64 96883, .int .i64 99947, .int .i64 102958, .int .i64 105917, .int .i64 108827, .int .i64 111688, .int .i64 114504, .int .i64 117274, .int .i64 120000]) (ok := fun _ => True) (okp := fun _ => True) ?hr ?hp (fun _ hk => hk) trivial (Below.refl _ _) (Nat.le_refl _) (by simp) ?_; (case hd => rfl); (case hg => rfl); (case hr => first | (go_simp; done) | (go_simp; rfl)); (case hp => exact (Reps.one (show Kd.M (Kd.int .i64) _ _ _ 0 [.int .i64 0] from rfl) (Reps.one (show Kd.M (Kd.int .i64) _ _ _ 5327 [.int .i64 5327] from rfl) (Reps.one (show Kd.M (Kd.int .i64) _ _ _ 10496 [.int .i64 10496] from rfl) (Reps.one (show Kd.M (Kd.int .i64) _ _ _ 15514 [.int .i64 15514] from rfl) (Reps.one (show Kd.M (Kd.int .i64) _ _ _ 20391 [.int .i64 20391] from rfl) (Reps.one (show Kd.M (Kd.int .i64) _ _ _ 25134 [.int .i64 25134] from rfl) (Reps.one (show Kd.M (Kd.int .i64) _ _ _ 29751 [.int .i64 29751] from rfl) (Reps.one (show Kd.M (Kd.int .i64) _ _ _ 34248 [.int .i64 34248] from rfl) (Reps.one (show Kd.M (Kd.int .i64) _ _ _ 38631 [.int .i64 38631] from rfl) (Reps.one (show Kd.M (Kd.int .i64) _ _ _ 42906 [.int .i64 42906] from rfl) (Reps.one (show Kd.M (Kd.int .i64) _ _ _ 47078 [.int .i64 47078] from rfl) (Reps.one (show Kd.M (Kd.int .i64) _ _ _ 51152 [.int .i64 51152] from rfl) (Reps.one (show Kd.M (Kd.int .i64) _ _ _ 55132 [.int .i64 55132] from rfl) (Reps.one (show Kd.M (Kd.int .i64) _ _ _ 59022 [.int .i64 59022] from rfl) (Reps.one (show Kd.M (Kd.int .i64) _ _ _ 62827 [.int .i64 62827] from rfl) (Reps.one (show Kd.M (Kd.int .i64) _ _ _ 66551 [.int .i64 66551] from rfl) (Reps.one (show Kd.M (Kd.int .i64) _ _ _ 70196 [.int .i64 70196] from rfl) (Reps.one (show Kd.M (Kd.int .i64) _ _ _ 73765 [.int .i64 73765] from rfl) (Reps.one (show Kd.M (Kd.int .i64) _ _ _ 77263 [.int .i64 77263] from rfl) (Reps.one (show Kd.M (Kd.int .i64) _ _ _ 80691 [.int .i64 80691] from rfl) (Reps.one (show Kd.M (Kd.int .i64) _ _ _ 84053 [.int .i64 84053] from rfl) (Reps.one (show Kd.M (Kd.int .i64) _ _ _ 87350 [.int .i64 87350] from rfl) (Reps.one (show Kd.M (Kd.int .i64) _ _ _ 90587 [.int .i64 90587] from rfl) (Reps.one (show Kd.M (Kd.int .i64) _ _ _ 93763 [.int .i64 93763] from rfl) (Reps.one (show Kd.M (Kd.int .i64) _ _ _ 96883 [.int .i64 96883] from rfl) (Reps.one (show Kd.M (Kd.int .i64) _ _ _ 99947 [.int .i64 99947] from rfl) (Reps.one (show Kd.M (Kd.int .i64) _ _ _ 102958 [.int .i64 102958] from rfl) (Reps.one (show Kd.M (Kd.int .i64) _ _ _ 105917 [.int .i64 105917] from rfl) (Reps.one (show Kd.M (Kd.int .i64) _ _ _ 108827 [.int .i64 108827] from rfl) (Reps.one (show Kd.M (Kd.int .i64) _ _ _ 111688 [.int .i64 111688] from rfl) (Reps.one (show Kd.M (Kd.int .i64) _ _ _ 114504 [.int .i64 114504] from rfl) (Reps.one (show Kd.M (Kd.int .i64) _ _ _ 117274 [.int .i64 117274] from rfl) (Reps.one (show Kd.M (Kd.int .i64) _ _ _ 120000 [.int .i64 120000] from rfl) (Reps.none _ _))))))))))))))))))))))))))))))))))); intro v112 w1 ho2 hb hg_ hnew_; clear hg_ hnew_; (first | rw [← Ny111.out] at ho2 | (simp only [Int.reduceToNat] at ho2; rw [← Ny111.out] at ho2)); have n0_ := Aside0.mk (Kd.R_lower ho2 (below_size (by repeat (first | (with_reducible first | exact HB.out | apply below_alloc | apply pw_below_drewN | apply below_drew1) | exact HB.out)))); have n1_ := Aside0.mk (below_step (by repeat (first | (with_reducible first | exact HB.out | apply below_alloc | apply pw_below_drewN | apply below_drew1) | exact HB.out)) hb); clear HB; have HO113 := n0_; have HB := n1_; clear n0_ n1_; clear hb ho2))
 go_ret
 exact ⟨_, by first | rfl | (simp [errW_none, errW_some] <;> rfl) | (simp [*, errW_none, errW_some] <;> rfl), by (with_reducible repeat (first | apply Kd.R_alloc | apply Kd.R_drewN | apply Kd.R_drew)); exact HO113.out, by repeat (first | (with_reducible first | exact HB.out | apply below_alloc | apply pw_below_drewN | apply below_drew1) | exact HB.out)⟩

/-! ### spec_l01Div: function 65 -/
def spec_l01Div.f (a0 : Int) (a1 : Int) : Option (Int) := if a1 < 0 then (if (wrap64 (-a0)) < 0 then (if (wrap64 (2 * (wrap64 (-a1)))) = 0 then (none) else (some (wrap64 (-(wrap64 (Int.tdiv (wrap64 ((wrap64 (-a1)) - (wrap64 (2 * (wrap64 (-a0)))))) (wrap64 (2 * (wrap64 (-a1)))))))))) else (if (wrap64 (2 * (wrap64 (-a1)))) = 0 then (none) else (some (wrap64 (Int.tdiv (wrap64 ((wrap64 (2 * (wrap64 (-a0)))) + (wrap64 (-a1)))) (wrap64 (2 * (wrap64 (-a1))))))))) else (if a0 < 0 then (if (wrap64 (2 * a1)) = 0 then (none) else (some (wrap64 (-(wrap64 (Int.tdiv (wrap64 (a1 - (wrap64 (2 * a0)))) (wrap64 (2 * a1)))))))) else (if (wrap64 (2 * a1)) = 0 then (none) else (some (wrap64 (Int.tdiv (wrap64 ((wrap64 (2 * a0)) + a1)) (wrap64 (2 * a1)))))))
set_option maxHeartbeats 8000000 in
set_option maxRecDepth 100000 in
theorem spec_l01Div.calls (a0 : Int) (a1 : Int) (r : Int) (w : World) (h : spec_l01Div.f a0 a1 = some r) :
  Calls Tryd.prog 65 #[.int .i64 a0, .int .i64 a1] w fun e w' => e = .returned (.int .i64 r) ∧ Drawn0 w w' := by
 have H : (if a1 < 0 then (if (wrap64 (-a0)) < 0 then (if (wrap64 (2 * (wrap64 (-a1)))) = 0 then (none) else (some (wrap64 (-(wrap64 (Int.tdiv (wrap64 ((wrap64 (-a1)) - (wrap64 (2 * (wrap64 (-a0)))))) (wrap64 (2 * (wrap64 (-a1)))))))))) else (if (wrap64 (2 * (wrap64 (-a1)))) = 0 then (none) else (some (wrap64 (Int.tdiv (wrap64 ((wrap64 (2 * (wrap64 (-a0)))) + (wrap64 (-a1)))) (wrap64 (2 * (wrap64 (-a1))))))))) else (if a0 < 0 then (if (wrap64 (2 * a1)) = 0 then (none) else (some (wrap64 (-(wrap64 (Int.tdiv (wrap64 (a1 - (wrap64 (2 * a0)))) (wrap64 (2 * a1)))))))) else (if (wrap64 (2 * a1)) = 0 then (none) else (some (wrap64 (Int.tdiv (wrap64 ((wrap64 (2 * a0)) + a1)) (wrap64 (2 * a1)))))))) = some r := h
 clear h
 by_cases c3 : a1 < 0
 ·
  rw [if_pos c3] at H
  have c3b0 : decide (a1 < 0) = true := decide_eq_true c3
  clear c3
  by_cases c4 : (wrap64 (-a0)) < 0
  ·
   rw [if_pos c4] at H
   have c4b0 : decide ((wrap64 (-a0)) < 0) = true := decide_eq_true c4
   clear c4
   by_cases c5 : (wrap64 (2 * (wrap64 (-a1)))) = 0
   ·
    rw [if_pos c5] at H
    exact absurd H (by simp)
   ·
    rw [if_neg c5] at H
    have c5b0 : ((wrap64 (2 * (wrap64 (-a1)))) == 0) = false := beq_eq_false_iff_ne.mpr c5
    have c5b1 : ((wrap64 (2 * (wrap64 (-a1)))) != 0) = true := bne_iff_ne.mpr c5
    obtain rfl := Option.some.inj H
    go_enter Tryd.func65, Tryd.ntmps65
    go_wp2
    go_ret
    exact ⟨by first | rfl | (simp; done) | (simp [*]; done), by repeat (first | exact Drawn0.refl _ | apply Drawn0.step)⟩
  ·
   rw [if_neg c4] at H
   have c4b0 : decide ((wrap64 (-a0)) < 0) = false := decide_eq_false c4
   clear c4
   by_cases c6 : (wrap64 (2 * (wrap64 (-a1)))) = 0
   ·
    rw [if_pos c6] at H
    exact absurd H (by simp)
   ·
    rw [if_neg c6] at H
    have c6b0 : ((wrap64 (2 * (wrap64 (-a1)))) == 0) = false := beq_eq_false_iff_ne.mpr c6
    have c6b1 : ((wrap64 (2 * (wrap64 (-a1)))) != 0) = true := bne_iff_ne.mpr c6
    obtain rfl := Option.some.inj H
    go_enter Tryd.func65, Tryd.ntmps65
    go_wp2
    go_ret
    exact ⟨by first | rfl | (simp; done) | (simp [*]; done), by repeat (first | exact Drawn0.refl _ | apply Drawn0.step)⟩
 ·
  rw [if_neg c3] at H
  have c3b0 : decide (a1 < 0) = false := decide_eq_false c3
  clear c3
  by_cases c7 : a0 < 0
  ·
   rw [if_pos c7] at H
   have c7b0 : decide (a0 < 0) = true := decide_eq_true c7
   clear c7
   by_cases c8 : (wrap64 (2 * a1)) = 0
   ·
    rw [if_pos c8] at H
    exact absurd H (by simp)
   ·
    rw [if_neg c8] at H
    have c8b0 : ((wrap64 (2 * a1)) == 0) = false := beq_eq_false_iff_ne.mpr c8
    have c8b1 : ((wrap64 (2 * a1)) != 0) = true := bne_iff_ne.mpr c8
    obtain rfl := Option.some.inj H
    go_enter Tryd.func65, Tryd.ntmps65
    go_wp2
    go_ret
    exact ⟨by first | rfl | (simp; done) | (simp [*]; done), by repeat (first | exact Drawn0.refl _ | apply Drawn0.step)⟩
  ·
   rw [if_neg c7] at H
   have c7b0 : decide (a0 < 0) = false := decide_eq_false c7
   clear c7
   by_cases c9 : (wrap64 (2 * a1)) = 0
   ·
    rw [if_pos c9] at H
    exact absurd H (by simp)
   ·
    rw [if_neg c9] at H
    have c9b0 : ((wrap64 (2 * a1)) == 0) = false := beq_eq_false_iff_ne.mpr c9
    have c9b1 : ((wrap64 (2 * a1)) != 0) = true := bne_iff_ne.mpr c9
    obtain rfl := Option.some.inj H
    go_enter Tryd.func65, Tryd.ntmps65
    go_wp2
    go_ret
    exact ⟨by first | rfl | (simp; done) | (simp [*]; done), by repeat (first | exact Drawn0.refl _ | apply Drawn0.step)⟩

end Go.Proofs.YtigjcobannhdlaaDoor.PFnExactWorstFifth
