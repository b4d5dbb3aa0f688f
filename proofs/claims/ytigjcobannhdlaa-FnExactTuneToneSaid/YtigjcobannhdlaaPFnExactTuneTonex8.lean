-- Written by wip/myprint.py: the kit's print, with contracts of this session's own among the functions.
import Derived.Test.YtigjcobannhdlaaPFnExactTuneTonex0
import Derived.Test.YtigjcobannhdlaaPFnExactTuneTonex2
import Derived.Test.YtigjcobannhdlaaPFnExactTuneTonex3
import Derived.Test.YtigjcobannhdlaaPFnExactTuneTonex4
import Derived.Test.YtigjcobannhdlaaPFnExactTuneTonex7
namespace Go.Proofs.Ytigjcobannhdlaa.PFnExactTuneTone
open Go.RowKit Go.Proofs.YtigjcobannhdlaaW.PrintWords Go.Proofs.YtigjcobannhdlaaW.PrintLast Go.Proofs.YtigjcobannhdlaaW.PrintMore
attribute [local go_sem] max2_int min2_int max_two min_two max_three min_three max_four min_four   -- for this text's walks alone
set_option linter.unusedVariables false
set_option linter.unusedSimpArgs false

/-! ### short names -/
theorem bA {w W : World} (h : Below w.heap.size w W) (o : Obj) : Below w.heap.size w (W.alloc o) := below_alloc h o
theorem bN {B : Nat} {w W : World} (h : Below B w W) (n : Nat) : Below B w (W.drewN n) := pw_below_drewN h n
theorem bD {base : Nat} {w W : World} (h : Below base w W) : Below base w W.drew := below_drew1 h
theorem bS {w W : World} {g j : Nat} {v : Value} (hg : w.heap.size ≤ g) (h : Below w.heap.size w W) : Below w.heap.size w (W.setCell ⟨g, j, none⟩ v) := below_set h hg
theorem bB {w w1 : World} {g : Nat} {o : Obj} (hb : Below w.heap.size w w1) (h : w.heap[g]? = some o) : w1.heap[g]? = some o := blk_below h hb
theorem kN {w : World} {g : Nat} {o : Obj} (h : w.heap[g]? = some o) (n : Nat) : (w.drewN n).heap[g]? = some o := h
theorem kD {w : World} {g : Nat} {o : Obj} (h : w.heap[g]? = some o) : w.drew.heap[g]? = some o := h
theorem kA {w : World} {g : Nat} {o : Obj} (h : w.heap[g]? = some o) (o' : Obj) : (w.alloc o').heap[g]? = some o := blk_alloc h o'
section
variable {α : Type} {d : Kd α} {e : Nat} {w : World} {base : Nat} {ok : Nat → Prop} {v : Value} {xs : List α}
theorem rA (h : d.R e w base ok v xs) (o : Obj) : d.R e (w.alloc o) base ok v xs := Kd.R_alloc h o
theorem rN (h : d.R e w base ok v xs) (m : Nat) : d.R e (w.drewN m) base ok v xs := Kd.R_drewN h m
theorem rD (h : d.R e w base ok v xs) : d.R e w.drew base ok v xs := Kd.R_drew h
end
theorem sA {α : Type} (l : List α) (i : Nat) (a : α) : l.toArray.setIfInBounds i a = (l.set i a).toArray := List.setIfInBounds_toArray ..
theorem sZ {α : Type} (a b : α) (l : List α) : (a :: l).set 0 b = b :: l := rfl
theorem sS {α : Type} (a b : α) (l : List α) (n : Nat) : (a :: l).set (n + 1) b = a :: l.set n b := rfl
abbrev bl6_0 : Array Bool := #[false, false, false, false, false, false, false, false, false, false, false, false]
abbrev bl6_1 : Array Bool := #[false, false, true, false, false, false, false, false, false, false, false, false]
abbrev bl6_2 : Array Bool := #[true, false, true, false, false, false, false, false, false, false, false, false]
abbrev bl6_3 : Array Bool := #[true, false, true, true, false, false, false, false, false, false, false, false]
abbrev bl6_4 : Array Bool := #[true, true, true, true, false, false, false, false, false, false, false, false]
abbrev bl6_5 : Array Bool := #[true, false, true, true, false, false, false, false, false, true, false, false]
abbrev bl6_6 : Array Bool := #[true, true, true, true, true, false, false, false, false, false, false, false]
abbrev bl6_7 : Array Bool := #[true, true, true, true, false, false, false, false, false, true, false, false]
abbrev bl6_8 : Array Bool := #[true, true, true, true, true, true, false, false, false, false, false, false]
abbrev bl6_9 : Array Bool := #[true, true, true, true, true, false, false, false, false, true, false, false]
abbrev bl6_10 : Array Bool := #[true, true, true, true, true, true, false, false, false, true, false, false]
abbrev bl6_11 : Array Bool := #[true, true, true, true, true, true, true, false, false, false, false, false]
abbrev bl6_12 : Array Bool := #[false, false, false, false, false, false, false, false, false, false, false]
abbrev bl6_13 : Array Bool := #[true, true, true, true, true, true, true, false, false, true, false, false]
abbrev bl6_14 : Array Bool := #[true, true, true, true, true, true, true, true, false, false, false, false]
abbrev bl6_15 : Array Bool := #[false, true, false, false, false, false, false, false, false, false, false]
abbrev bl6_16 : Array Bool := #[true, true, false, false, false, false, false, false, false, false, false]
abbrev bl6_17 : Array Bool := #[true, true, true, true, true, true, true, true, false, true, false, false]
abbrev bl6_18 : Array Bool := #[true, true, true, true, true, true, true, true, true, false, false, false]
abbrev bl6_19 : Array Bool := #[true, true, true, false, false, false, false, false, false, false, false]
abbrev bl6_20 : Array Bool := #[true, true, true, true, true, true, true, true, true, true, false, false]
abbrev bl6_21 : Array Bool := #[true, true, true, true, false, false, false, false, false, false, false]
abbrev bl6_22 : Array Bool := #[true, true, true, true, true, true, true, true, true, true, true, false]
abbrev bl6_23 : Array Bool := #[true, true, true, false, false, false, false, false, true, false, false]
abbrev bl6_24 : Array Bool := #[true, true, true, true, false, false, false, false, true, false, false]
abbrev bl6_25 : Array Bool := #[true, true, true, true, true, false, false, false, false, false, false]
abbrev bl6_26 : Array Bool := #[true, true, true, true, true, true, true, true, true, true, true, true]
abbrev bl6_27 : Array Bool := #[true, true, true, true, true, false, false, false, true, false, false]
abbrev bl6_28 : Array Bool := #[true, true, true, true, true, true, false, false, false, false, false]
abbrev bl6_29 : Array Bool := #[true, true, true, true, true, true, false, false, true, false, false]
abbrev bl6_30 : Array Bool := #[true, true, true, true, true, true, true, false, false, false, false]
abbrev bl6_31 : Array Bool := #[true, true, true, true, true, true, true, true, false, false, false]
abbrev bl6_32 : Array Bool := #[true, true, true, true, true, true, true, false, true, false, false]
abbrev bl6_33 : Array Bool := #[true, true, true, true, true, true, true, true, true, false, false]
abbrev bl6_34 : Array Bool := #[true, true, true, true, true, true, true, true, true, true, false]
abbrev bl6_35 : Array Bool := #[true, true, true, true, true, true, true, true, true, true, true]
/-! ### laws_FnExactTuneTone: function 6 -/
mutual
def laws_FnExactTuneTone.j0 : Nat → Int → Int → Int → Bool → ByteArray → List (S38) → Int → Int → ByteArray → List (S41) → ByteArray → List (S41) → ByteArray → List (S41) → Option (Bool)
 | 0, _, _, _, _, _, _, _, _, _, _, _, _, _, _ => none
 | k + 1, x1, x9, x12, x50, x191000, x191001, x192000, x192001, x205000, x205001, x210000, x210001, x218000, x218001 => if x50 = true then (some false) else ((laws_toTuning.f k x191000 x191001).bind fun bt219 => ((laws_eqTuning.f k x210000 x210001 bt219.1 bt219.2).bind fun t223 => (if t223 = true then ((laws_markTuning.f k x210000 x210001 1).bind fun bt224 => (if bt224.1 < 0 then (laws_FnExactTuneTone.j1 k x1 x9 true x191000 x191001 x192000 x192001 x205000 x205001 x218000 x218001) else ((laws_eqTuning.f k x218000 x218001 x205000 x205001).bind fun t226 => (if t226 = true then (laws_FnExactTuneTone.j1 k x1 x9 (x12 != x9) x191000 x191001 x192000 x192001 x205000 x205001 x218000 x218001) else (laws_FnExactTuneTone.j1 k x1 x9 true x191000 x191001 x192000 x192001 x205000 x205001 x218000 x218001))))) else (some false))))
def laws_FnExactTuneTone.j1 : Nat → Int → Int → Bool → ByteArray → List (S38) → Int → Int → ByteArray → List (S41) → ByteArray → List (S41) → Option (Bool)
 | 0, _, _, _, _, _, _, _, _, _, _, _ => none
 | k + 1, x1, x9, x71, x191000, x191001, x192000, x192001, x205000, x205001, x218000, x218001 => if x71 = true then (some false) else ((laws_markTuning.f k x218000 x218001 1).bind fun bt227 => ((laws_heldTuning.f k x218000 bt227.2 1).bind fun t229 => (if t229 < 0 then (some false) else (if t229 = bt227.1 then ((laws_toTuning.f k x191000 x191001).bind fun bt230 => ((laws_toRatio.f x192000 x192001).bind fun bt234 => ((impl_TuneTone.f k bt230.1 bt230.2 x1 bt234.1 bt234.2).bind fun bt236 => ((laws_eqTuning.f k bt236.1 bt236.2.1 x205000 x205001).bind fun t242 => (if t242 = true then (laws_FnExactTuneTone.j2 k bt227.1 (bt236.2.2 != x9) x218000 bt227.2) else (laws_FnExactTuneTone.j2 k bt227.1 true x218000 bt227.2)))))) else (some false)))))
def laws_FnExactTuneTone.j2 : Nat → Int → Bool → ByteArray → List (S41) → Option (Bool)
 | 0, _, _, _, _ => none
 | k + 1, x14, x100, x218000, x218001 => if x100 = true then (some false) else ((laws_heldTuning.f k x218000 x218001 1).bind fun t243 => (if t243 < 0 then (some false) else (if t243 = x14 then (some true) else (some false))))
end
def laws_FnExactTuneTone.f (k : Nat) (a0_0 : ByteArray) (l0_1 : List (S38)) (a1 : Int) (a2_0 : Int) (a2_1 : Int) : Option (Bool) := (laws_szTuning.f a0_0 l0_1 1048576).bind fun t192 => (if t192 < 0 then (some true) else ((laws_toTuning.f k a0_0 l0_1).bind fun bt193 => ((laws_toRatio.f a2_0 a2_1).bind fun bt197 => ((spec_TuneTone.f k bt193.1 bt193.2 a1 bt197.1 bt197.2).bind fun bt199 => ((laws_toTuning.f k a0_0 l0_1).bind fun bt205 => ((laws_toRatio.f a2_0 a2_1).bind fun bt210 => ((impl_TuneTone.f k bt205.1 bt205.2 a1 bt210.1 bt210.2).bind fun bt212 => ((laws_eqTuning.f k bt212.1 bt212.2.1 bt199.1 bt199.2.1).bind fun t218 => (if t218 = true then (laws_FnExactTuneTone.j0 k a1 bt199.2.2 bt212.2.2 (bt212.2.2 != bt199.2.2) a0_0 l0_1 a2_0 a2_1 bt199.1 bt199.2.1 bt205.1 bt205.2 bt212.1 bt212.2.1) else (laws_FnExactTuneTone.j0 k a1 bt199.2.2 bt212.2.2 true a0_0 l0_1 a2_0 a2_1 bt199.1 bt199.2.1 bt205.1 bt205.2 bt212.1 bt212.2.1))))))))))
theorem laws_FnExactTuneTone.mono_l : ∀ k, (∀ y0 y1 y2 y3 y4 y5 y6 y7 y8 y9 y10 y11 y12 y13, LeO (laws_FnExactTuneTone.j0 k y0 y1 y2 y3 y4 y5 y6 y7 y8 y9 y10 y11 y12 y13) (laws_FnExactTuneTone.j0 (k + 1) y0 y1 y2 y3 y4 y5 y6 y7 y8 y9 y10 y11 y12 y13)) ∧ (∀ y0 y1 y2 y3 y4 y5 y6 y7 y8 y9 y10, LeO (laws_FnExactTuneTone.j1 k y0 y1 y2 y3 y4 y5 y6 y7 y8 y9 y10) (laws_FnExactTuneTone.j1 (k + 1) y0 y1 y2 y3 y4 y5 y6 y7 y8 y9 y10)) ∧ (∀ y0 y1 y2 y3, LeO (laws_FnExactTuneTone.j2 k y0 y1 y2 y3) (laws_FnExactTuneTone.j2 (k + 1) y0 y1 y2 y3))
 | 0 => ⟨fun _ _ _ _ _ _ _ _ _ _ _ _ _ _ r h => by simp [laws_FnExactTuneTone.j0] at h, fun _ _ _ _ _ _ _ _ _ _ _ r h => by simp [laws_FnExactTuneTone.j1] at h, fun _ _ _ _ r h => by simp [laws_FnExactTuneTone.j2] at h⟩
 | k + 1 => by
  obtain ⟨ih0, ih1, ih2⟩ := laws_FnExactTuneTone.mono_l k
  refine ⟨?_, ?_, ?_⟩
  ·
   intro y0 y1 y2 y3 y4 y5 y6 y7 y8 y9 y10 y11 y12 y13
   unfold laws_FnExactTuneTone.j0
   repeat' first
   | (with_reducible exact ih0 _ _ _ _ _ _ _ _ _ _ _ _ _ _)
   | (with_reducible exact ih1 _ _ _ _ _ _ _ _ _ _ _)
   | (with_reducible exact ih2 _ _ _ _)
   | (with_reducible exact impl_TuneTone.mono _ _ _ _ _ _)
   | (with_reducible exact laws_eqTuning.mono _ _ _ _ _)
   | (with_reducible exact laws_heldTuning.mono _ _ _ _)
   | (with_reducible exact laws_markTuning.mono _ _ _ _)
   | (with_reducible exact laws_toTuning.mono _ _ _)
   | (with_reducible exact spec_TuneTone.mono _ _ _ _ _ _)
   | (with_reducible exact LeO.refl _)
   | (with_reducible exact LeO.none _)
   | (with_reducible refine LeO.ite ?_ ?_)
   | (with_reducible refine LeO.bind ?_ (fun _ => ?_))
   | exact ih0 _ _ _ _ _ _ _ _ _ _ _ _ _ _
   | exact ih1 _ _ _ _ _ _ _ _ _ _ _
   | exact ih2 _ _ _ _
   | exact impl_TuneTone.mono _ _ _ _ _ _
   | exact laws_eqTuning.mono _ _ _ _ _
   | exact laws_heldTuning.mono _ _ _ _
   | exact laws_markTuning.mono _ _ _ _
   | exact laws_toTuning.mono _ _ _
   | exact spec_TuneTone.mono _ _ _ _ _ _
   | exact LeO.none _
   | refine LeO.ite ?_ ?_
   | refine LeO.bind ?_ (fun _ => ?_)
  ·
   intro y0 y1 y2 y3 y4 y5 y6 y7 y8 y9 y10
   unfold laws_FnExactTuneTone.j1
   repeat' first
   | (with_reducible exact ih0 _ _ _ _ _ _ _ _ _ _ _ _ _ _)
   | (with_reducible exact ih1 _ _ _ _ _ _ _ _ _ _ _)
   | (with_reducible exact ih2 _ _ _ _)
   | (with_reducible exact impl_TuneTone.mono _ _ _ _ _ _)
   | (with_reducible exact laws_eqTuning.mono _ _ _ _ _)
   | (with_reducible exact laws_heldTuning.mono _ _ _ _)
   | (with_reducible exact laws_markTuning.mono _ _ _ _)
   | (with_reducible exact laws_toTuning.mono _ _ _)
   | (with_reducible exact spec_TuneTone.mono _ _ _ _ _ _)
   | (with_reducible exact LeO.refl _)
   | (with_reducible exact LeO.none _)
   | (with_reducible refine LeO.ite ?_ ?_)
   | (with_reducible refine LeO.bind ?_ (fun _ => ?_))
   | exact ih0 _ _ _ _ _ _ _ _ _ _ _ _ _ _
   | exact ih1 _ _ _ _ _ _ _ _ _ _ _
   | exact ih2 _ _ _ _
   | exact impl_TuneTone.mono _ _ _ _ _ _
   | exact laws_eqTuning.mono _ _ _ _ _
   | exact laws_heldTuning.mono _ _ _ _
   | exact laws_markTuning.mono _ _ _ _
   | exact laws_toTuning.mono _ _ _
   | exact spec_TuneTone.mono _ _ _ _ _ _
   | exact LeO.none _
   | refine LeO.ite ?_ ?_
   | refine LeO.bind ?_ (fun _ => ?_)
  ·
   intro y0 y1 y2 y3
   unfold laws_FnExactTuneTone.j2
   repeat' first
   | (with_reducible exact ih0 _ _ _ _ _ _ _ _ _ _ _ _ _ _)
   | (with_reducible exact ih1 _ _ _ _ _ _ _ _ _ _ _)
   | (with_reducible exact ih2 _ _ _ _)
   | (with_reducible exact impl_TuneTone.mono _ _ _ _ _ _)
   | (with_reducible exact laws_eqTuning.mono _ _ _ _ _)
   | (with_reducible exact laws_heldTuning.mono _ _ _ _)
   | (with_reducible exact laws_markTuning.mono _ _ _ _)
   | (with_reducible exact laws_toTuning.mono _ _ _)
   | (with_reducible exact spec_TuneTone.mono _ _ _ _ _ _)
   | (with_reducible exact LeO.refl _)
   | (with_reducible exact LeO.none _)
   | (with_reducible refine LeO.ite ?_ ?_)
   | (with_reducible refine LeO.bind ?_ (fun _ => ?_))
   | exact ih0 _ _ _ _ _ _ _ _ _ _ _ _ _ _
   | exact ih1 _ _ _ _ _ _ _ _ _ _ _
   | exact ih2 _ _ _ _
   | exact impl_TuneTone.mono _ _ _ _ _ _
   | exact laws_eqTuning.mono _ _ _ _ _
   | exact laws_heldTuning.mono _ _ _ _
   | exact laws_markTuning.mono _ _ _ _
   | exact laws_toTuning.mono _ _ _
   | exact spec_TuneTone.mono _ _ _ _ _ _
   | exact LeO.none _
   | refine LeO.ite ?_ ?_
   | refine LeO.bind ?_ (fun _ => ?_)
theorem laws_FnExactTuneTone.mono : ∀ a0 a1 a2 a3 a4 k, LeO (laws_FnExactTuneTone.f k a0 a1 a2 a3 a4) (laws_FnExactTuneTone.f (k + 1) a0 a1 a2 a3 a4) := by
 intro a0 a1 a2 a3 a4 k
 obtain ⟨ih0, ih1, ih2⟩ := laws_FnExactTuneTone.mono_l k
 unfold laws_FnExactTuneTone.f
 repeat' first
   | (with_reducible exact ih0 _ _ _ _ _ _ _ _ _ _ _ _ _ _)
   | (with_reducible exact ih1 _ _ _ _ _ _ _ _ _ _ _)
   | (with_reducible exact ih2 _ _ _ _)
   | (with_reducible exact impl_TuneTone.mono _ _ _ _ _ _)
   | (with_reducible exact laws_eqTuning.mono _ _ _ _ _)
   | (with_reducible exact laws_heldTuning.mono _ _ _ _)
   | (with_reducible exact laws_markTuning.mono _ _ _ _)
   | (with_reducible exact laws_toTuning.mono _ _ _)
   | (with_reducible exact spec_TuneTone.mono _ _ _ _ _ _)
   | (with_reducible exact LeO.refl _)
   | (with_reducible exact LeO.none _)
   | (with_reducible refine LeO.ite ?_ ?_)
   | (with_reducible refine LeO.bind ?_ (fun _ => ?_))
   | exact ih0 _ _ _ _ _ _ _ _ _ _ _ _ _ _
   | exact ih1 _ _ _ _ _ _ _ _ _ _ _
   | exact ih2 _ _ _ _
   | exact impl_TuneTone.mono _ _ _ _ _ _
   | exact laws_eqTuning.mono _ _ _ _ _
   | exact laws_heldTuning.mono _ _ _ _
   | exact laws_markTuning.mono _ _ _ _
   | exact laws_toTuning.mono _ _ _
   | exact spec_TuneTone.mono _ _ _ _ _ _
   | exact LeO.none _
   | refine LeO.ite ?_ ?_
   | refine LeO.bind ?_ (fun _ => ?_)
def laws_FnExactTuneTone.T5 : Bool × List (List Nat × List Nat) := (true, [([], []), ([0], [0]), ([], []), ([], []), ([3, 1], [3]), ([1, 2, 4, 4], [1, 2, 4]), ([5], [5]), ([6], [6]), ([6], [6]), ([], []), ([9, 7, 5, 0, 1, 2, 3, 4, 5, 6, 7, 9], [7, 9]), ([8, 10, 0, 1, 2, 3, 4, 5, 6, 7, 8, 9, 10], [8])])
def laws_FnExactTuneTone.B5 : List Nat := [0, 1, 0, 0, 11, 31, 63, 127, 127, 0, 767, 2047]
theorem laws_FnExactTuneTone.tab5 : rtab .any (opsOf Try.f6 5) = laws_FnExactTuneTone.T5 := by kernel_rfl
theorem laws_FnExactTuneTone.bits5 : waitsOk laws_FnExactTuneTone.T5.2 laws_FnExactTuneTone.B5 = true := by kernel_rfl
def laws_FnExactTuneTone.T7 : Bool × List (List Nat × List Nat) := (true, [([], []), ([], []), ([], []), ([2], [2]), ([0, 1, 3, 3], [0, 1, 3]), ([4], [4]), ([5], [5]), ([5], [5]), ([], []), ([8, 6, 4, 0, 1, 2, 3, 4, 5, 6, 8], [6, 8]), ([7, 9, 0, 1, 2, 3, 4, 5, 6, 7, 8, 9], [7])])
def laws_FnExactTuneTone.B7 : List Nat := [0, 0, 0, 4, 15, 31, 63, 63, 0, 383, 1023]
theorem laws_FnExactTuneTone.tab7 : rtab .any (opsOf Try.f6 7) = laws_FnExactTuneTone.T7 := by kernel_rfl
theorem laws_FnExactTuneTone.bits7 : waitsOk laws_FnExactTuneTone.T7.2 laws_FnExactTuneTone.B7 = true := by kernel_rfl
def laws_FnExactTuneTone.T24 : Bool × List (List Nat × List Nat) := (true, [([], []), ([0], [0]), ([], []), ([], []), ([3, 1], [3]), ([1, 2, 4, 4], [1, 2, 4]), ([5], [5]), ([6], [6]), ([6], [6]), ([], []), ([9, 7, 5, 0, 1, 2, 3, 4, 5, 6, 7, 9], [7, 9]), ([8, 10, 0, 1, 2, 3, 4, 5, 6, 7, 8, 9, 10], [8])])
def laws_FnExactTuneTone.B24 : List Nat := [0, 1, 0, 0, 11, 31, 63, 127, 127, 0, 767, 2047]
theorem laws_FnExactTuneTone.tab24 : rtab .any (opsOf Try.f6 24) = laws_FnExactTuneTone.T24 := by kernel_rfl
theorem laws_FnExactTuneTone.bits24 : waitsOk laws_FnExactTuneTone.T24.2 laws_FnExactTuneTone.B24 = true := by kernel_rfl
set_option maxHeartbeats 8000000 in
set_option maxRecDepth 100000 in
theorem laws_FnExactTuneTone.calls (k : Nat) (a0_0 : ByteArray) (A0_1 : Option Addr) (c0_1 : Nat) (l0_1 : List (S38)) (a1 : Int) (a2_0 : Int) (a2_1 : Int) (w : World) (hr0_1 : Kd.C k38 w A0_1 l0_1.length l0_1) (hc0_1 : l0_1.length ≤ c0_1) (h : laws_FnExactTuneTone.f k a0_0 l0_1 a1 a2_0 a2_1 = some true) :
  Calls Try.prog 6 #[.agg #[.string a0_0, .slice A0_1 l0_1.length c0_1], .int .i64 a1, .agg #[.int .i64 a2_0, .int .i64 a2_1]] w fun e w' => e = .returned (.bool true) ∧ Below w.heap.size w w' := by
 have hu31 := Try.underlying31
 have hu38 := Try.underlying38
 have hu24 := Try.underlying24
 have HR0_1 := Aside0.mk hr0_1
 have HC0_1 := Aside0.mk hc0_1
 clear hr0_1 hc0_1
 have HB := Aside0.mk (Below.refl w.heap.size w)
 have H : ((laws_szTuning.f a0_0 l0_1 1048576).bind fun t192 => (if t192 < 0 then (some true) else ((laws_toTuning.f k a0_0 l0_1).bind fun bt193 => ((laws_toRatio.f a2_0 a2_1).bind fun bt197 => ((spec_TuneTone.f k bt193.1 bt193.2 a1 bt197.1 bt197.2).bind fun bt199 => ((laws_toTuning.f k a0_0 l0_1).bind fun bt205 => ((laws_toRatio.f a2_0 a2_1).bind fun bt210 => ((impl_TuneTone.f k bt205.1 bt205.2 a1 bt210.1 bt210.2).bind fun bt212 => ((laws_eqTuning.f k bt212.1 bt212.2.1 bt199.1 bt199.2.1).bind fun t218 => (if t218 = true then (laws_FnExactTuneTone.j0 k a1 bt199.2.2 bt212.2.2 (bt212.2.2 != bt199.2.2) a0_0 l0_1 a2_0 a2_1 bt199.1 bt199.2.1 bt205.1 bt205.2 bt212.1 bt212.2.1) else (laws_FnExactTuneTone.j0 k a1 bt199.2.2 bt212.2.2 true a0_0 l0_1 a2_0 a2_1 bt199.1 bt199.2.1 bt205.1 bt205.2 bt212.1 bt212.2.1))))))))))) = some true := h
 clear h
 replace H := Option.bind_eq_some_iff.mp H
 obtain ⟨t192, A40, H⟩ := H
 replace H : (if t192 < 0 then (some true) else ((laws_toTuning.f k a0_0 l0_1).bind fun bt193 => ((laws_toRatio.f a2_0 a2_1).bind fun bt197 => ((spec_TuneTone.f k bt193.1 bt193.2 a1 bt197.1 bt197.2).bind fun bt199 => ((laws_toTuning.f k a0_0 l0_1).bind fun bt205 => ((laws_toRatio.f a2_0 a2_1).bind fun bt210 => ((impl_TuneTone.f k bt205.1 bt205.2 a1 bt210.1 bt210.2).bind fun bt212 => ((laws_eqTuning.f k bt212.1 bt212.2.1 bt199.1 bt199.2.1).bind fun t218 => (if t218 = true then (laws_FnExactTuneTone.j0 k a1 bt199.2.2 bt212.2.2 (bt212.2.2 != bt199.2.2) a0_0 l0_1 a2_0 a2_1 bt199.1 bt199.2.1 bt205.1 bt205.2 bt212.1 bt212.2.1) else (laws_FnExactTuneTone.j0 k a1 bt199.2.2 bt212.2.2 true a0_0 l0_1 a2_0 a2_1 bt199.1 bt199.2.1 bt205.1 bt205.2 bt212.1 bt212.2.1)))))))))) = some true := H
 have A4 := Aside0.mk A40
 clear A40
 by_cases c5 : t192 < 0
 ·
  rw [if_pos c5] at H
  have c5b0 : decide (t192 < 0) = true := decide_eq_true c5
  clear c5
  clear H
  go_enter Try.func6, Try.ntmps6
  go_wp2_with (first | ((with_reducible refine gate_dst (N := 3) rfl ?_); refine box_event ?hg (N := 3) ?hd (cs := #[.string a0_0, .slice A0_1 l0_1.length c0_1]) (t := 31) ?hr ?_; (case hd => rfl); (case hg => rfl); (case hr => first | (go_simp; done) | (go_simp; rfl)); intro gb190 hg w6 hbox hb; have n0_ := Aside0.mk (below_step (by repeat (first | (with_reducible first | exact HB.out | apply bA | apply bN | apply bD) | exact HB.out)) hb); have n1_ := Aside0.mk (hbox); have n2_ := Aside0.mk ((by rw [hg]; exact (below_size (by repeat (first | (with_reducible first | exact HB.out | apply bA | apply bN | apply bD) | exact HB.out))) : w.heap.size ≤ gb190)); have n3_ := Aside0.mk ((by rw [hg]; exact (below_size (by repeat (first | (with_reducible first | exact HB.out | apply bA | apply bN | apply bD) | exact HB.out))) : w.heap.size ≤ gb190)); clear HB; have HB := n0_; have BK190 := n1_; have GW190 := n2_; have GE190 := n3_; clear n0_ n1_ n2_ n3_; clear hb hbox hg) | ((with_reducible refine gate_dst (N := 5) rfl ?_); refine box_event ?hg (N := 5) ?hd (cs := #[.int .i64 a2_0, .int .i64 a2_1]) (t := 38) ?hr ?_; (case hd => rfl); (case hg => rfl); (case hr => first | (go_simp; done) | (go_simp; rfl)); intro gb191 hg w7 hbox hb; have n0_ := Aside0.mk (bB hb BK190.out); have n1_ := Aside0.mk (below_step (by repeat (first | (with_reducible first | exact HB.out | apply bA | apply bN | apply bD | refine bS GE190.out ?_) | exact HB.out)) hb); have n2_ := Aside0.mk (hbox); have n3_ := Aside0.mk ((by rw [hg]; exact (below_size (by repeat (first | (with_reducible first | exact HB.out | apply bA | apply bN | apply bD | refine bS GE190.out ?_) | exact HB.out))) : w.heap.size ≤ gb191)); have n4_ := Aside0.mk ((by rw [hg]; exact (below_size (by repeat (first | (with_reducible first | exact HB.out | apply bA | apply bN | apply bD | refine bS GE190.out ?_) | exact HB.out))) : w.heap.size ≤ gb191)); have n5_ := Aside0.mk ((by rw [hg]; exact Nat.ne_of_lt (blk_lt BK190.out) : gb190 ≠ gb191)); have n6_ := Aside0.mk ((by rw [hg]; exact Nat.ne_of_gt (blk_lt BK190.out) : gb191 ≠ gb190)); clear BK190; clear HB; have BK190 := n0_; have HB := n1_; have BK191 := n2_; have GW191 := n3_; have GE191 := n4_; have NB190_191 := n5_; have NB191_190 := n6_; clear n0_ n1_ n2_ n3_ n4_ n5_ n6_; clear hb hbox hg; have hnb8 := NB190_191.out; have hnc8 := NB191_190.out; have hcz9_0 : w7.cell? ⟨gb190, 0, none⟩ = some (.string a0_0) := (blk_cell BK190.out 0).trans rfl; have hcz9_1 : w7.cell? ⟨gb190, 1, none⟩ = some (.slice A0_1 l0_1.length c0_1) := (blk_cell BK190.out 1).trans rfl; have hfz9_0 := blk_frozen BK190.out 0; have hfz9_1 := blk_frozen BK190.out 1) | ((with_reducible refine gate_callee (f := 15) rfl ?_); refine goesL_ (some 20) rfl rfl Try.func15 (by kernel_rfl) rfl #[.agg #[.string a0_0, .slice A0_1 l0_1.length c0_1], .int .i64 1048576] rfl (by (try simp only [List.map_toArray, List.map_cons, List.map_nil]); first | done | rfl | (simp only [List.length_drop, List.length_take]; rfl)) ?_; (with_reducible refine (laws_szTuning.calls a0_0 _ _ l0_1 1048576 t192 _ ?side1 ?side2 A4.out).mono ?_); (case side1 => repeat (first | exact (Kd.C_below HR0_1.out HB.out) | (with_reducible refine Kd.C_alloc ?_ _) | (with_reducible refine Kd.C_drewN ?_ _) | (with_reducible refine Kd.C_drew ?_))); (case side2 => exact HC0_1.out); rintro e w10 ⟨rfl, hb⟩; refine ⟨_, rfl, ?_⟩; have n0_ := Aside0.mk (bB hb BK190.out); have n1_ := Aside0.mk (bB hb BK191.out); have n2_ := Aside0.mk (below_step (by repeat (first | (with_reducible first | exact HB.out | apply bA | apply bN | apply bD | refine bS GE190.out ?_ | refine bS GE191.out ?_) | exact HB.out)) hb); clear BK190; clear BK191; clear HB; have BK190 := n0_; have BK191 := n1_; have HB := n2_; clear n0_ n1_ n2_; (try clear hb); (try clear hb2); (try clear hk); (try clear hi)))
  go_ret
  exact ⟨by first | rfl | (simp [errW_none, errW_some] <;> rfl) | (simp [*, errW_none, errW_some] <;> rfl), by repeat (first | (with_reducible first | exact HB.out | apply bA | apply bN | apply bD | refine bS GE190.out ?_ | refine bS GE191.out ?_) | exact HB.out)⟩
 ·
  rw [if_neg c5] at H
  have c5b0 : decide (t192 < 0) = false := decide_eq_false c5
  clear c5
  replace H := Option.bind_eq_some_iff.mp H
  obtain ⟨⟨t193, t194⟩, A110, H⟩ := H
  replace H : ((laws_toRatio.f a2_0 a2_1).bind fun bt197 => ((spec_TuneTone.f k t193 t194 a1 bt197.1 bt197.2).bind fun bt199 => ((laws_toTuning.f k a0_0 l0_1).bind fun bt205 => ((laws_toRatio.f a2_0 a2_1).bind fun bt210 => ((impl_TuneTone.f k bt205.1 bt205.2 a1 bt210.1 bt210.2).bind fun bt212 => ((laws_eqTuning.f k bt212.1 bt212.2.1 bt199.1 bt199.2.1).bind fun t218 => (if t218 = true then (laws_FnExactTuneTone.j0 k a1 bt199.2.2 bt212.2.2 (bt212.2.2 != bt199.2.2) a0_0 l0_1 a2_0 a2_1 bt199.1 bt199.2.1 bt205.1 bt205.2 bt212.1 bt212.2.1) else (laws_FnExactTuneTone.j0 k a1 bt199.2.2 bt212.2.2 true a0_0 l0_1 a2_0 a2_1 bt199.1 bt199.2.1 bt205.1 bt205.2 bt212.1 bt212.2.1)))))))) = some true := H
  have A11 := Aside0.mk A110
  clear A110
  replace H := Option.bind_eq_some_iff.mp H
  obtain ⟨⟨t197, t198⟩, A120, H⟩ := H
  replace H : ((spec_TuneTone.f k t193 t194 a1 t197 t198).bind fun bt199 => ((laws_toTuning.f k a0_0 l0_1).bind fun bt205 => ((laws_toRatio.f a2_0 a2_1).bind fun bt210 => ((impl_TuneTone.f k bt205.1 bt205.2 a1 bt210.1 bt210.2).bind fun bt212 => ((laws_eqTuning.f k bt212.1 bt212.2.1 bt199.1 bt199.2.1).bind fun t218 => (if t218 = true then (laws_FnExactTuneTone.j0 k a1 bt199.2.2 bt212.2.2 (bt212.2.2 != bt199.2.2) a0_0 l0_1 a2_0 a2_1 bt199.1 bt199.2.1 bt205.1 bt205.2 bt212.1 bt212.2.1) else (laws_FnExactTuneTone.j0 k a1 bt199.2.2 bt212.2.2 true a0_0 l0_1 a2_0 a2_1 bt199.1 bt199.2.1 bt205.1 bt205.2 bt212.1 bt212.2.1))))))) = some true := H
  have A12 := Aside0.mk A120
  clear A120
  replace H := Option.bind_eq_some_iff.mp H
  obtain ⟨⟨t199, t200, t203⟩, A130, H⟩ := H
  replace H : ((laws_toTuning.f k a0_0 l0_1).bind fun bt205 => ((laws_toRatio.f a2_0 a2_1).bind fun bt210 => ((impl_TuneTone.f k bt205.1 bt205.2 a1 bt210.1 bt210.2).bind fun bt212 => ((laws_eqTuning.f k bt212.1 bt212.2.1 t199 t200).bind fun t218 => (if t218 = true then (laws_FnExactTuneTone.j0 k a1 t203 bt212.2.2 (bt212.2.2 != t203) a0_0 l0_1 a2_0 a2_1 t199 t200 bt205.1 bt205.2 bt212.1 bt212.2.1) else (laws_FnExactTuneTone.j0 k a1 t203 bt212.2.2 true a0_0 l0_1 a2_0 a2_1 t199 t200 bt205.1 bt205.2 bt212.1 bt212.2.1)))))) = some true := H
  have A13 := Aside0.mk A130
  clear A130
  replace H := Option.bind_eq_some_iff.mp H
  obtain ⟨⟨t205, t206⟩, A140, H⟩ := H
  replace H : ((laws_toRatio.f a2_0 a2_1).bind fun bt210 => ((impl_TuneTone.f k t205 t206 a1 bt210.1 bt210.2).bind fun bt212 => ((laws_eqTuning.f k bt212.1 bt212.2.1 t199 t200).bind fun t218 => (if t218 = true then (laws_FnExactTuneTone.j0 k a1 t203 bt212.2.2 (bt212.2.2 != t203) a0_0 l0_1 a2_0 a2_1 t199 t200 t205 t206 bt212.1 bt212.2.1) else (laws_FnExactTuneTone.j0 k a1 t203 bt212.2.2 true a0_0 l0_1 a2_0 a2_1 t199 t200 t205 t206 bt212.1 bt212.2.1))))) = some true := H
  have A14 := Aside0.mk A140
  clear A140
  replace H := Option.bind_eq_some_iff.mp H
  obtain ⟨⟨t210, t211⟩, A150, H⟩ := H
  replace H : ((impl_TuneTone.f k t205 t206 a1 t210 t211).bind fun bt212 => ((laws_eqTuning.f k bt212.1 bt212.2.1 t199 t200).bind fun t218 => (if t218 = true then (laws_FnExactTuneTone.j0 k a1 t203 bt212.2.2 (bt212.2.2 != t203) a0_0 l0_1 a2_0 a2_1 t199 t200 t205 t206 bt212.1 bt212.2.1) else (laws_FnExactTuneTone.j0 k a1 t203 bt212.2.2 true a0_0 l0_1 a2_0 a2_1 t199 t200 t205 t206 bt212.1 bt212.2.1)))) = some true := H
  have A15 := Aside0.mk A150
  clear A150
  replace H := Option.bind_eq_some_iff.mp H
  obtain ⟨⟨t212, t213, t216⟩, A160, H⟩ := H
  replace H : ((laws_eqTuning.f k t212 t213 t199 t200).bind fun t218 => (if t218 = true then (laws_FnExactTuneTone.j0 k a1 t203 t216 (t216 != t203) a0_0 l0_1 a2_0 a2_1 t199 t200 t205 t206 t212 t213) else (laws_FnExactTuneTone.j0 k a1 t203 t216 true a0_0 l0_1 a2_0 a2_1 t199 t200 t205 t206 t212 t213))) = some true := H
  have A16 := Aside0.mk A160
  clear A160
  have HC17 := Aside0.mk H
  clear H
  go_enter Try.func6, Try.ntmps6
  try go_wp2_with (first | ((with_reducible refine gate_dst (N := 3) rfl ?_); refine box_event ?hg (N := 3) ?hd (cs := #[.string a0_0, .slice A0_1 l0_1.length c0_1]) (t := 31) ?hr ?_; (case hd => rfl); (case hg => rfl); (case hr => first | (go_simp; done) | (go_simp; rfl)); intro gb190 hg w18 hbox hb; have n0_ := Aside0.mk (below_step (by repeat (first | (with_reducible first | exact HB.out | apply bA | apply bN | apply bD) | exact HB.out)) hb); have n1_ := Aside0.mk (hbox); have n2_ := Aside0.mk ((by rw [hg]; exact (below_size (by repeat (first | (with_reducible first | exact HB.out | apply bA | apply bN | apply bD) | exact HB.out))) : w.heap.size ≤ gb190)); have n3_ := Aside0.mk ((by rw [hg]; exact (below_size (by repeat (first | (with_reducible first | exact HB.out | apply bA | apply bN | apply bD) | exact HB.out))) : w.heap.size ≤ gb190)); clear HB; have HB := n0_; have BK190 := n1_; have GW190 := n2_; have GE190 := n3_; clear n0_ n1_ n2_ n3_; clear hb hbox hg) | ((with_reducible refine gate_dst (N := 5) rfl ?_); refine box_event ?hg (N := 5) ?hd (cs := #[.int .i64 a2_0, .int .i64 a2_1]) (t := 38) ?hr ?_; (case hd => rfl); (case hg => rfl); (case hr => first | (go_simp; done) | (go_simp; rfl)); intro gb191 hg w19 hbox hb; have n0_ := Aside0.mk (bB hb BK190.out); have n1_ := Aside0.mk (below_step (by repeat (first | (with_reducible first | exact HB.out | apply bA | apply bN | apply bD | refine bS GE190.out ?_) | exact HB.out)) hb); have n2_ := Aside0.mk (hbox); have n3_ := Aside0.mk ((by rw [hg]; exact (below_size (by repeat (first | (with_reducible first | exact HB.out | apply bA | apply bN | apply bD | refine bS GE190.out ?_) | exact HB.out))) : w.heap.size ≤ gb191)); have n4_ := Aside0.mk ((by rw [hg]; exact (below_size (by repeat (first | (with_reducible first | exact HB.out | apply bA | apply bN | apply bD | refine bS GE190.out ?_) | exact HB.out))) : w.heap.size ≤ gb191)); have n5_ := Aside0.mk ((by rw [hg]; exact Nat.ne_of_lt (blk_lt BK190.out) : gb190 ≠ gb191)); have n6_ := Aside0.mk ((by rw [hg]; exact Nat.ne_of_gt (blk_lt BK190.out) : gb191 ≠ gb190)); clear BK190; clear HB; have BK190 := n0_; have HB := n1_; have BK191 := n2_; have GW191 := n3_; have GE191 := n4_; have NB190_191 := n5_; have NB191_190 := n6_; clear n0_ n1_ n2_ n3_ n4_ n5_ n6_; clear hb hbox hg; have hnb20 := NB190_191.out; have hnc20 := NB191_190.out; have hcz21_0 : w19.cell? ⟨gb190, 0, none⟩ = some (.string a0_0) := (blk_cell BK190.out 0).trans rfl; have hcz21_1 : w19.cell? ⟨gb190, 1, none⟩ = some (.slice A0_1 l0_1.length c0_1) := (blk_cell BK190.out 1).trans rfl; have hfz21_0 := blk_frozen BK190.out 0; have hfz21_1 := blk_frozen BK190.out 1) | ((with_reducible refine gate_callee (f := 15) rfl ?_); refine goesL_ (some 20) rfl rfl Try.func15 (by kernel_rfl) rfl #[.agg #[.string a0_0, .slice A0_1 l0_1.length c0_1], .int .i64 1048576] rfl (by (try simp only [List.map_toArray, List.map_cons, List.map_nil]); first | done | rfl | (simp only [List.length_drop, List.length_take]; rfl)) ?_; (with_reducible refine (laws_szTuning.calls a0_0 _ _ l0_1 1048576 t192 _ ?side1 ?side2 A4.out).mono ?_); (case side1 => repeat (first | exact (Kd.C_below HR0_1.out HB.out) | (with_reducible refine Kd.C_alloc ?_ _) | (with_reducible refine Kd.C_drewN ?_ _) | (with_reducible refine Kd.C_drew ?_))); (case side2 => exact HC0_1.out); rintro e w22 ⟨rfl, hb⟩; refine ⟨_, rfl, ?_⟩; have n0_ := Aside0.mk (bB hb BK190.out); have n1_ := Aside0.mk (bB hb BK191.out); have n2_ := Aside0.mk (below_step (by repeat (first | (with_reducible first | exact HB.out | apply bA | apply bN | apply bD | refine bS GE190.out ?_ | refine bS GE191.out ?_) | exact HB.out)) hb); clear BK190; clear BK191; clear HB; have BK190 := n0_; have BK191 := n1_; have HB := n2_; clear n0_ n1_ n2_; (try clear hb); (try clear hb2); (try clear hk); (try clear hi)))
  have n0_ := Aside0.mk (blk_drew BK190.out)
  have n1_ := Aside0.mk (blk_drew BK191.out)
  have n2_ := Aside0.mk (below_drew1 HB.out)
  clear BK190
  clear BK191
  clear HB
  have BK190 := n0_
  have BK191 := n1_
  have HB := n2_
  clear n0_ n1_ n2_
  refine start_ (n := 12) (S := fun w' => w'.cell? ⟨gb190, 0, none⟩ = some (.string a0_0) ∧ w'.cell? ⟨gb190, 1, none⟩ = some (.slice A0_1 l0_1.length c0_1) ∧ w'.cell? ⟨gb191, 0, none⟩ = some (.int .i64 a2_0) ∧ w'.cell? ⟨gb191, 1, none⟩ = some (.int .i64 a2_1)) (ds := []) bl6_0 (by kernel_rfl) rfl rfl ⟨(blk_cell BK190.out 0).trans rfl, (blk_cell BK190.out 1).trans rfl, (blk_cell BK191.out 0).trans rfl, (blk_cell BK191.out 1).trans rfl⟩ (fun hHeld => ?_); refine with_tabW laws_FnExactTuneTone.tab5 laws_FnExactTuneTone.bits5 (fun HT_ HW_ => ?_)
  generalize w22.drew = w23 at BK190 BK191 HB hHeld ⊢
  refine pure_ (i := 2) (N := some 26) (v := ?_) (a' := ?_) bl6_1 rfl rfl (any_of HT_.out (by kernel_rfl)) (fun _ _ _ h => h) (Or.inl ⟨by rfl, ?_⟩) ?_ ?_
  rotate_left
  ·
   intro w'
   go_simp
   with_reducible rfl
  rotate_left
  ·
   simp only [Act.put, sA, sZ, sS, i64_w, i32_w]
   rfl
  refine take_ (i := 0) (N := some 24) (v := ?_) (a' := ?_) bl6_2 rfl rfl (take_ofW HT_.out HW_.out (by kernel_rfl)) (fun _ _ _ h => h) (Or.inl ⟨by rfl, ?_⟩) hHeld ?_ ?_
  rotate_left
  ·
   rintro w' ⟨s0, s1, s2, s3⟩
   go_simp
   with_reducible rfl
  rotate_left
  ·
   simp only [Act.put, sA, sZ, sS, i64_w, i32_w]
   rfl
  refine take_ (i := 3) (N := some 27) (v := ?_) (a' := ?_) bl6_3 rfl rfl (take_ofW HT_.out HW_.out (by kernel_rfl)) (fun _ _ _ h => h) (Or.inl ⟨by rfl, ?_⟩) hHeld ?_ ?_
  rotate_left
  ·
   rintro w' ⟨s0, s1, s2, s3⟩
   go_simp
   with_reducible rfl
  rotate_left
  ·
   simp only [Act.put, sA, sZ, sS, i64_w, i32_w]
   rfl
  refine join_ (σ := Value × Value × Nat) 2 bl6_20 (fun s_ => [(25, .agg #[.string t193, s_.1]), (28, .agg #[.int .i64 t197, .int .i64 t198]), (29, .tuple #[.agg #[.string t199, s_.2.1], .int .i64 t203]), (8, .pointer (some ⟨s_.2.2, 0, none⟩)), (23, .tuple #[.agg #[.string t199, s_.2.1], .int .i64 t203]), (30, .agg #[.string t199, s_.2.1]), (31, .int .i64 t203)]) (fun s_ w' => (w'.cell? ⟨gb190, 0, none⟩ = some (.string a0_0) ∧ w'.cell? ⟨gb190, 1, none⟩ = some (.slice A0_1 l0_1.length c0_1) ∧ w'.cell? ⟨gb191, 0, none⟩ = some (.int .i64 a2_0) ∧ w'.cell? ⟨gb191, 1, none⟩ = some (.int .i64 a2_1)) ∧ (Kd.R k41 41 w' w.heap.size (fun k_ => some k_ ≠ (s_.2.1 : Value).ownBlock) s_.1 t194) ∧ (Kd.R k41 41 w' w.heap.size (fun k_ => some k_ ≠ (s_.1 : Value).ownBlock) s_.2.1 t200) ∧ (w'.heap[gb190]? = some (.cells #[.string a0_0, .slice A0_1 l0_1.length c0_1] 31 (0, 0))) ∧ (w'.heap[gb191]? = some (.cells #[.int .i64 a2_0, .int .i64 a2_1] 38 (0, 0))) ∧ (w'.heap[s_.2.2]? = some (.cells #[.string (⟨#[]⟩ : ByteArray), .slice none 0 0] 24 (0, 0))) ∧ (w.heap.size ≤ s_.2.2) ∧ (w.heap.size ≤ s_.2.2) ∧ (gb190 ≠ s_.2.2) ∧ (s_.2.2 ≠ gb190) ∧ (gb191 ≠ s_.2.2) ∧ (s_.2.2 ≠ gb191) ∧ (Below w.heap.size w w')) ?_ ?_
  rotate_left
  ·
   intro hCont
   refine two_ (i := 1) (j := 9) (Ni := some 25) (Nj := some 8) bl6_4 bl6_5 rfl rfl rfl rfl (two_of HT_.out (by kernel_rfl)) (by decide) (by decide) (fun K hK => ?_) (fun K hK => ?_)
   ·
    skip
    refine goes_ Try.func17 (by kernel_rfl) rfl #[.agg #[.string a0_0, .slice A0_1 l0_1.length c0_1]] (by rfl) rfl rfl (by (try simp only [List.map_toArray, List.map_cons, List.map_nil]); first | done | rfl | (simp only [List.length_drop, List.length_take]; rfl)) ?_
    with_reducible refine (laws_toTuning.calls k a0_0 _ _ l0_1 t193 t194 _ ?side1 ?side2 A11.out).mono ?_
    (case side1 => repeat (first | exact (Kd.C_below HR0_1.out HB.out) | (with_reducible refine Kd.C_alloc ?_ _) | (with_reducible refine Kd.C_drewN ?_ _) | (with_reducible refine Kd.C_drew ?_)))
    (case side2 => exact HC0_1.out)
    rintro e w24 ⟨v195, rfl, ho0, hb⟩
    refine ⟨_, rfl, ?_⟩
    have n0_ := Aside0.mk (Kd.R_lower ho0 (below_size (by repeat (first | (with_reducible first | exact HB.out | apply bA | apply bN | apply bD | refine bS GE190.out ?_ | refine bS GE191.out ?_) | exact HB.out))))
    have n1_ := Aside0.mk (bB hb BK190.out)
    have n2_ := Aside0.mk (bB hb BK191.out)
    have n3_ := Aside0.mk (below_step (by repeat (first | (with_reducible first | exact HB.out | apply bA | apply bN | apply bD | refine bS GE190.out ?_ | refine bS GE191.out ?_) | exact HB.out)) hb)
    clear BK190
    clear BK191
    clear HB
    have HO196 := n0_
    have BK190 := n1_
    have BK191 := n2_
    have HB := n3_
    clear n0_ n1_ n2_ n3_
    (try clear hb)
    (try clear hb2)
    (try clear hk)
    (try clear hi)
    (try clear ho0)
    refine hK.out _ _ ⟨(blk_cell BK190.out 0).trans rfl, (blk_cell BK190.out 1).trans rfl, (blk_cell BK191.out 0).trans rfl, (blk_cell BK191.out 1).trans rfl⟩ (fun hHeld => ?_)
    clear hK K
    refine norm_ (a' := ?_) ?_ ?_
    rotate_left
    ·
     show Act.put _ (some 25) _ = _
     simp only [Act.put, sA, sZ, sS, i64_w, i32_w]
     rfl
    refine two_ (i := 4) (j := 9) (Ni := some 28) (Nj := some 8) bl6_6 bl6_7 rfl rfl rfl rfl (two_of HT_.out (by kernel_rfl)) (by decide) (by decide) (fun K hK => ?_) (fun K hK => ?_)
    ·
     skip
     refine goes_ Try.func22 (by kernel_rfl) rfl #[.agg #[.int .i64 a2_0, .int .i64 a2_1]] (by rfl) rfl rfl (by (try simp only [List.map_toArray, List.map_cons, List.map_nil]); first | done | rfl | (simp only [List.length_drop, List.length_take]; rfl)) ?_
     with_reducible refine (laws_toRatio.calls a2_0 a2_1 t197 t198 _ A12.out).mono ?_
     rintro e w25 ⟨rfl, hb⟩
     refine ⟨_, rfl, ?_⟩
     have n0_ := Aside0.mk (Kd.R_below (by (with_reducible repeat (first | apply rA | apply rN | apply rD)); exact HO196.out) hb)
     have n1_ := Aside0.mk (bB hb BK190.out)
     have n2_ := Aside0.mk (bB hb BK191.out)
     have n3_ := Aside0.mk (below_step (by repeat (first | (with_reducible first | exact HB.out | apply bA | apply bN | apply bD | refine bS GE190.out ?_ | refine bS GE191.out ?_) | exact HB.out)) hb)
     clear HO196
     clear BK190
     clear BK191
     clear HB
     have HO196 := n0_
     have BK190 := n1_
     have BK191 := n2_
     have HB := n3_
     clear n0_ n1_ n2_ n3_
     (try clear hb)
     (try clear hb2)
     (try clear hk)
     (try clear hi)
     obtain ⟨Ao26, co26, eo26⟩ := Kd.R_slice HO196.out
     (first | subst eo26 | (injection eo26 with f1_ f2_ f3_; have f4_ := f1_.symm; have f5_ := f3_.symm; clear f1_ f2_ f3_; subst f4_; subst f5_))
     refine hK.out _ _ ⟨(blk_cell BK190.out 0).trans rfl, (blk_cell BK190.out 1).trans rfl, (blk_cell BK191.out 0).trans rfl, (blk_cell BK191.out 1).trans rfl⟩ (fun hHeld => ?_)
     clear hK K
     refine norm_ (a' := ?_) ?_ ?_
     rotate_left
     ·
      show Act.put _ (some 28) _ = _
      simp only [Act.put, sA, sZ, sS, i64_w, i32_w]
      rfl
     refine two_ (i := 5) (j := 9) (Ni := some 29) (Nj := some 8) bl6_8 bl6_9 rfl rfl rfl rfl (two_of HT_.out (by kernel_rfl)) (by decide) (by decide) (fun K hK => ?_) (fun K hK => ?_)
     ·
      skip
      refine goes_ Try.func21 (by kernel_rfl) rfl #[.agg #[.string t193, .slice Ao26 t194.length co26], .int .i64 a1, .agg #[.int .i64 t197, .int .i64 t198]] (by rfl) rfl rfl (by (try simp only [List.map_toArray, List.map_cons, List.map_nil]); first | done | rfl | (simp only [List.length_drop, List.length_take]; rfl)) ?_
      with_reducible refine (spec_TuneTone.calls k t193 _ _ t194 a1 t197 t198 t199 t200 t203 _ ?side1 ?side2 A13.out).mono ?_
      (case side1 => repeat (first | exact (Kd.R_reads' HO196.out).2.2 | (with_reducible refine Kd.C_alloc ?_ _) | (with_reducible refine Kd.C_drewN ?_ _) | (with_reducible refine Kd.C_drew ?_)))
      (case side2 => exact (Kd.R_reads' HO196.out).2.1)
      rintro e w27 ⟨v201, rfl, ho0, hb⟩
      refine ⟨_, rfl, ?_⟩
      have n0_ := Aside0.mk (Kd.R_elder' (by (with_reducible repeat (first | apply rA | apply rN | apply rD)); exact HO196.out) (Kd.R_base ho0) hb)
      have n1_ := Aside0.mk (Kd.R_lower (Kd.R_new' ho0 (Kd.R_lt (by (with_reducible repeat (first | apply rA | apply rN | apply rD)); exact HO196.out))) (below_size (by repeat (first | (with_reducible first | exact HB.out | apply bA | apply bN | apply bD | refine bS GE190.out ?_ | refine bS GE191.out ?_) | exact HB.out))))
      have n2_ := Aside0.mk (bB hb BK190.out)
      have n3_ := Aside0.mk (bB hb BK191.out)
      have n4_ := Aside0.mk (below_step (by repeat (first | (with_reducible first | exact HB.out | apply bA | apply bN | apply bD | refine bS GE190.out ?_ | refine bS GE191.out ?_) | exact HB.out)) hb)
      clear HO196
      clear BK190
      clear BK191
      clear HB
      have HO196 := n0_
      have HO202 := n1_
      have BK190 := n2_
      have BK191 := n3_
      have HB := n4_
      clear n0_ n1_ n2_ n3_ n4_
      (try clear hb)
      (try clear hb2)
      (try clear hk)
      (try clear hi)
      (try clear ho0)
      refine hK.out _ _ ⟨(blk_cell BK190.out 0).trans rfl, (blk_cell BK190.out 1).trans rfl, (blk_cell BK191.out 0).trans rfl, (blk_cell BK191.out 1).trans rfl⟩ (fun hHeld => ?_)
      clear hK K
      refine norm_ (a' := ?_) ?_ ?_
      rotate_left
      ·
       show Act.put _ (some 29) _ = _
       simp only [Act.put, sA, sZ, sS, i64_w, i32_w]
       rfl
      refine pure_ (i := 6) (N := some 23) (v := ?_) (a' := ?_) bl6_11 rfl rfl (any_of HT_.out (by kernel_rfl)) (fun _ _ _ h => h) (Or.inl ⟨by rfl, ?_⟩) ?_ ?_
      rotate_left
      ·
       intro w'
       go_simp
       with_reducible rfl
      rotate_left
      ·
       simp only [Act.put, sA, sZ, sS, i64_w, i32_w]
       rfl
      refine pure_ (i := 7) (N := some 30) (v := ?_) (a' := ?_) bl6_14 rfl rfl (any_of HT_.out (by kernel_rfl)) (fun _ _ _ h => h) (Or.inl ⟨by rfl, ?_⟩) ?_ ?_
      rotate_left
      ·
       intro w'
       go_simp
       with_reducible rfl
      rotate_left
      ·
       simp only [Act.put, sA, sZ, sS, i64_w, i32_w]
       rfl
      refine pure_ (i := 8) (N := some 31) (v := ?_) (a' := ?_) bl6_18 rfl rfl (any_of HT_.out (by kernel_rfl)) (fun _ _ _ h => h) (Or.inl ⟨by rfl, ?_⟩) ?_ ?_
      rotate_left
      ·
       intro w'
       go_simp
       with_reducible rfl
      rotate_left
      ·
       simp only [Act.put, sA, sZ, sS, i64_w, i32_w]
       rfl
      refine one_ (i := 9) (N := some 8) bl6_20 rfl rfl (one_of HT_.out (by kernel_rfl)) (by decide) (fun K hK => ?_)
      refine box_step ?hg (N := 8) ?hd (cs := #[.string (⟨#[]⟩ : ByteArray), .slice none 0 0]) (t := 24) ?hr ?_; (case hd => rfl); (case hg => rfl); (case hr => first | (go_simp; done) | (go_simp; rfl))
      intro gb204 hg w28 hbox hb
      have n0_ := Aside0.mk (Kd.R_below (by (with_reducible repeat (first | apply rA | apply rN | apply rD)); exact HO196.out) hb)
      have n1_ := Aside0.mk (Kd.R_below (by (with_reducible repeat (first | apply rA | apply rN | apply rD)); exact HO202.out) hb)
      have n2_ := Aside0.mk (bB hb BK190.out)
      have n3_ := Aside0.mk (bB hb BK191.out)
      have n4_ := Aside0.mk (below_step (by repeat (first | (with_reducible first | exact HB.out | apply bA | apply bN | apply bD | refine bS GE190.out ?_ | refine bS GE191.out ?_) | exact HB.out)) hb)
      have n5_ := Aside0.mk (hbox)
      have n6_ := Aside0.mk ((by rw [hg]; exact (below_size (by repeat (first | (with_reducible first | exact HB.out | apply bA | apply bN | apply bD | refine bS GE190.out ?_ | refine bS GE191.out ?_) | exact HB.out))) : w.heap.size ≤ gb204))
      have n7_ := Aside0.mk ((by rw [hg]; exact (below_size (by repeat (first | (with_reducible first | exact HB.out | apply bA | apply bN | apply bD | refine bS GE190.out ?_ | refine bS GE191.out ?_) | exact HB.out))) : w.heap.size ≤ gb204))
      have n8_ := Aside0.mk ((by rw [hg]; exact Nat.ne_of_lt (blk_lt BK190.out) : gb190 ≠ gb204))
      have n9_ := Aside0.mk ((by rw [hg]; exact Nat.ne_of_gt (blk_lt BK190.out) : gb204 ≠ gb190))
      have n10_ := Aside0.mk ((by rw [hg]; exact Nat.ne_of_lt (blk_lt BK191.out) : gb191 ≠ gb204))
      have n11_ := Aside0.mk ((by rw [hg]; exact Nat.ne_of_gt (blk_lt BK191.out) : gb204 ≠ gb191))
      clear HO196
      clear HO202
      clear BK190
      clear BK191
      clear HB
      have HO196 := n0_
      have HO202 := n1_
      have BK190 := n2_
      have BK191 := n3_
      have HB := n4_
      have BK204 := n5_
      have GW204 := n6_
      have GE204 := n7_
      have NB190_204 := n8_
      have NB204_190 := n9_
      have NB191_204 := n10_
      have NB204_191 := n11_
      clear n0_ n1_ n2_ n3_ n4_ n5_ n6_ n7_ n8_ n9_ n10_ n11_
      clear hb hbox hg
      refine hK.out _ _ ⟨(blk_cell BK190.out 0).trans rfl, (blk_cell BK190.out 1).trans rfl, (blk_cell BK191.out 0).trans rfl, (blk_cell BK191.out 1).trans rfl⟩ (fun hHeld => ?_)
      clear hK K
      refine norm_ (a' := ?_) ?_ ?_
      rotate_left
      ·
       show Act.put _ (some 8) _ = _
       simp only [Act.put, sA, sZ, sS, i64_w, i32_w]
       rfl
      exact norm_ (by simp only [putAll, Act.put, List.setIfInBounds_toArray, List.set_cons_zero, List.set_cons_succ]) (hCont (.slice Ao26 t194.length co26, v201, gb204) _ ⟨hHeld, (by (with_reducible repeat (first | apply rA | apply rN | apply rD)); exact Kd.R_mono HO196.out (fun _ hk => hk.2)), (by (with_reducible repeat (first | apply rA | apply rN | apply rD)); exact Kd.R_mono HO202.out (fun _ hk => hk.2)), BK190.out, BK191.out, BK204.out, GW204.out, GE204.out, NB190_204.out, NB204_190.out, NB191_204.out, NB204_191.out, (by repeat (first | (with_reducible first | exact HB.out | apply bA | apply bN | apply bD | refine bS GE190.out ?_ | refine bS GE191.out ?_ | refine bS GE204.out ?_) | exact HB.out))⟩)
     ·
      skip
      refine box_step ?hg (N := 8) ?hd (cs := #[.string (⟨#[]⟩ : ByteArray), .slice none 0 0]) (t := 24) ?hr ?_; (case hd => rfl); (case hg => rfl); (case hr => first | (go_simp; done) | (go_simp; rfl))
      intro gb204 hg w26 hbox hb
      have n0_ := Aside0.mk (Kd.R_below (by (with_reducible repeat (first | apply rA | apply rN | apply rD)); exact HO196.out) hb)
      have n1_ := Aside0.mk (bB hb BK190.out)
      have n2_ := Aside0.mk (bB hb BK191.out)
      have n3_ := Aside0.mk (below_step (by repeat (first | (with_reducible first | exact HB.out | apply bA | apply bN | apply bD | refine bS GE190.out ?_ | refine bS GE191.out ?_) | exact HB.out)) hb)
      have n4_ := Aside0.mk (hbox)
      have n5_ := Aside0.mk ((by rw [hg]; exact (below_size (by repeat (first | (with_reducible first | exact HB.out | apply bA | apply bN | apply bD | refine bS GE190.out ?_ | refine bS GE191.out ?_) | exact HB.out))) : w.heap.size ≤ gb204))
      have n6_ := Aside0.mk ((by rw [hg]; exact (below_size (by repeat (first | (with_reducible first | exact HB.out | apply bA | apply bN | apply bD | refine bS GE190.out ?_ | refine bS GE191.out ?_) | exact HB.out))) : w.heap.size ≤ gb204))
      have n7_ := Aside0.mk ((by rw [hg]; exact Nat.ne_of_lt (blk_lt BK190.out) : gb190 ≠ gb204))
      have n8_ := Aside0.mk ((by rw [hg]; exact Nat.ne_of_gt (blk_lt BK190.out) : gb204 ≠ gb190))
      have n9_ := Aside0.mk ((by rw [hg]; exact Nat.ne_of_lt (blk_lt BK191.out) : gb191 ≠ gb204))
      have n10_ := Aside0.mk ((by rw [hg]; exact Nat.ne_of_gt (blk_lt BK191.out) : gb204 ≠ gb191))
      clear HO196
      clear BK190
      clear BK191
      clear HB
      have HO196 := n0_
      have BK190 := n1_
      have BK191 := n2_
      have HB := n3_
      have BK204 := n4_
      have GW204 := n5_
      have GE204 := n6_
      have NB190_204 := n7_
      have NB204_190 := n8_
      have NB191_204 := n9_
      have NB204_191 := n10_
      clear n0_ n1_ n2_ n3_ n4_ n5_ n6_ n7_ n8_ n9_ n10_
      clear hb hbox hg
      obtain ⟨Ao27, co27, eo27⟩ := Kd.R_slice HO196.out
      (first | subst eo27 | (injection eo27 with f1_ f2_ f3_; have f4_ := f1_.symm; have f5_ := f3_.symm; clear f1_ f2_ f3_; subst f4_; subst f5_))
      refine hK.out _ _ ⟨(blk_cell BK190.out 0).trans rfl, (blk_cell BK190.out 1).trans rfl, (blk_cell BK191.out 0).trans rfl, (blk_cell BK191.out 1).trans rfl⟩ (fun hHeld => ?_)
      clear hK K
      refine norm_ (a' := ?_) ?_ ?_
      rotate_left
      ·
       show Act.put _ (some 8) _ = _
       simp only [Act.put, sA, sZ, sS, i64_w, i32_w]
       rfl
      refine one_ (i := 5) (N := some 29) bl6_10 rfl rfl (one_of HT_.out (by kernel_rfl)) (by decide) (fun K hK => ?_)
      refine goes_ Try.func21 (by kernel_rfl) rfl #[.agg #[.string t193, .slice Ao27 t194.length co27], .int .i64 a1, .agg #[.int .i64 t197, .int .i64 t198]] (by rfl) rfl rfl (by (try simp only [List.map_toArray, List.map_cons, List.map_nil]); first | done | rfl | (simp only [List.length_drop, List.length_take]; rfl)) ?_
      with_reducible refine (spec_TuneTone.calls k t193 _ _ t194 a1 t197 t198 t199 t200 t203 _ ?side1 ?side2 A13.out).mono ?_
      (case side1 => repeat (first | exact (Kd.R_reads' HO196.out).2.2 | (with_reducible refine Kd.C_alloc ?_ _) | (with_reducible refine Kd.C_drewN ?_ _) | (with_reducible refine Kd.C_drew ?_)))
      (case side2 => exact (Kd.R_reads' HO196.out).2.1)
      rintro e w28 ⟨v201, rfl, ho0, hb⟩
      refine ⟨_, rfl, ?_⟩
      have n0_ := Aside0.mk (Kd.R_elder' (by (with_reducible repeat (first | apply rA | apply rN | apply rD)); exact HO196.out) (Kd.R_base ho0) hb)
      have n1_ := Aside0.mk (Kd.R_lower (Kd.R_new' ho0 (Kd.R_lt (by (with_reducible repeat (first | apply rA | apply rN | apply rD)); exact HO196.out))) (below_size (by repeat (first | (with_reducible first | exact HB.out | apply bA | apply bN | apply bD | refine bS GE190.out ?_ | refine bS GE191.out ?_ | refine bS GE204.out ?_) | exact HB.out))))
      have n2_ := Aside0.mk (bB hb BK190.out)
      have n3_ := Aside0.mk (bB hb BK191.out)
      have n4_ := Aside0.mk (blk_below (g := gb204) (o := .cells #[.string (⟨#[]⟩ : ByteArray), .slice none 0 0] 24 (0, 0)) BK204.out hb)
      have n5_ := Aside0.mk (below_step (by repeat (first | (with_reducible first | exact HB.out | apply bA | apply bN | apply bD | refine bS GE190.out ?_ | refine bS GE191.out ?_ | refine bS GE204.out ?_) | exact HB.out)) hb)
      clear HO196
      clear BK190
      clear BK191
      clear BK204
      clear HB
      have HO196 := n0_
      have HO202 := n1_
      have BK190 := n2_
      have BK191 := n3_
      have BK204 := n4_
      have HB := n5_
      clear n0_ n1_ n2_ n3_ n4_ n5_
      (try clear hb)
      (try clear hb2)
      (try clear hk)
      (try clear hi)
      (try clear ho0)
      refine hK.out _ _ ⟨(blk_cell BK190.out 0).trans rfl, (blk_cell BK190.out 1).trans rfl, (blk_cell BK191.out 0).trans rfl, (blk_cell BK191.out 1).trans rfl⟩ (fun hHeld => ?_)
      clear hK K
      refine norm_ (a' := ?_) ?_ ?_
      rotate_left
      ·
       show Act.put _ (some 29) _ = _
       simp only [Act.put, sA, sZ, sS, i64_w, i32_w]
       rfl
      refine pure_ (i := 6) (N := some 23) (v := ?_) (a' := ?_) bl6_13 rfl rfl (any_of HT_.out (by kernel_rfl)) (fun _ _ _ h => h) (Or.inl ⟨by rfl, ?_⟩) ?_ ?_
      rotate_left
      ·
       intro w'
       go_simp
       with_reducible rfl
      rotate_left
      ·
       simp only [Act.put, sA, sZ, sS, i64_w, i32_w]
       rfl
      refine pure_ (i := 7) (N := some 30) (v := ?_) (a' := ?_) bl6_17 rfl rfl (any_of HT_.out (by kernel_rfl)) (fun _ _ _ h => h) (Or.inl ⟨by rfl, ?_⟩) ?_ ?_
      rotate_left
      ·
       intro w'
       go_simp
       with_reducible rfl
      rotate_left
      ·
       simp only [Act.put, sA, sZ, sS, i64_w, i32_w]
       rfl
      refine pure_ (i := 8) (N := some 31) (v := ?_) (a' := ?_) bl6_20 rfl rfl (any_of HT_.out (by kernel_rfl)) (fun _ _ _ h => h) (Or.inl ⟨by rfl, ?_⟩) ?_ ?_
      rotate_left
      ·
       intro w'
       go_simp
       with_reducible rfl
      rotate_left
      ·
       simp only [Act.put, sA, sZ, sS, i64_w, i32_w]
       rfl
      exact norm_ (by simp only [putAll, Act.put, List.setIfInBounds_toArray, List.set_cons_zero, List.set_cons_succ]) (hCont (.slice Ao27 t194.length co27, v201, gb204) _ ⟨hHeld, (by (with_reducible repeat (first | apply rA | apply rN | apply rD)); exact Kd.R_mono HO196.out (fun _ hk => hk.2)), (by (with_reducible repeat (first | apply rA | apply rN | apply rD)); exact Kd.R_mono HO202.out (fun _ hk => hk.2)), BK190.out, BK191.out, BK204.out, GW204.out, GE204.out, NB190_204.out, NB204_190.out, NB191_204.out, NB204_191.out, (by repeat (first | (with_reducible first | exact HB.out | apply bA | apply bN | apply bD | refine bS GE190.out ?_ | refine bS GE191.out ?_ | refine bS GE204.out ?_) | exact HB.out))⟩)
    ·
     skip
     refine box_step ?hg (N := 8) ?hd (cs := #[.string (⟨#[]⟩ : ByteArray), .slice none 0 0]) (t := 24) ?hr ?_; (case hd => rfl); (case hg => rfl); (case hr => first | (go_simp; done) | (go_simp; rfl))
     intro gb204 hg w25 hbox hb
     have n0_ := Aside0.mk (Kd.R_below (by (with_reducible repeat (first | apply rA | apply rN | apply rD)); exact HO196.out) hb)
     have n1_ := Aside0.mk (bB hb BK190.out)
     have n2_ := Aside0.mk (bB hb BK191.out)
     have n3_ := Aside0.mk (below_step (by repeat (first | (with_reducible first | exact HB.out | apply bA | apply bN | apply bD | refine bS GE190.out ?_ | refine bS GE191.out ?_) | exact HB.out)) hb)
     have n4_ := Aside0.mk (hbox)
     have n5_ := Aside0.mk ((by rw [hg]; exact (below_size (by repeat (first | (with_reducible first | exact HB.out | apply bA | apply bN | apply bD | refine bS GE190.out ?_ | refine bS GE191.out ?_) | exact HB.out))) : w.heap.size ≤ gb204))
     have n6_ := Aside0.mk ((by rw [hg]; exact (below_size (by repeat (first | (with_reducible first | exact HB.out | apply bA | apply bN | apply bD | refine bS GE190.out ?_ | refine bS GE191.out ?_) | exact HB.out))) : w.heap.size ≤ gb204))
     have n7_ := Aside0.mk ((by rw [hg]; exact Nat.ne_of_lt (blk_lt BK190.out) : gb190 ≠ gb204))
     have n8_ := Aside0.mk ((by rw [hg]; exact Nat.ne_of_gt (blk_lt BK190.out) : gb204 ≠ gb190))
     have n9_ := Aside0.mk ((by rw [hg]; exact Nat.ne_of_lt (blk_lt BK191.out) : gb191 ≠ gb204))
     have n10_ := Aside0.mk ((by rw [hg]; exact Nat.ne_of_gt (blk_lt BK191.out) : gb204 ≠ gb191))
     clear HO196
     clear BK190
     clear BK191
     clear HB
     have HO196 := n0_
     have BK190 := n1_
     have BK191 := n2_
     have HB := n3_
     have BK204 := n4_
     have GW204 := n5_
     have GE204 := n6_
     have NB190_204 := n7_
     have NB204_190 := n8_
     have NB191_204 := n9_
     have NB204_191 := n10_
     clear n0_ n1_ n2_ n3_ n4_ n5_ n6_ n7_ n8_ n9_ n10_
     clear hb hbox hg
     refine hK.out _ _ ⟨(blk_cell BK190.out 0).trans rfl, (blk_cell BK190.out 1).trans rfl, (blk_cell BK191.out 0).trans rfl, (blk_cell BK191.out 1).trans rfl⟩ (fun hHeld => ?_)
     clear hK K
     refine norm_ (a' := ?_) ?_ ?_
     rotate_left
     ·
      show Act.put _ (some 8) _ = _
      simp only [Act.put, sA, sZ, sS, i64_w, i32_w]
      rfl
     refine one_ (i := 4) (N := some 28) bl6_9 rfl rfl (one_of HT_.out (by kernel_rfl)) (by decide) (fun K hK => ?_)
     refine goes_ Try.func22 (by kernel_rfl) rfl #[.agg #[.int .i64 a2_0, .int .i64 a2_1]] (by rfl) rfl rfl (by (try simp only [List.map_toArray, List.map_cons, List.map_nil]); first | done | rfl | (simp only [List.length_drop, List.length_take]; rfl)) ?_
     with_reducible refine (laws_toRatio.calls a2_0 a2_1 t197 t198 _ A12.out).mono ?_
     rintro e w26 ⟨rfl, hb⟩
     refine ⟨_, rfl, ?_⟩
     have n0_ := Aside0.mk (Kd.R_below (by (with_reducible repeat (first | apply rA | apply rN | apply rD)); exact HO196.out) hb)
     have n1_ := Aside0.mk (bB hb BK190.out)
     have n2_ := Aside0.mk (bB hb BK191.out)
     have n3_ := Aside0.mk (blk_below (g := gb204) (o := .cells #[.string (⟨#[]⟩ : ByteArray), .slice none 0 0] 24 (0, 0)) BK204.out hb)
     have n4_ := Aside0.mk (below_step (by repeat (first | (with_reducible first | exact HB.out | apply bA | apply bN | apply bD | refine bS GE190.out ?_ | refine bS GE191.out ?_ | refine bS GE204.out ?_) | exact HB.out)) hb)
     clear HO196
     clear BK190
     clear BK191
     clear BK204
     clear HB
     have HO196 := n0_
     have BK190 := n1_
     have BK191 := n2_
     have BK204 := n3_
     have HB := n4_
     clear n0_ n1_ n2_ n3_ n4_
     (try clear hb)
     (try clear hb2)
     (try clear hk)
     (try clear hi)
     obtain ⟨Ao27, co27, eo27⟩ := Kd.R_slice HO196.out
     (first | subst eo27 | (injection eo27 with f1_ f2_ f3_; have f4_ := f1_.symm; have f5_ := f3_.symm; clear f1_ f2_ f3_; subst f4_; subst f5_))
     refine hK.out _ _ ⟨(blk_cell BK190.out 0).trans rfl, (blk_cell BK190.out 1).trans rfl, (blk_cell BK191.out 0).trans rfl, (blk_cell BK191.out 1).trans rfl⟩ (fun hHeld => ?_)
     clear hK K
     refine norm_ (a' := ?_) ?_ ?_
     rotate_left
     ·
      show Act.put _ (some 28) _ = _
      simp only [Act.put, sA, sZ, sS, i64_w, i32_w]
      rfl
     refine one_ (i := 5) (N := some 29) bl6_10 rfl rfl (one_of HT_.out (by kernel_rfl)) (by decide) (fun K hK => ?_)
     refine goes_ Try.func21 (by kernel_rfl) rfl #[.agg #[.string t193, .slice Ao27 t194.length co27], .int .i64 a1, .agg #[.int .i64 t197, .int .i64 t198]] (by rfl) rfl rfl (by (try simp only [List.map_toArray, List.map_cons, List.map_nil]); first | done | rfl | (simp only [List.length_drop, List.length_take]; rfl)) ?_
     with_reducible refine (spec_TuneTone.calls k t193 _ _ t194 a1 t197 t198 t199 t200 t203 _ ?side1 ?side2 A13.out).mono ?_
     (case side1 => repeat (first | exact (Kd.R_reads' HO196.out).2.2 | (with_reducible refine Kd.C_alloc ?_ _) | (with_reducible refine Kd.C_drewN ?_ _) | (with_reducible refine Kd.C_drew ?_)))
     (case side2 => exact (Kd.R_reads' HO196.out).2.1)
     rintro e w28 ⟨v201, rfl, ho0, hb⟩
     refine ⟨_, rfl, ?_⟩
     have n0_ := Aside0.mk (Kd.R_elder' (by (with_reducible repeat (first | apply rA | apply rN | apply rD)); exact HO196.out) (Kd.R_base ho0) hb)
     have n1_ := Aside0.mk (Kd.R_lower (Kd.R_new' ho0 (Kd.R_lt (by (with_reducible repeat (first | apply rA | apply rN | apply rD)); exact HO196.out))) (below_size (by repeat (first | (with_reducible first | exact HB.out | apply bA | apply bN | apply bD | refine bS GE190.out ?_ | refine bS GE191.out ?_ | refine bS GE204.out ?_) | exact HB.out))))
     have n2_ := Aside0.mk (bB hb BK190.out)
     have n3_ := Aside0.mk (bB hb BK191.out)
     have n4_ := Aside0.mk (blk_below (g := gb204) (o := .cells #[.string (⟨#[]⟩ : ByteArray), .slice none 0 0] 24 (0, 0)) BK204.out hb)
     have n5_ := Aside0.mk (below_step (by repeat (first | (with_reducible first | exact HB.out | apply bA | apply bN | apply bD | refine bS GE190.out ?_ | refine bS GE191.out ?_ | refine bS GE204.out ?_) | exact HB.out)) hb)
     clear HO196
     clear BK190
     clear BK191
     clear BK204
     clear HB
     have HO196 := n0_
     have HO202 := n1_
     have BK190 := n2_
     have BK191 := n3_
     have BK204 := n4_
     have HB := n5_
     clear n0_ n1_ n2_ n3_ n4_ n5_
     (try clear hb)
     (try clear hb2)
     (try clear hk)
     (try clear hi)
     (try clear ho0)
     refine hK.out _ _ ⟨(blk_cell BK190.out 0).trans rfl, (blk_cell BK190.out 1).trans rfl, (blk_cell BK191.out 0).trans rfl, (blk_cell BK191.out 1).trans rfl⟩ (fun hHeld => ?_)
     clear hK K
     refine norm_ (a' := ?_) ?_ ?_
     rotate_left
     ·
      show Act.put _ (some 29) _ = _
      simp only [Act.put, sA, sZ, sS, i64_w, i32_w]
      rfl
     refine pure_ (i := 6) (N := some 23) (v := ?_) (a' := ?_) bl6_13 rfl rfl (any_of HT_.out (by kernel_rfl)) (fun _ _ _ h => h) (Or.inl ⟨by rfl, ?_⟩) ?_ ?_
     rotate_left
     ·
      intro w'
      go_simp
      with_reducible rfl
     rotate_left
     ·
      simp only [Act.put, sA, sZ, sS, i64_w, i32_w]
      rfl
     refine pure_ (i := 7) (N := some 30) (v := ?_) (a' := ?_) bl6_17 rfl rfl (any_of HT_.out (by kernel_rfl)) (fun _ _ _ h => h) (Or.inl ⟨by rfl, ?_⟩) ?_ ?_
     rotate_left
     ·
      intro w'
      go_simp
      with_reducible rfl
     rotate_left
     ·
      simp only [Act.put, sA, sZ, sS, i64_w, i32_w]
      rfl
     refine pure_ (i := 8) (N := some 31) (v := ?_) (a' := ?_) bl6_20 rfl rfl (any_of HT_.out (by kernel_rfl)) (fun _ _ _ h => h) (Or.inl ⟨by rfl, ?_⟩) ?_ ?_
     rotate_left
     ·
      intro w'
      go_simp
      with_reducible rfl
     rotate_left
     ·
      simp only [Act.put, sA, sZ, sS, i64_w, i32_w]
      rfl
     exact norm_ (by simp only [putAll, Act.put, List.setIfInBounds_toArray, List.set_cons_zero, List.set_cons_succ]) (hCont (.slice Ao27 t194.length co27, v201, gb204) _ ⟨hHeld, (by (with_reducible repeat (first | apply rA | apply rN | apply rD)); exact Kd.R_mono HO196.out (fun _ hk => hk.2)), (by (with_reducible repeat (first | apply rA | apply rN | apply rD)); exact Kd.R_mono HO202.out (fun _ hk => hk.2)), BK190.out, BK191.out, BK204.out, GW204.out, GE204.out, NB190_204.out, NB204_190.out, NB191_204.out, NB204_191.out, (by repeat (first | (with_reducible first | exact HB.out | apply bA | apply bN | apply bD | refine bS GE190.out ?_ | refine bS GE191.out ?_ | refine bS GE204.out ?_) | exact HB.out))⟩)
   ·
    skip
    refine box_step ?hg (N := 8) ?hd (cs := #[.string (⟨#[]⟩ : ByteArray), .slice none 0 0]) (t := 24) ?hr ?_; (case hd => rfl); (case hg => rfl); (case hr => first | (go_simp; done) | (go_simp; rfl))
    intro gb204 hg w24 hbox hb
    have n0_ := Aside0.mk (bB hb BK190.out)
    have n1_ := Aside0.mk (bB hb BK191.out)
    have n2_ := Aside0.mk (below_step (by repeat (first | (with_reducible first | exact HB.out | apply bA | apply bN | apply bD | refine bS GE190.out ?_ | refine bS GE191.out ?_) | exact HB.out)) hb)
    have n3_ := Aside0.mk (hbox)
    have n4_ := Aside0.mk ((by rw [hg]; exact (below_size (by repeat (first | (with_reducible first | exact HB.out | apply bA | apply bN | apply bD | refine bS GE190.out ?_ | refine bS GE191.out ?_) | exact HB.out))) : w.heap.size ≤ gb204))
    have n5_ := Aside0.mk ((by rw [hg]; exact (below_size (by repeat (first | (with_reducible first | exact HB.out | apply bA | apply bN | apply bD | refine bS GE190.out ?_ | refine bS GE191.out ?_) | exact HB.out))) : w.heap.size ≤ gb204))
    have n6_ := Aside0.mk ((by rw [hg]; exact Nat.ne_of_lt (blk_lt BK190.out) : gb190 ≠ gb204))
    have n7_ := Aside0.mk ((by rw [hg]; exact Nat.ne_of_gt (blk_lt BK190.out) : gb204 ≠ gb190))
    have n8_ := Aside0.mk ((by rw [hg]; exact Nat.ne_of_lt (blk_lt BK191.out) : gb191 ≠ gb204))
    have n9_ := Aside0.mk ((by rw [hg]; exact Nat.ne_of_gt (blk_lt BK191.out) : gb204 ≠ gb191))
    clear BK190
    clear BK191
    clear HB
    have BK190 := n0_
    have BK191 := n1_
    have HB := n2_
    have BK204 := n3_
    have GW204 := n4_
    have GE204 := n5_
    have NB190_204 := n6_
    have NB204_190 := n7_
    have NB191_204 := n8_
    have NB204_191 := n9_
    clear n0_ n1_ n2_ n3_ n4_ n5_ n6_ n7_ n8_ n9_
    clear hb hbox hg
    refine hK.out _ _ ⟨(blk_cell BK190.out 0).trans rfl, (blk_cell BK190.out 1).trans rfl, (blk_cell BK191.out 0).trans rfl, (blk_cell BK191.out 1).trans rfl⟩ (fun hHeld => ?_)
    clear hK K
    refine norm_ (a' := ?_) ?_ ?_
    rotate_left
    ·
     show Act.put _ (some 8) _ = _
     simp only [Act.put, sA, sZ, sS, i64_w, i32_w]
     rfl
    refine one_ (i := 1) (N := some 25) bl6_7 rfl rfl (one_of HT_.out (by kernel_rfl)) (by decide) (fun K hK => ?_)
    refine goes_ Try.func17 (by kernel_rfl) rfl #[.agg #[.string a0_0, .slice A0_1 l0_1.length c0_1]] (by rfl) rfl rfl (by (try simp only [List.map_toArray, List.map_cons, List.map_nil]); first | done | rfl | (simp only [List.length_drop, List.length_take]; rfl)) ?_
    with_reducible refine (laws_toTuning.calls k a0_0 _ _ l0_1 t193 t194 _ ?side1 ?side2 A11.out).mono ?_
    (case side1 => repeat (first | exact (Kd.C_below HR0_1.out HB.out) | (with_reducible refine Kd.C_alloc ?_ _) | (with_reducible refine Kd.C_drewN ?_ _) | (with_reducible refine Kd.C_drew ?_)))
    (case side2 => exact HC0_1.out)
    rintro e w25 ⟨v195, rfl, ho0, hb⟩
    refine ⟨_, rfl, ?_⟩
    have n0_ := Aside0.mk (Kd.R_lower ho0 (below_size (by repeat (first | (with_reducible first | exact HB.out | apply bA | apply bN | apply bD | refine bS GE190.out ?_ | refine bS GE191.out ?_ | refine bS GE204.out ?_) | exact HB.out))))
    have n1_ := Aside0.mk (bB hb BK190.out)
    have n2_ := Aside0.mk (bB hb BK191.out)
    have n3_ := Aside0.mk (blk_below (g := gb204) (o := .cells #[.string (⟨#[]⟩ : ByteArray), .slice none 0 0] 24 (0, 0)) BK204.out hb)
    have n4_ := Aside0.mk (below_step (by repeat (first | (with_reducible first | exact HB.out | apply bA | apply bN | apply bD | refine bS GE190.out ?_ | refine bS GE191.out ?_ | refine bS GE204.out ?_) | exact HB.out)) hb)
    clear BK190
    clear BK191
    clear BK204
    clear HB
    have HO196 := n0_
    have BK190 := n1_
    have BK191 := n2_
    have BK204 := n3_
    have HB := n4_
    clear n0_ n1_ n2_ n3_ n4_
    (try clear hb)
    (try clear hb2)
    (try clear hk)
    (try clear hi)
    (try clear ho0)
    refine hK.out _ _ ⟨(blk_cell BK190.out 0).trans rfl, (blk_cell BK190.out 1).trans rfl, (blk_cell BK191.out 0).trans rfl, (blk_cell BK191.out 1).trans rfl⟩ (fun hHeld => ?_)
    clear hK K
    refine norm_ (a' := ?_) ?_ ?_
    rotate_left
    ·
     show Act.put _ (some 25) _ = _
     simp only [Act.put, sA, sZ, sS, i64_w, i32_w]
     rfl
    refine one_ (i := 4) (N := some 28) bl6_9 rfl rfl (one_of HT_.out (by kernel_rfl)) (by decide) (fun K hK => ?_)
    refine goes_ Try.func22 (by kernel_rfl) rfl #[.agg #[.int .i64 a2_0, .int .i64 a2_1]] (by rfl) rfl rfl (by (try simp only [List.map_toArray, List.map_cons, List.map_nil]); first | done | rfl | (simp only [List.length_drop, List.length_take]; rfl)) ?_
    with_reducible refine (laws_toRatio.calls a2_0 a2_1 t197 t198 _ A12.out).mono ?_
    rintro e w26 ⟨rfl, hb⟩
    refine ⟨_, rfl, ?_⟩
    have n0_ := Aside0.mk (Kd.R_below (by (with_reducible repeat (first | apply rA | apply rN | apply rD)); exact HO196.out) hb)
    have n1_ := Aside0.mk (bB hb BK190.out)
    have n2_ := Aside0.mk (bB hb BK191.out)
    have n3_ := Aside0.mk (blk_below (g := gb204) (o := .cells #[.string (⟨#[]⟩ : ByteArray), .slice none 0 0] 24 (0, 0)) BK204.out hb)
    have n4_ := Aside0.mk (below_step (by repeat (first | (with_reducible first | exact HB.out | apply bA | apply bN | apply bD | refine bS GE190.out ?_ | refine bS GE191.out ?_ | refine bS GE204.out ?_) | exact HB.out)) hb)
    clear HO196
    clear BK190
    clear BK191
    clear BK204
    clear HB
    have HO196 := n0_
    have BK190 := n1_
    have BK191 := n2_
    have BK204 := n3_
    have HB := n4_
    clear n0_ n1_ n2_ n3_ n4_
    (try clear hb)
    (try clear hb2)
    (try clear hk)
    (try clear hi)
    obtain ⟨Ao27, co27, eo27⟩ := Kd.R_slice HO196.out
    (first | subst eo27 | (injection eo27 with f1_ f2_ f3_; have f4_ := f1_.symm; have f5_ := f3_.symm; clear f1_ f2_ f3_; subst f4_; subst f5_))
    refine hK.out _ _ ⟨(blk_cell BK190.out 0).trans rfl, (blk_cell BK190.out 1).trans rfl, (blk_cell BK191.out 0).trans rfl, (blk_cell BK191.out 1).trans rfl⟩ (fun hHeld => ?_)
    clear hK K
    refine norm_ (a' := ?_) ?_ ?_
    rotate_left
    ·
     show Act.put _ (some 28) _ = _
     simp only [Act.put, sA, sZ, sS, i64_w, i32_w]
     rfl
    refine one_ (i := 5) (N := some 29) bl6_10 rfl rfl (one_of HT_.out (by kernel_rfl)) (by decide) (fun K hK => ?_)
    refine goes_ Try.func21 (by kernel_rfl) rfl #[.agg #[.string t193, .slice Ao27 t194.length co27], .int .i64 a1, .agg #[.int .i64 t197, .int .i64 t198]] (by rfl) rfl rfl (by (try simp only [List.map_toArray, List.map_cons, List.map_nil]); first | done | rfl | (simp only [List.length_drop, List.length_take]; rfl)) ?_
    with_reducible refine (spec_TuneTone.calls k t193 _ _ t194 a1 t197 t198 t199 t200 t203 _ ?side1 ?side2 A13.out).mono ?_
    (case side1 => repeat (first | exact (Kd.R_reads' HO196.out).2.2 | (with_reducible refine Kd.C_alloc ?_ _) | (with_reducible refine Kd.C_drewN ?_ _) | (with_reducible refine Kd.C_drew ?_)))
    (case side2 => exact (Kd.R_reads' HO196.out).2.1)
    rintro e w28 ⟨v201, rfl, ho0, hb⟩
    refine ⟨_, rfl, ?_⟩
    have n0_ := Aside0.mk (Kd.R_elder' (by (with_reducible repeat (first | apply rA | apply rN | apply rD)); exact HO196.out) (Kd.R_base ho0) hb)
    have n1_ := Aside0.mk (Kd.R_lower (Kd.R_new' ho0 (Kd.R_lt (by (with_reducible repeat (first | apply rA | apply rN | apply rD)); exact HO196.out))) (below_size (by repeat (first | (with_reducible first | exact HB.out | apply bA | apply bN | apply bD | refine bS GE190.out ?_ | refine bS GE191.out ?_ | refine bS GE204.out ?_) | exact HB.out))))
    have n2_ := Aside0.mk (bB hb BK190.out)
    have n3_ := Aside0.mk (bB hb BK191.out)
    have n4_ := Aside0.mk (blk_below (g := gb204) (o := .cells #[.string (⟨#[]⟩ : ByteArray), .slice none 0 0] 24 (0, 0)) BK204.out hb)
    have n5_ := Aside0.mk (below_step (by repeat (first | (with_reducible first | exact HB.out | apply bA | apply bN | apply bD | refine bS GE190.out ?_ | refine bS GE191.out ?_ | refine bS GE204.out ?_) | exact HB.out)) hb)
    clear HO196
    clear BK190
    clear BK191
    clear BK204
    clear HB
    have HO196 := n0_
    have HO202 := n1_
    have BK190 := n2_
    have BK191 := n3_
    have BK204 := n4_
    have HB := n5_
    clear n0_ n1_ n2_ n3_ n4_ n5_
    (try clear hb)
    (try clear hb2)
    (try clear hk)
    (try clear hi)
    (try clear ho0)
    refine hK.out _ _ ⟨(blk_cell BK190.out 0).trans rfl, (blk_cell BK190.out 1).trans rfl, (blk_cell BK191.out 0).trans rfl, (blk_cell BK191.out 1).trans rfl⟩ (fun hHeld => ?_)
    clear hK K
    refine norm_ (a' := ?_) ?_ ?_
    rotate_left
    ·
     show Act.put _ (some 29) _ = _
     simp only [Act.put, sA, sZ, sS, i64_w, i32_w]
     rfl
    refine pure_ (i := 6) (N := some 23) (v := ?_) (a' := ?_) bl6_13 rfl rfl (any_of HT_.out (by kernel_rfl)) (fun _ _ _ h => h) (Or.inl ⟨by rfl, ?_⟩) ?_ ?_
    rotate_left
    ·
     intro w'
     go_simp
     with_reducible rfl
    rotate_left
    ·
     simp only [Act.put, sA, sZ, sS, i64_w, i32_w]
     rfl
    refine pure_ (i := 7) (N := some 30) (v := ?_) (a' := ?_) bl6_17 rfl rfl (any_of HT_.out (by kernel_rfl)) (fun _ _ _ h => h) (Or.inl ⟨by rfl, ?_⟩) ?_ ?_
    rotate_left
    ·
     intro w'
     go_simp
     with_reducible rfl
    rotate_left
    ·
     simp only [Act.put, sA, sZ, sS, i64_w, i32_w]
     rfl
    refine pure_ (i := 8) (N := some 31) (v := ?_) (a' := ?_) bl6_20 rfl rfl (any_of HT_.out (by kernel_rfl)) (fun _ _ _ h => h) (Or.inl ⟨by rfl, ?_⟩) ?_ ?_
    rotate_left
    ·
     intro w'
     go_simp
     with_reducible rfl
    rotate_left
    ·
     simp only [Act.put, sA, sZ, sS, i64_w, i32_w]
     rfl
    exact norm_ (by simp only [putAll, Act.put, List.setIfInBounds_toArray, List.set_cons_zero, List.set_cons_succ]) (hCont (.slice Ao27 t194.length co27, v201, gb204) _ ⟨hHeld, (by (with_reducible repeat (first | apply rA | apply rN | apply rD)); exact Kd.R_mono HO196.out (fun _ hk => hk.2)), (by (with_reducible repeat (first | apply rA | apply rN | apply rD)); exact Kd.R_mono HO202.out (fun _ hk => hk.2)), BK190.out, BK191.out, BK204.out, GW204.out, GE204.out, NB190_204.out, NB204_190.out, NB191_204.out, NB204_191.out, (by repeat (first | (with_reducible first | exact HB.out | apply bA | apply bN | apply bD | refine bS GE190.out ?_ | refine bS GE191.out ?_ | refine bS GE204.out ?_) | exact HB.out))⟩)
  rintro ⟨v195, v201, gb204⟩ w29 ⟨hS_, h0_, h1_, h2_, h3_, h4_, h5_, h6_, h7_, h8_, h9_, h10_, h11_⟩
  have n0_ : Aside0 (Kd.R k41 41 w29 w.heap.size (fun k_ => some k_ ≠ (v201 : Value).ownBlock) v195 t194) := ⟨h0_⟩
  have n1_ : Aside0 (Kd.R k41 41 w29 w.heap.size (fun k_ => some k_ ≠ (v195 : Value).ownBlock) v201 t200) := ⟨h1_⟩
  have n2_ : Aside0 (w29.heap[gb190]? = some (.cells #[.string a0_0, .slice A0_1 l0_1.length c0_1] 31 (0, 0))) := ⟨h2_⟩
  have n3_ : Aside0 (w29.heap[gb191]? = some (.cells #[.int .i64 a2_0, .int .i64 a2_1] 38 (0, 0))) := ⟨h3_⟩
  have n4_ : Aside0 (w29.heap[gb204]? = some (.cells #[.string (⟨#[]⟩ : ByteArray), .slice none 0 0] 24 (0, 0))) := ⟨h4_⟩
  have n5_ : Aside0 (w.heap.size ≤ gb204) := ⟨h5_⟩
  have n6_ : Aside0 (w.heap.size ≤ gb204) := ⟨h6_⟩
  have n7_ : Aside0 (gb190 ≠ gb204) := ⟨h7_⟩
  have n8_ : Aside0 (gb204 ≠ gb190) := ⟨h8_⟩
  have n9_ : Aside0 (gb191 ≠ gb204) := ⟨h9_⟩
  have n10_ : Aside0 (gb204 ≠ gb191) := ⟨h10_⟩
  have n11_ : Aside0 (Below w.heap.size w w29) := ⟨h11_⟩
  clear BK190
  clear BK191
  clear HB
  clear h0_ h1_ h2_ h3_ h4_ h5_ h6_ h7_ h8_ h9_ h10_ h11_
  have HO196 := n0_
  have HO202 := n1_
  have BK190 := n2_
  have BK191 := n3_
  have BK204 := n4_
  have GW204 := n5_
  have GE204 := n6_
  have NB190_204 := n7_
  have NB204_190 := n8_
  have NB191_204 := n9_
  have NB204_191 := n10_
  have HB := n11_
  clear n0_ n1_ n2_ n3_ n4_ n5_ n6_ n7_ n8_ n9_ n10_ n11_
  have hHeld : w29.cell? ⟨gb190, 0, none⟩ = some (.string a0_0) ∧ w29.cell? ⟨gb190, 1, none⟩ = some (.slice A0_1 l0_1.length c0_1) ∧ w29.cell? ⟨gb191, 0, none⟩ = some (.int .i64 a2_0) ∧ w29.cell? ⟨gb191, 1, none⟩ = some (.int .i64 a2_1) := hS_
  obtain ⟨Ao31, co31, eo31⟩ := Kd.R_slice HO202.out
  (first | subst eo31 | (injection eo31 with f1_ f2_ f3_; have f4_ := f1_.symm; have f5_ := f3_.symm; clear f1_ f2_ f3_; subst f4_; subst f5_))
  refine norm_ (a' := ?_) ?_ ?_
  rotate_left
  ·
   simp only [putAll, Act.put, List.setIfInBounds_toArray, List.set_cons_zero, List.set_cons_succ]
   rfl
  refine one_ (i := 10) (N := none) bl6_22 rfl rfl (one_of HT_.out (by kernel_rfl)) (by decide) (fun K hK => ?_)
  have hs30 : w29.cell? ⟨gb204, 0, none⟩ = some (.string (⟨#[]⟩ : ByteArray)) := (blk_cell BK204.out 0).trans rfl
  have hfs30 := blk_frozen BK204.out 0
  have hns30_0 := NB190_204.out
  have hns30_1 := NB191_204.out
  have hms30_0 := NB204_190.out
  have hms30_1 := NB204_191.out
  have hs32 : w29.cell? ⟨gb204, 1, none⟩ = some (.slice none 0 0) := (blk_cell BK204.out 1).trans rfl
  have hfs32 := blk_frozen BK204.out 1
  have hns32_0 := NB190_204.out
  have hns32_1 := NB191_204.out
  have hms32_0 := NB204_190.out
  have hms32_1 := NB204_191.out
  refine skip_ (w1 := ?_) (by rfl) rfl ?_ ?_
  rotate_left
  ·
   go_simp
   rfl
  refine hK.out _ _ ⟨((cell_far (p := ⟨gb204, _, none⟩) NB190_204.out _).trans (((cell_far (p := ⟨gb204, _, none⟩) NB190_204.out _).trans (hHeld.1)))), ((cell_far (p := ⟨gb204, _, none⟩) NB190_204.out _).trans (((cell_far (p := ⟨gb204, _, none⟩) NB190_204.out _).trans (hHeld.2.1)))), ((cell_far (p := ⟨gb204, _, none⟩) NB191_204.out _).trans (((cell_far (p := ⟨gb204, _, none⟩) NB191_204.out _).trans (hHeld.2.2.1)))), ((cell_far (p := ⟨gb204, _, none⟩) NB191_204.out _).trans (((cell_far (p := ⟨gb204, _, none⟩) NB191_204.out _).trans (hHeld.2.2.2))))⟩ (fun hHeld => ?_)
  clear hK K
  refine pure_ (i := 11) (N := some 9) (v := ?_) (a' := ?_) bl6_26 rfl rfl (any_of HT_.out (by kernel_rfl)) (fun _ _ _ h => h) (Or.inl ⟨by rfl, ?_⟩) ?_ ?_
  rotate_left
  ·
   intro w'
   go_simp
   with_reducible rfl
  rotate_left
  ·
   simp only [Act.put, sA, sZ, sS, i64_w, i32_w]
   rfl
  refine done_ (done_of HT_.out (by kernel_rfl)) ?_
  have hnb33 := NB190_204.out
  have hnc33 := NB204_190.out
  have hcz34_0 : w29.cell? ⟨gb190, 0, none⟩ = some (.string a0_0) := (blk_cell BK190.out 0).trans rfl
  have hcz34_1 : w29.cell? ⟨gb190, 1, none⟩ = some (.slice A0_1 l0_1.length c0_1) := (blk_cell BK190.out 1).trans rfl
  have hfz34_0 := blk_frozen BK190.out 0
  have hfz34_1 := blk_frozen BK190.out 1
  try go_wp2_with (first | ((with_reducible refine gate_callee (f := 17) rfl ?_); refine goesL_ (some 33) rfl rfl Try.func17 (by kernel_rfl) rfl #[.agg #[.string a0_0, .slice A0_1 l0_1.length c0_1]] rfl (by (try simp only [List.map_toArray, List.map_cons, List.map_nil]); first | done | rfl | (simp only [List.length_drop, List.length_take]; rfl)) ?_; (with_reducible refine (laws_toTuning.calls k a0_0 _ _ l0_1 t205 t206 _ ?side1 ?side2 A14.out).mono ?_); (case side1 => exact Kd.C_below HR0_1.out (by repeat (first | (with_reducible first | exact HB.out | apply bA | apply bN | apply bD | refine bS GE190.out ?_ | refine bS GE191.out ?_ | refine bS GE204.out ?_) | exact HB.out))); (case side2 => exact HC0_1.out); rintro e w35 ⟨v207, rfl, ho0, hb⟩; refine ⟨_, rfl, ?_⟩; have n0_ := Aside0.mk (Kd.R_elder' (by (with_reducible repeat (first | apply rA | apply rN | apply rD)); exact (Kd.R_mono (Kd.R_far (p := ⟨gb204, 1, none⟩) (Kd.R_far (p := ⟨gb204, 0, none⟩) (Kd.R_types HO196.out BK204.out (by decide)) (fun _ hk => hk.2) (.string t199)) (fun _ hk => hk.2) (.slice Ao31 t200.length co31)) (fun _ h_ => h_.1))) (Kd.R_base ho0) hb); have n1_ := Aside0.mk (Kd.R_elder' (by (with_reducible repeat (first | apply rA | apply rN | apply rD)); exact (Kd.R_mono (Kd.R_far (p := ⟨gb204, 1, none⟩) (Kd.R_far (p := ⟨gb204, 0, none⟩) (Kd.R_types HO202.out BK204.out (by decide)) (fun _ hk => hk.2) (.string t199)) (fun _ hk => hk.2) (.slice Ao31 t200.length co31)) (fun _ h_ => h_.1))) (Kd.R_base ho0) hb); have n2_ := Aside0.mk (Kd.R_lower (Kd.R_new' (Kd.R_new' ho0 (Kd.R_lt (by (with_reducible repeat (first | apply rA | apply rN | apply rD)); exact (Kd.R_mono (Kd.R_far (p := ⟨gb204, 1, none⟩) (Kd.R_far (p := ⟨gb204, 0, none⟩) (Kd.R_types HO196.out BK204.out (by decide)) (fun _ hk => hk.2) (.string t199)) (fun _ hk => hk.2) (.slice Ao31 t200.length co31)) (fun _ h_ => h_.1))))) (Kd.R_lt (by (with_reducible repeat (first | apply rA | apply rN | apply rD)); exact (Kd.R_mono (Kd.R_far (p := ⟨gb204, 1, none⟩) (Kd.R_far (p := ⟨gb204, 0, none⟩) (Kd.R_types HO202.out BK204.out (by decide)) (fun _ hk => hk.2) (.string t199)) (fun _ hk => hk.2) (.slice Ao31 t200.length co31)) (fun _ h_ => h_.1))))) (below_size (by repeat (first | (with_reducible first | exact HB.out | apply bA | apply bN | apply bD | refine bS GE190.out ?_ | refine bS GE191.out ?_ | refine bS GE204.out ?_) | exact HB.out)))); have n3_ := Aside0.mk (blk_below (g := gb190) (o := .cells #[.string a0_0, .slice A0_1 l0_1.length c0_1] 31 (0, 0)) (by (with_reducible repeat (first | refine kN ?_ _ | refine kD ?_ | refine kA ?_ _)); refine blk_far ?_ NB190_204.out _; (with_reducible repeat (first | refine kN ?_ _ | refine kD ?_ | refine kA ?_ _)); refine blk_far ?_ NB190_204.out _; (with_reducible repeat (first | refine kN ?_ _ | refine kD ?_ | refine kA ?_ _)); exact BK190.out) hb); have n4_ := Aside0.mk (blk_below (g := gb191) (o := .cells #[.int .i64 a2_0, .int .i64 a2_1] 38 (0, 0)) (by (with_reducible repeat (first | refine kN ?_ _ | refine kD ?_ | refine kA ?_ _)); refine blk_far ?_ NB191_204.out _; (with_reducible repeat (first | refine kN ?_ _ | refine kD ?_ | refine kA ?_ _)); refine blk_far ?_ NB191_204.out _; (with_reducible repeat (first | refine kN ?_ _ | refine kD ?_ | refine kA ?_ _)); exact BK191.out) hb); have n5_ := Aside0.mk (blk_below (g := gb204) (o := .cells #[.string t199, .slice Ao31 t200.length co31] 24 (0, 0)) (by (with_reducible repeat (first | refine kN ?_ _ | refine kD ?_ | refine kA ?_ _)); refine blk_put (cs := #[.string t199, .slice none 0 0]) ?_ 1 _ rfl; (with_reducible repeat (first | refine kN ?_ _ | refine kD ?_ | refine kA ?_ _)); refine blk_put (cs := #[.string (⟨#[]⟩ : ByteArray), .slice none 0 0]) ?_ 0 _ rfl; (with_reducible repeat (first | refine kN ?_ _ | refine kD ?_ | refine kA ?_ _)); exact BK204.out) hb); have n6_ := Aside0.mk (below_step (by repeat (first | (with_reducible first | exact HB.out | apply bA | apply bN | apply bD | refine bS GE190.out ?_ | refine bS GE191.out ?_ | refine bS GE204.out ?_) | exact HB.out)) hb); clear HO196; clear HO202; clear BK190; clear BK191; clear BK204; clear HB; have HO196 := n0_; have HO202 := n1_; have HO208 := n2_; have BK190 := n3_; have BK191 := n4_; have BK204 := n5_; have HB := n6_; clear n0_ n1_ n2_ n3_ n4_ n5_ n6_; (try clear hb); (try clear hb2); (try clear hk); (try clear hi); (try clear ho0)) | ((with_reducible refine gate_dst (N := 10) rfl ?_); refine box_event ?hg (N := 10) ?hd (cs := #[.string (⟨#[]⟩ : ByteArray), .slice none 0 0]) (t := 24) ?hr ?_; (case hd => rfl); (case hg => rfl); (case hr => first | (go_simp; done) | (go_simp; rfl)); intro gb209 hg w36 hbox hb; have n0_ := Aside0.mk (Kd.R_below (by (with_reducible repeat (first | apply rA | apply rN | apply rD)); exact HO196.out) hb); have n1_ := Aside0.mk (Kd.R_below (by (with_reducible repeat (first | apply rA | apply rN | apply rD)); exact HO202.out) hb); have n2_ := Aside0.mk (Kd.R_below (by (with_reducible repeat (first | apply rA | apply rN | apply rD)); exact HO208.out) hb); have n3_ := Aside0.mk (bB hb BK190.out); have n4_ := Aside0.mk (bB hb BK191.out); have n5_ := Aside0.mk (bB hb BK204.out); have n6_ := Aside0.mk (below_step (by repeat (first | (with_reducible first | exact HB.out | apply bA | apply bN | apply bD | refine bS GE190.out ?_ | refine bS GE191.out ?_ | refine bS GE204.out ?_) | exact HB.out)) hb); have n7_ := Aside0.mk (hbox); have n8_ := Aside0.mk ((by rw [hg]; exact (below_size (by repeat (first | (with_reducible first | exact HB.out | apply bA | apply bN | apply bD | refine bS GE190.out ?_ | refine bS GE191.out ?_ | refine bS GE204.out ?_) | exact HB.out))) : w.heap.size ≤ gb209)); have n9_ := Aside0.mk ((by rw [hg]; exact (below_size (by repeat (first | (with_reducible first | exact HB.out | apply bA | apply bN | apply bD | refine bS GE190.out ?_ | refine bS GE191.out ?_ | refine bS GE204.out ?_) | exact HB.out))) : w.heap.size ≤ gb209)); have n10_ := Aside0.mk ((by rw [hg]; exact Nat.ne_of_lt (blk_lt BK190.out) : gb190 ≠ gb209)); have n11_ := Aside0.mk ((by rw [hg]; exact Nat.ne_of_gt (blk_lt BK190.out) : gb209 ≠ gb190)); have n12_ := Aside0.mk ((by rw [hg]; exact Nat.ne_of_lt (blk_lt BK191.out) : gb191 ≠ gb209)); have n13_ := Aside0.mk ((by rw [hg]; exact Nat.ne_of_gt (blk_lt BK191.out) : gb209 ≠ gb191)); have n14_ := Aside0.mk ((by rw [hg]; exact Nat.ne_of_lt (blk_lt BK204.out) : gb204 ≠ gb209)); have n15_ := Aside0.mk ((by rw [hg]; exact Nat.ne_of_gt (blk_lt BK204.out) : gb209 ≠ gb204)); clear HO196; clear HO202; clear HO208; clear BK190; clear BK191; clear BK204; clear HB; have HO196 := n0_; have HO202 := n1_; have HO208 := n2_; have BK190 := n3_; have BK191 := n4_; have BK204 := n5_; have HB := n6_; have BK209 := n7_; have GW209 := n8_; have GE209 := n9_; have NB190_209 := n10_; have NB209_190 := n11_; have NB191_209 := n12_; have NB209_191 := n13_; have NB204_209 := n14_; have NB209_204 := n15_; clear n0_ n1_ n2_ n3_ n4_ n5_ n6_ n7_ n8_ n9_ n10_ n11_ n12_ n13_ n14_ n15_; clear hb hbox hg; have hnb37 := NB209_190.out; have hnc37 := NB190_209.out; have hnb38 := NB209_191.out; have hnc38 := NB191_209.out; have hnb39 := NB209_204.out; have hnc39 := NB204_209.out; have hcz40_0 : w36.cell? ⟨gb209, 0, none⟩ = some (.string (⟨#[]⟩ : ByteArray)) := (blk_cell BK209.out 0).trans rfl; have hcz40_1 : w36.cell? ⟨gb209, 1, none⟩ = some (.slice none 0 0) := (blk_cell BK209.out 1).trans rfl; have hfz40_0 := blk_frozen BK209.out 0; have hfz40_1 := blk_frozen BK209.out 1; obtain ⟨Ao41, co41, eo41⟩ := Kd.R_slice HO208.out; subst eo41))
  have n0_ : Aside0 (Kd.R k41 41 ((w36.setCell ⟨gb209, 0, none⟩ (.string t205)).setCell ⟨gb209, 1, none⟩ (.slice Ao41 t206.length co41)) w.heap.size (fun k_ => some k_ ≠ (.slice Ao31 t200.length co31 : Value).ownBlock ∧ some k_ ≠ (.slice Ao41 t206.length co41 : Value).ownBlock) v195 t194) := ⟨by (with_reducible repeat (first | apply rA | apply rN | apply rD)); exact Kd.R_mono (Kd.R_far (p := ⟨gb209, 1, none⟩) (Kd.R_far (p := ⟨gb209, 0, none⟩) (Kd.R_types HO196.out BK209.out (by decide)) (fun _ hk => hk.2) (.string t205)) (fun _ hk => hk.2) (.slice Ao41 t206.length co41)) (fun _ hk => ⟨hk.1.1, hk.1.2⟩)⟩
  have n1_ : Aside0 (Kd.R k41 41 ((w36.setCell ⟨gb209, 0, none⟩ (.string t205)).setCell ⟨gb209, 1, none⟩ (.slice Ao41 t206.length co41)) w.heap.size (fun k_ => some k_ ≠ (v195 : Value).ownBlock ∧ some k_ ≠ (.slice Ao41 t206.length co41 : Value).ownBlock) (.slice Ao31 t200.length co31) t200) := ⟨by (with_reducible repeat (first | apply rA | apply rN | apply rD)); exact Kd.R_mono (Kd.R_far (p := ⟨gb209, 1, none⟩) (Kd.R_far (p := ⟨gb209, 0, none⟩) (Kd.R_types HO202.out BK209.out (by decide)) (fun _ hk => hk.2) (.string t205)) (fun _ hk => hk.2) (.slice Ao41 t206.length co41)) (fun _ hk => ⟨hk.1.1, hk.1.2⟩)⟩
  have n2_ : Aside0 (Kd.R k41 41 ((w36.setCell ⟨gb209, 0, none⟩ (.string t205)).setCell ⟨gb209, 1, none⟩ (.slice Ao41 t206.length co41)) w.heap.size (fun k_ => some k_ ≠ (v195 : Value).ownBlock ∧ some k_ ≠ (.slice Ao31 t200.length co31 : Value).ownBlock) (.slice Ao41 t206.length co41) t206) := ⟨by (with_reducible repeat (first | apply rA | apply rN | apply rD)); exact Kd.R_mono (Kd.R_far (p := ⟨gb209, 1, none⟩) (Kd.R_far (p := ⟨gb209, 0, none⟩) (Kd.R_types HO208.out BK209.out (by decide)) (fun _ hk => hk.2) (.string t205)) (fun _ hk => hk.2) (.slice Ao41 t206.length co41)) (fun _ hk => ⟨hk.1.1.2, hk.1.2⟩)⟩
  have n3_ : Aside0 (((w36.setCell ⟨gb209, 0, none⟩ (.string t205)).setCell ⟨gb209, 1, none⟩ (.slice Ao41 t206.length co41)).heap[gb190]? = some (.cells #[.string a0_0, .slice A0_1 l0_1.length c0_1] 31 (0, 0))) := ⟨by (with_reducible repeat (first | refine kN ?_ _ | refine kD ?_ | refine kA ?_ _)); refine blk_far ?_ NB190_209.out _; (with_reducible repeat (first | refine kN ?_ _ | refine kD ?_ | refine kA ?_ _)); refine blk_far ?_ NB190_209.out _; (with_reducible repeat (first | refine kN ?_ _ | refine kD ?_ | refine kA ?_ _)); exact BK190.out⟩
  have n4_ : Aside0 (((w36.setCell ⟨gb209, 0, none⟩ (.string t205)).setCell ⟨gb209, 1, none⟩ (.slice Ao41 t206.length co41)).heap[gb191]? = some (.cells #[.int .i64 a2_0, .int .i64 a2_1] 38 (0, 0))) := ⟨by (with_reducible repeat (first | refine kN ?_ _ | refine kD ?_ | refine kA ?_ _)); refine blk_far ?_ NB191_209.out _; (with_reducible repeat (first | refine kN ?_ _ | refine kD ?_ | refine kA ?_ _)); refine blk_far ?_ NB191_209.out _; (with_reducible repeat (first | refine kN ?_ _ | refine kD ?_ | refine kA ?_ _)); exact BK191.out⟩
  have n5_ : Aside0 (((w36.setCell ⟨gb209, 0, none⟩ (.string t205)).setCell ⟨gb209, 1, none⟩ (.slice Ao41 t206.length co41)).heap[gb204]? = some (.cells #[.string t199, .slice Ao31 t200.length co31] 24 (0, 0))) := ⟨by (with_reducible repeat (first | refine kN ?_ _ | refine kD ?_ | refine kA ?_ _)); refine blk_far ?_ NB204_209.out _; (with_reducible repeat (first | refine kN ?_ _ | refine kD ?_ | refine kA ?_ _)); refine blk_far ?_ NB204_209.out _; (with_reducible repeat (first | refine kN ?_ _ | refine kD ?_ | refine kA ?_ _)); exact BK204.out⟩
  have n6_ : Aside0 (((w36.setCell ⟨gb209, 0, none⟩ (.string t205)).setCell ⟨gb209, 1, none⟩ (.slice Ao41 t206.length co41)).heap[gb209]? = some (.cells #[.string t205, .slice Ao41 t206.length co41] 24 (0, 0))) := ⟨by (with_reducible repeat (first | refine kN ?_ _ | refine kD ?_ | refine kA ?_ _)); refine blk_put (cs := #[.string t205, .slice none 0 0]) ?_ 1 _ rfl; (with_reducible repeat (first | refine kN ?_ _ | refine kD ?_ | refine kA ?_ _)); refine blk_put (cs := #[.string (⟨#[]⟩ : ByteArray), .slice none 0 0]) ?_ 0 _ rfl; (with_reducible repeat (first | refine kN ?_ _ | refine kD ?_ | refine kA ?_ _)); exact BK209.out⟩
  have n7_ : Aside0 (Below w.heap.size w ((w36.setCell ⟨gb209, 0, none⟩ (.string t205)).setCell ⟨gb209, 1, none⟩ (.slice Ao41 t206.length co41))) := ⟨by repeat (first | (with_reducible first | exact HB.out | apply bA | apply bN | apply bD | refine bS GE190.out ?_ | refine bS GE191.out ?_ | refine bS GE204.out ?_ | refine bS GE209.out ?_) | exact HB.out)⟩
  (try clear HO196)
  (try clear HO202)
  (try clear HO208)
  (try clear BK190)
  (try clear BK191)
  (try clear BK204)
  (try clear BK209)
  (try clear HB)
  generalize ((w36.setCell ⟨gb209, 0, none⟩ (.string t205)).setCell ⟨gb209, 1, none⟩ (.slice Ao41 t206.length co41)) = w42 at n0_ n1_ n2_ n3_ n4_ n5_ n6_ n7_ ⊢
  have HO196 := n0_
  have HO202 := n1_
  have HO208 := n2_
  have BK190 := n3_
  have BK191 := n4_
  have BK204 := n5_
  have BK209 := n6_
  have HB := n7_
  clear n0_ n1_ n2_ n3_ n4_ n5_ n6_ n7_
  have n0_ := Aside0.mk (Kd.R_drew HO196.out)
  have n1_ := Aside0.mk (Kd.R_drew HO202.out)
  have n2_ := Aside0.mk (Kd.R_drew HO208.out)
  have n3_ := Aside0.mk (blk_drew BK190.out)
  have n4_ := Aside0.mk (blk_drew BK191.out)
  have n5_ := Aside0.mk (blk_drew BK204.out)
  have n6_ := Aside0.mk (blk_drew BK209.out)
  have n7_ := Aside0.mk (below_drew1 HB.out)
  clear HO196
  clear HO202
  clear HO208
  clear BK190
  clear BK191
  clear BK204
  clear BK209
  clear HB
  have HO196 := n0_
  have HO202 := n1_
  have HO208 := n2_
  have BK190 := n3_
  have BK191 := n4_
  have BK204 := n5_
  have BK209 := n6_
  have HB := n7_
  clear n0_ n1_ n2_ n3_ n4_ n5_ n6_ n7_
  refine start_ (n := 11) (S := fun w' => w'.cell? ⟨gb209, 0, none⟩ = some (.string t205) ∧ w'.cell? ⟨gb209, 1, none⟩ = some (.slice Ao41 t206.length co41) ∧ w'.cell? ⟨gb191, 0, none⟩ = some (.int .i64 a2_0) ∧ w'.cell? ⟨gb191, 1, none⟩ = some (.int .i64 a2_1)) (ds := []) bl6_12 (by kernel_rfl) rfl rfl ⟨(blk_cell BK209.out 0).trans rfl, (blk_cell BK209.out 1).trans rfl, (blk_cell BK191.out 0).trans rfl, (blk_cell BK191.out 1).trans rfl⟩ (fun hHeld => ?_); refine with_tabW laws_FnExactTuneTone.tab7 laws_FnExactTuneTone.bits7 (fun HT_ HW_ => ?_)
  generalize w42.drew = w43 at HO196 HO202 HO208 BK190 BK191 BK204 BK209 HB hHeld ⊢
  refine pure_ (i := 1) (N := some 36) (v := ?_) (a' := ?_) bl6_15 rfl rfl (any_of HT_.out (by kernel_rfl)) (fun _ _ _ h => h) (Or.inl ⟨by rfl, ?_⟩) ?_ ?_
  rotate_left
  ·
   intro w'
   go_simp
   with_reducible rfl
  rotate_left
  ·
   simp only [Act.put, sA, sZ, sS, i64_w, i32_w]
   rfl
  refine take_ (i := 0) (N := some 35) (v := ?_) (a' := ?_) bl6_16 rfl rfl (take_ofW HT_.out HW_.out (by kernel_rfl)) (fun _ _ _ h => h) (Or.inl ⟨by rfl, ?_⟩) hHeld ?_ ?_
  rotate_left
  ·
   rintro w' ⟨s0, s1, s2, s3⟩
   go_simp
   with_reducible rfl
  rotate_left
  ·
   simp only [Act.put, sA, sZ, sS, i64_w, i32_w]
   rfl
  refine take_ (i := 2) (N := some 37) (v := ?_) (a' := ?_) bl6_19 rfl rfl (take_ofW HT_.out HW_.out (by kernel_rfl)) (fun _ _ _ h => h) (Or.inl ⟨by rfl, ?_⟩) hHeld ?_ ?_
  rotate_left
  ·
   rintro w' ⟨s0, s1, s2, s3⟩
   go_simp
   with_reducible rfl
  rotate_left
  ·
   simp only [Act.put, sA, sZ, sS, i64_w, i32_w]
   rfl
  refine join_ (σ := Value × Nat) 2 bl6_33 (fun s_ => [(38, .agg #[.int .i64 t210, .int .i64 t211]), (39, .tuple #[.agg #[.string t212, s_.1], .int .i64 t216]), (11, .pointer (some ⟨s_.2, 0, none⟩)), (34, .tuple #[.agg #[.string t212, s_.1], .int .i64 t216]), (40, .agg #[.string t212, s_.1]), (41, .int .i64 t216)]) (fun s_ w' => (w'.cell? ⟨gb209, 0, none⟩ = some (.string t205) ∧ w'.cell? ⟨gb209, 1, none⟩ = some (.slice Ao41 t206.length co41) ∧ w'.cell? ⟨gb191, 0, none⟩ = some (.int .i64 a2_0) ∧ w'.cell? ⟨gb191, 1, none⟩ = some (.int .i64 a2_1)) ∧ (Kd.R k41 41 w' w.heap.size (fun k_ => some k_ ≠ (.slice Ao31 t200.length co31 : Value).ownBlock ∧ some k_ ≠ (.slice Ao41 t206.length co41 : Value).ownBlock ∧ some k_ ≠ (s_.1 : Value).ownBlock) v195 t194) ∧ (Kd.R k41 41 w' w.heap.size (fun k_ => some k_ ≠ (v195 : Value).ownBlock ∧ some k_ ≠ (.slice Ao41 t206.length co41 : Value).ownBlock ∧ some k_ ≠ (s_.1 : Value).ownBlock) (.slice Ao31 t200.length co31) t200) ∧ (Kd.R k41 41 w' w.heap.size (fun k_ => some k_ ≠ (v195 : Value).ownBlock ∧ some k_ ≠ (.slice Ao31 t200.length co31 : Value).ownBlock ∧ some k_ ≠ (s_.1 : Value).ownBlock) (.slice Ao41 t206.length co41) t206) ∧ (Kd.R k41 41 w' w.heap.size (fun k_ => some k_ ≠ (v195 : Value).ownBlock ∧ some k_ ≠ (.slice Ao31 t200.length co31 : Value).ownBlock ∧ some k_ ≠ (.slice Ao41 t206.length co41 : Value).ownBlock) s_.1 t213) ∧ (w'.heap[gb190]? = some (.cells #[.string a0_0, .slice A0_1 l0_1.length c0_1] 31 (0, 0))) ∧ (w'.heap[gb191]? = some (.cells #[.int .i64 a2_0, .int .i64 a2_1] 38 (0, 0))) ∧ (w'.heap[gb204]? = some (.cells #[.string t199, .slice Ao31 t200.length co31] 24 (0, 0))) ∧ (w'.heap[gb209]? = some (.cells #[.string t205, .slice Ao41 t206.length co41] 24 (0, 0))) ∧ (w'.heap[s_.2]? = some (.cells #[.string (⟨#[]⟩ : ByteArray), .slice none 0 0] 24 (0, 0))) ∧ (w.heap.size ≤ s_.2) ∧ (w.heap.size ≤ s_.2) ∧ (gb190 ≠ s_.2) ∧ (s_.2 ≠ gb190) ∧ (gb191 ≠ s_.2) ∧ (s_.2 ≠ gb191) ∧ (gb204 ≠ s_.2) ∧ (s_.2 ≠ gb204) ∧ (gb209 ≠ s_.2) ∧ (s_.2 ≠ gb209) ∧ (Below w.heap.size w w')) ?_ ?_
  rotate_left
  ·
   intro hCont
   refine two_ (i := 3) (j := 8) (Ni := some 38) (Nj := some 11) bl6_21 bl6_23 rfl rfl rfl rfl (two_of HT_.out (by kernel_rfl)) (by decide) (by decide) (fun K hK => ?_) (fun K hK => ?_)
   ·
    skip
    refine goes_ Try.func22 (by kernel_rfl) rfl #[.agg #[.int .i64 a2_0, .int .i64 a2_1]] (by rfl) rfl rfl (by (try simp only [List.map_toArray, List.map_cons, List.map_nil]); first | done | rfl | (simp only [List.length_drop, List.length_take]; rfl)) ?_
    with_reducible refine (laws_toRatio.calls a2_0 a2_1 t210 t211 _ A15.out).mono ?_
    rintro e w44 ⟨rfl, hb⟩
    refine ⟨_, rfl, ?_⟩
    have n0_ := Aside0.mk (Kd.R_below (by (with_reducible repeat (first | apply rA | apply rN | apply rD)); exact HO196.out) hb)
    have n1_ := Aside0.mk (Kd.R_below (by (with_reducible repeat (first | apply rA | apply rN | apply rD)); exact HO202.out) hb)
    have n2_ := Aside0.mk (Kd.R_below (by (with_reducible repeat (first | apply rA | apply rN | apply rD)); exact HO208.out) hb)
    have n3_ := Aside0.mk (bB hb BK190.out)
    have n4_ := Aside0.mk (bB hb BK191.out)
    have n5_ := Aside0.mk (bB hb BK204.out)
    have n6_ := Aside0.mk (bB hb BK209.out)
    have n7_ := Aside0.mk (below_step (by repeat (first | (with_reducible first | exact HB.out | apply bA | apply bN | apply bD | refine bS GE190.out ?_ | refine bS GE191.out ?_ | refine bS GE204.out ?_ | refine bS GE209.out ?_) | exact HB.out)) hb)
    clear HO196
    clear HO202
    clear HO208
    clear BK190
    clear BK191
    clear BK204
    clear BK209
    clear HB
    have HO196 := n0_
    have HO202 := n1_
    have HO208 := n2_
    have BK190 := n3_
    have BK191 := n4_
    have BK204 := n5_
    have BK209 := n6_
    have HB := n7_
    clear n0_ n1_ n2_ n3_ n4_ n5_ n6_ n7_
    (try clear hb)
    (try clear hb2)
    (try clear hk)
    (try clear hi)
    refine hK.out _ _ ⟨(blk_cell BK209.out 0).trans rfl, (blk_cell BK209.out 1).trans rfl, (blk_cell BK191.out 0).trans rfl, (blk_cell BK191.out 1).trans rfl⟩ (fun hHeld => ?_)
    clear hK K
    refine norm_ (a' := ?_) ?_ ?_
    rotate_left
    ·
     show Act.put _ (some 38) _ = _
     simp only [Act.put, sA, sZ, sS, i64_w, i32_w]
     rfl
    refine two_ (i := 4) (j := 8) (Ni := some 39) (Nj := some 11) bl6_25 bl6_24 rfl rfl rfl rfl (two_of HT_.out (by kernel_rfl)) (by decide) (by decide) (fun K hK => ?_) (fun K hK => ?_)
    ·
     skip
     refine goes_ Try.func23 (by kernel_rfl) rfl #[.agg #[.string t205, .slice Ao41 t206.length co41], .int .i64 a1, .agg #[.int .i64 t210, .int .i64 t211]] (by rfl) rfl rfl (by (try simp only [List.map_toArray, List.map_cons, List.map_nil]); first | done | rfl | (simp only [List.length_drop, List.length_take]; rfl)) ?_
     with_reducible refine (impl_TuneTone.calls k t205 _ _ t206 a1 t210 t211 t212 t213 t216 _ ?side1 ?side2 A16.out).mono ?_
     (case side1 => repeat (first | exact (Kd.R_reads' HO208.out).2.2 | (with_reducible refine Kd.C_alloc ?_ _) | (with_reducible refine Kd.C_drewN ?_ _) | (with_reducible refine Kd.C_drew ?_)))
     (case side2 => exact (Kd.R_reads' HO208.out).2.1)
     rintro e w45 ⟨v214, rfl, ho0, hb⟩
     refine ⟨_, rfl, ?_⟩
     have n0_ := Aside0.mk (Kd.R_elder' (by (with_reducible repeat (first | apply rA | apply rN | apply rD)); exact HO196.out) (Kd.R_base ho0) hb)
     have n1_ := Aside0.mk (Kd.R_elder' (by (with_reducible repeat (first | apply rA | apply rN | apply rD)); exact HO202.out) (Kd.R_base ho0) hb)
     have n2_ := Aside0.mk (Kd.R_elder' (by (with_reducible repeat (first | apply rA | apply rN | apply rD)); exact HO208.out) (Kd.R_base ho0) hb)
     have n3_ := Aside0.mk (Kd.R_lower (Kd.R_new' (Kd.R_new' (Kd.R_new' ho0 (Kd.R_lt (by (with_reducible repeat (first | apply rA | apply rN | apply rD)); exact HO196.out))) (Kd.R_lt (by (with_reducible repeat (first | apply rA | apply rN | apply rD)); exact HO202.out))) (Kd.R_lt (by (with_reducible repeat (first | apply rA | apply rN | apply rD)); exact HO208.out))) (below_size (by repeat (first | (with_reducible first | exact HB.out | apply bA | apply bN | apply bD | refine bS GE190.out ?_ | refine bS GE191.out ?_ | refine bS GE204.out ?_ | refine bS GE209.out ?_) | exact HB.out))))
     have n4_ := Aside0.mk (bB hb BK190.out)
     have n5_ := Aside0.mk (bB hb BK191.out)
     have n6_ := Aside0.mk (bB hb BK204.out)
     have n7_ := Aside0.mk (bB hb BK209.out)
     have n8_ := Aside0.mk (below_step (by repeat (first | (with_reducible first | exact HB.out | apply bA | apply bN | apply bD | refine bS GE190.out ?_ | refine bS GE191.out ?_ | refine bS GE204.out ?_ | refine bS GE209.out ?_) | exact HB.out)) hb)
     clear HO196
     clear HO202
     clear HO208
     clear BK190
     clear BK191
     clear BK204
     clear BK209
     clear HB
     have HO196 := n0_
     have HO202 := n1_
     have HO208 := n2_
     have HO215 := n3_
     have BK190 := n4_
     have BK191 := n5_
     have BK204 := n6_
     have BK209 := n7_
     have HB := n8_
     clear n0_ n1_ n2_ n3_ n4_ n5_ n6_ n7_ n8_
     (try clear hb)
     (try clear hb2)
     (try clear hk)
     (try clear hi)
     (try clear ho0)
     refine hK.out _ _ ⟨(blk_cell BK209.out 0).trans rfl, (blk_cell BK209.out 1).trans rfl, (blk_cell BK191.out 0).trans rfl, (blk_cell BK191.out 1).trans rfl⟩ (fun hHeld => ?_)
     clear hK K
     refine norm_ (a' := ?_) ?_ ?_
     rotate_left
     ·
      show Act.put _ (some 39) _ = _
      simp only [Act.put, sA, sZ, sS, i64_w, i32_w]
      rfl
     refine pure_ (i := 5) (N := some 34) (v := ?_) (a' := ?_) bl6_28 rfl rfl (any_of HT_.out (by kernel_rfl)) (fun _ _ _ h => h) (Or.inl ⟨by rfl, ?_⟩) ?_ ?_
     rotate_left
     ·
      intro w'
      go_simp
      with_reducible rfl
     rotate_left
     ·
      simp only [Act.put, sA, sZ, sS, i64_w, i32_w]
      rfl
     refine pure_ (i := 6) (N := some 40) (v := ?_) (a' := ?_) bl6_30 rfl rfl (any_of HT_.out (by kernel_rfl)) (fun _ _ _ h => h) (Or.inl ⟨by rfl, ?_⟩) ?_ ?_
     rotate_left
     ·
      intro w'
      go_simp
      with_reducible rfl
     rotate_left
     ·
      simp only [Act.put, sA, sZ, sS, i64_w, i32_w]
      rfl
     refine pure_ (i := 7) (N := some 41) (v := ?_) (a' := ?_) bl6_31 rfl rfl (any_of HT_.out (by kernel_rfl)) (fun _ _ _ h => h) (Or.inl ⟨by rfl, ?_⟩) ?_ ?_
     rotate_left
     ·
      intro w'
      go_simp
      with_reducible rfl
     rotate_left
     ·
      simp only [Act.put, sA, sZ, sS, i64_w, i32_w]
      rfl
     refine one_ (i := 8) (N := some 11) bl6_33 rfl rfl (one_of HT_.out (by kernel_rfl)) (by decide) (fun K hK => ?_)
     refine box_step ?hg (N := 11) ?hd (cs := #[.string (⟨#[]⟩ : ByteArray), .slice none 0 0]) (t := 24) ?hr ?_; (case hd => rfl); (case hg => rfl); (case hr => first | (go_simp; done) | (go_simp; rfl))
     intro gb217 hg w46 hbox hb
     have n0_ := Aside0.mk (Kd.R_below (by (with_reducible repeat (first | apply rA | apply rN | apply rD)); exact HO196.out) hb)
     have n1_ := Aside0.mk (Kd.R_below (by (with_reducible repeat (first | apply rA | apply rN | apply rD)); exact HO202.out) hb)
     have n2_ := Aside0.mk (Kd.R_below (by (with_reducible repeat (first | apply rA | apply rN | apply rD)); exact HO208.out) hb)
     have n3_ := Aside0.mk (Kd.R_below (by (with_reducible repeat (first | apply rA | apply rN | apply rD)); exact HO215.out) hb)
     have n4_ := Aside0.mk (bB hb BK190.out)
     have n5_ := Aside0.mk (bB hb BK191.out)
     have n6_ := Aside0.mk (bB hb BK204.out)
     have n7_ := Aside0.mk (bB hb BK209.out)
     have n8_ := Aside0.mk (below_step (by repeat (first | (with_reducible first | exact HB.out | apply bA | apply bN | apply bD | refine bS GE190.out ?_ | refine bS GE191.out ?_ | refine bS GE204.out ?_ | refine bS GE209.out ?_) | exact HB.out)) hb)
     have n9_ := Aside0.mk (hbox)
     have n10_ := Aside0.mk ((by rw [hg]; exact (below_size (by repeat (first | (with_reducible first | exact HB.out | apply bA | apply bN | apply bD | refine bS GE190.out ?_ | refine bS GE191.out ?_ | refine bS GE204.out ?_ | refine bS GE209.out ?_) | exact HB.out))) : w.heap.size ≤ gb217))
     have n11_ := Aside0.mk ((by rw [hg]; exact (below_size (by repeat (first | (with_reducible first | exact HB.out | apply bA | apply bN | apply bD | refine bS GE190.out ?_ | refine bS GE191.out ?_ | refine bS GE204.out ?_ | refine bS GE209.out ?_) | exact HB.out))) : w.heap.size ≤ gb217))
     have n12_ := Aside0.mk ((by rw [hg]; exact Nat.ne_of_lt (blk_lt BK190.out) : gb190 ≠ gb217))
     have n13_ := Aside0.mk ((by rw [hg]; exact Nat.ne_of_gt (blk_lt BK190.out) : gb217 ≠ gb190))
     have n14_ := Aside0.mk ((by rw [hg]; exact Nat.ne_of_lt (blk_lt BK191.out) : gb191 ≠ gb217))
     have n15_ := Aside0.mk ((by rw [hg]; exact Nat.ne_of_gt (blk_lt BK191.out) : gb217 ≠ gb191))
     have n16_ := Aside0.mk ((by rw [hg]; exact Nat.ne_of_lt (blk_lt BK204.out) : gb204 ≠ gb217))
     have n17_ := Aside0.mk ((by rw [hg]; exact Nat.ne_of_gt (blk_lt BK204.out) : gb217 ≠ gb204))
     have n18_ := Aside0.mk ((by rw [hg]; exact Nat.ne_of_lt (blk_lt BK209.out) : gb209 ≠ gb217))
     have n19_ := Aside0.mk ((by rw [hg]; exact Nat.ne_of_gt (blk_lt BK209.out) : gb217 ≠ gb209))
     clear HO196
     clear HO202
     clear HO208
     clear HO215
     clear BK190
     clear BK191
     clear BK204
     clear BK209
     clear HB
     have HO196 := n0_
     have HO202 := n1_
     have HO208 := n2_
     have HO215 := n3_
     have BK190 := n4_
     have BK191 := n5_
     have BK204 := n6_
     have BK209 := n7_
     have HB := n8_
     have BK217 := n9_
     have GW217 := n10_
     have GE217 := n11_
     have NB190_217 := n12_
     have NB217_190 := n13_
     have NB191_217 := n14_
     have NB217_191 := n15_
     have NB204_217 := n16_
     have NB217_204 := n17_
     have NB209_217 := n18_
     have NB217_209 := n19_
     clear n0_ n1_ n2_ n3_ n4_ n5_ n6_ n7_ n8_ n9_ n10_ n11_ n12_ n13_ n14_ n15_ n16_ n17_ n18_ n19_
     clear hb hbox hg
     refine hK.out _ _ ⟨(blk_cell BK209.out 0).trans rfl, (blk_cell BK209.out 1).trans rfl, (blk_cell BK191.out 0).trans rfl, (blk_cell BK191.out 1).trans rfl⟩ (fun hHeld => ?_)
     clear hK K
     refine norm_ (a' := ?_) ?_ ?_
     rotate_left
     ·
      show Act.put _ (some 11) _ = _
      simp only [Act.put, sA, sZ, sS, i64_w, i32_w]
      rfl
     exact norm_ (by simp only [putAll, Act.put, List.setIfInBounds_toArray, List.set_cons_zero, List.set_cons_succ]) (hCont (v214, gb217) _ ⟨hHeld, (by (with_reducible repeat (first | apply rA | apply rN | apply rD)); exact Kd.R_mono HO196.out (fun _ hk => ⟨hk.1.1, ⟨hk.1.2, hk.2⟩⟩)), (by (with_reducible repeat (first | apply rA | apply rN | apply rD)); exact Kd.R_mono HO202.out (fun _ hk => ⟨hk.1.1, ⟨hk.1.2, hk.2⟩⟩)), (by (with_reducible repeat (first | apply rA | apply rN | apply rD)); exact Kd.R_mono HO208.out (fun _ hk => ⟨hk.1.1, ⟨hk.1.2, hk.2⟩⟩)), (by (with_reducible repeat (first | apply rA | apply rN | apply rD)); exact Kd.R_mono HO215.out (fun _ hk => ⟨hk.1.1.2, ⟨hk.1.2, hk.2⟩⟩)), BK190.out, BK191.out, BK204.out, BK209.out, BK217.out, GW217.out, GE217.out, NB190_217.out, NB217_190.out, NB191_217.out, NB217_191.out, NB204_217.out, NB217_204.out, NB209_217.out, NB217_209.out, (by repeat (first | (with_reducible first | exact HB.out | apply bA | apply bN | apply bD | refine bS GE190.out ?_ | refine bS GE191.out ?_ | refine bS GE204.out ?_ | refine bS GE209.out ?_ | refine bS GE217.out ?_) | exact HB.out))⟩)
    ·
     skip
     refine box_step ?hg (N := 11) ?hd (cs := #[.string (⟨#[]⟩ : ByteArray), .slice none 0 0]) (t := 24) ?hr ?_; (case hd => rfl); (case hg => rfl); (case hr => first | (go_simp; done) | (go_simp; rfl))
     intro gb217 hg w45 hbox hb
     have n0_ := Aside0.mk (Kd.R_below (by (with_reducible repeat (first | apply rA | apply rN | apply rD)); exact HO196.out) hb)
     have n1_ := Aside0.mk (Kd.R_below (by (with_reducible repeat (first | apply rA | apply rN | apply rD)); exact HO202.out) hb)
     have n2_ := Aside0.mk (Kd.R_below (by (with_reducible repeat (first | apply rA | apply rN | apply rD)); exact HO208.out) hb)
     have n3_ := Aside0.mk (bB hb BK190.out)
     have n4_ := Aside0.mk (bB hb BK191.out)
     have n5_ := Aside0.mk (bB hb BK204.out)
     have n6_ := Aside0.mk (bB hb BK209.out)
     have n7_ := Aside0.mk (below_step (by repeat (first | (with_reducible first | exact HB.out | apply bA | apply bN | apply bD | refine bS GE190.out ?_ | refine bS GE191.out ?_ | refine bS GE204.out ?_ | refine bS GE209.out ?_) | exact HB.out)) hb)
     have n8_ := Aside0.mk (hbox)
     have n9_ := Aside0.mk ((by rw [hg]; exact (below_size (by repeat (first | (with_reducible first | exact HB.out | apply bA | apply bN | apply bD | refine bS GE190.out ?_ | refine bS GE191.out ?_ | refine bS GE204.out ?_ | refine bS GE209.out ?_) | exact HB.out))) : w.heap.size ≤ gb217))
     have n10_ := Aside0.mk ((by rw [hg]; exact (below_size (by repeat (first | (with_reducible first | exact HB.out | apply bA | apply bN | apply bD | refine bS GE190.out ?_ | refine bS GE191.out ?_ | refine bS GE204.out ?_ | refine bS GE209.out ?_) | exact HB.out))) : w.heap.size ≤ gb217))
     have n11_ := Aside0.mk ((by rw [hg]; exact Nat.ne_of_lt (blk_lt BK190.out) : gb190 ≠ gb217))
     have n12_ := Aside0.mk ((by rw [hg]; exact Nat.ne_of_gt (blk_lt BK190.out) : gb217 ≠ gb190))
     have n13_ := Aside0.mk ((by rw [hg]; exact Nat.ne_of_lt (blk_lt BK191.out) : gb191 ≠ gb217))
     have n14_ := Aside0.mk ((by rw [hg]; exact Nat.ne_of_gt (blk_lt BK191.out) : gb217 ≠ gb191))
     have n15_ := Aside0.mk ((by rw [hg]; exact Nat.ne_of_lt (blk_lt BK204.out) : gb204 ≠ gb217))
     have n16_ := Aside0.mk ((by rw [hg]; exact Nat.ne_of_gt (blk_lt BK204.out) : gb217 ≠ gb204))
     have n17_ := Aside0.mk ((by rw [hg]; exact Nat.ne_of_lt (blk_lt BK209.out) : gb209 ≠ gb217))
     have n18_ := Aside0.mk ((by rw [hg]; exact Nat.ne_of_gt (blk_lt BK209.out) : gb217 ≠ gb209))
     clear HO196
     clear HO202
     clear HO208
     clear BK190
     clear BK191
     clear BK204
     clear BK209
     clear HB
     have HO196 := n0_
     have HO202 := n1_
     have HO208 := n2_
     have BK190 := n3_
     have BK191 := n4_
     have BK204 := n5_
     have BK209 := n6_
     have HB := n7_
     have BK217 := n8_
     have GW217 := n9_
     have GE217 := n10_
     have NB190_217 := n11_
     have NB217_190 := n12_
     have NB191_217 := n13_
     have NB217_191 := n14_
     have NB204_217 := n15_
     have NB217_204 := n16_
     have NB209_217 := n17_
     have NB217_209 := n18_
     clear n0_ n1_ n2_ n3_ n4_ n5_ n6_ n7_ n8_ n9_ n10_ n11_ n12_ n13_ n14_ n15_ n16_ n17_ n18_
     clear hb hbox hg
     refine hK.out _ _ ⟨(blk_cell BK209.out 0).trans rfl, (blk_cell BK209.out 1).trans rfl, (blk_cell BK191.out 0).trans rfl, (blk_cell BK191.out 1).trans rfl⟩ (fun hHeld => ?_)
     clear hK K
     refine norm_ (a' := ?_) ?_ ?_
     rotate_left
     ·
      show Act.put _ (some 11) _ = _
      simp only [Act.put, sA, sZ, sS, i64_w, i32_w]
      rfl
     refine one_ (i := 4) (N := some 39) bl6_27 rfl rfl (one_of HT_.out (by kernel_rfl)) (by decide) (fun K hK => ?_)
     refine goes_ Try.func23 (by kernel_rfl) rfl #[.agg #[.string t205, .slice Ao41 t206.length co41], .int .i64 a1, .agg #[.int .i64 t210, .int .i64 t211]] (by rfl) rfl rfl (by (try simp only [List.map_toArray, List.map_cons, List.map_nil]); first | done | rfl | (simp only [List.length_drop, List.length_take]; rfl)) ?_
     with_reducible refine (impl_TuneTone.calls k t205 _ _ t206 a1 t210 t211 t212 t213 t216 _ ?side1 ?side2 A16.out).mono ?_
     (case side1 => repeat (first | exact (Kd.R_reads' HO208.out).2.2 | (with_reducible refine Kd.C_alloc ?_ _) | (with_reducible refine Kd.C_drewN ?_ _) | (with_reducible refine Kd.C_drew ?_)))
     (case side2 => exact (Kd.R_reads' HO208.out).2.1)
     rintro e w46 ⟨v214, rfl, ho0, hb⟩
     refine ⟨_, rfl, ?_⟩
     have n0_ := Aside0.mk (Kd.R_elder' (by (with_reducible repeat (first | apply rA | apply rN | apply rD)); exact HO196.out) (Kd.R_base ho0) hb)
     have n1_ := Aside0.mk (Kd.R_elder' (by (with_reducible repeat (first | apply rA | apply rN | apply rD)); exact HO202.out) (Kd.R_base ho0) hb)
     have n2_ := Aside0.mk (Kd.R_elder' (by (with_reducible repeat (first | apply rA | apply rN | apply rD)); exact HO208.out) (Kd.R_base ho0) hb)
     have n3_ := Aside0.mk (Kd.R_lower (Kd.R_new' (Kd.R_new' (Kd.R_new' ho0 (Kd.R_lt (by (with_reducible repeat (first | apply rA | apply rN | apply rD)); exact HO196.out))) (Kd.R_lt (by (with_reducible repeat (first | apply rA | apply rN | apply rD)); exact HO202.out))) (Kd.R_lt (by (with_reducible repeat (first | apply rA | apply rN | apply rD)); exact HO208.out))) (below_size (by repeat (first | (with_reducible first | exact HB.out | apply bA | apply bN | apply bD | refine bS GE190.out ?_ | refine bS GE191.out ?_ | refine bS GE204.out ?_ | refine bS GE209.out ?_ | refine bS GE217.out ?_) | exact HB.out))))
     have n4_ := Aside0.mk (bB hb BK190.out)
     have n5_ := Aside0.mk (bB hb BK191.out)
     have n6_ := Aside0.mk (bB hb BK204.out)
     have n7_ := Aside0.mk (bB hb BK209.out)
     have n8_ := Aside0.mk (blk_below (g := gb217) (o := .cells #[.string (⟨#[]⟩ : ByteArray), .slice none 0 0] 24 (0, 0)) BK217.out hb)
     have n9_ := Aside0.mk (below_step (by repeat (first | (with_reducible first | exact HB.out | apply bA | apply bN | apply bD | refine bS GE190.out ?_ | refine bS GE191.out ?_ | refine bS GE204.out ?_ | refine bS GE209.out ?_ | refine bS GE217.out ?_) | exact HB.out)) hb)
     clear HO196
     clear HO202
     clear HO208
     clear BK190
     clear BK191
     clear BK204
     clear BK209
     clear BK217
     clear HB
     have HO196 := n0_
     have HO202 := n1_
     have HO208 := n2_
     have HO215 := n3_
     have BK190 := n4_
     have BK191 := n5_
     have BK204 := n6_
     have BK209 := n7_
     have BK217 := n8_
     have HB := n9_
     clear n0_ n1_ n2_ n3_ n4_ n5_ n6_ n7_ n8_ n9_
     (try clear hb)
     (try clear hb2)
     (try clear hk)
     (try clear hi)
     (try clear ho0)
     refine hK.out _ _ ⟨(blk_cell BK209.out 0).trans rfl, (blk_cell BK209.out 1).trans rfl, (blk_cell BK191.out 0).trans rfl, (blk_cell BK191.out 1).trans rfl⟩ (fun hHeld => ?_)
     clear hK K
     refine norm_ (a' := ?_) ?_ ?_
     rotate_left
     ·
      show Act.put _ (some 39) _ = _
      simp only [Act.put, sA, sZ, sS, i64_w, i32_w]
      rfl
     refine pure_ (i := 5) (N := some 34) (v := ?_) (a' := ?_) bl6_29 rfl rfl (any_of HT_.out (by kernel_rfl)) (fun _ _ _ h => h) (Or.inl ⟨by rfl, ?_⟩) ?_ ?_
     rotate_left
     ·
      intro w'
      go_simp
      with_reducible rfl
     rotate_left
     ·
      simp only [Act.put, sA, sZ, sS, i64_w, i32_w]
      rfl
     refine pure_ (i := 6) (N := some 40) (v := ?_) (a' := ?_) bl6_32 rfl rfl (any_of HT_.out (by kernel_rfl)) (fun _ _ _ h => h) (Or.inl ⟨by rfl, ?_⟩) ?_ ?_
     rotate_left
     ·
      intro w'
      go_simp
      with_reducible rfl
     rotate_left
     ·
      simp only [Act.put, sA, sZ, sS, i64_w, i32_w]
      rfl
     refine pure_ (i := 7) (N := some 41) (v := ?_) (a' := ?_) bl6_33 rfl rfl (any_of HT_.out (by kernel_rfl)) (fun _ _ _ h => h) (Or.inl ⟨by rfl, ?_⟩) ?_ ?_
     rotate_left
     ·
      intro w'
      go_simp
      with_reducible rfl
     rotate_left
     ·
      simp only [Act.put, sA, sZ, sS, i64_w, i32_w]
      rfl
     exact norm_ (by simp only [putAll, Act.put, List.setIfInBounds_toArray, List.set_cons_zero, List.set_cons_succ]) (hCont (v214, gb217) _ ⟨hHeld, (by (with_reducible repeat (first | apply rA | apply rN | apply rD)); exact Kd.R_mono HO196.out (fun _ hk => ⟨hk.1.1, ⟨hk.1.2, hk.2⟩⟩)), (by (with_reducible repeat (first | apply rA | apply rN | apply rD)); exact Kd.R_mono HO202.out (fun _ hk => ⟨hk.1.1, ⟨hk.1.2, hk.2⟩⟩)), (by (with_reducible repeat (first | apply rA | apply rN | apply rD)); exact Kd.R_mono HO208.out (fun _ hk => ⟨hk.1.1, ⟨hk.1.2, hk.2⟩⟩)), (by (with_reducible repeat (first | apply rA | apply rN | apply rD)); exact Kd.R_mono HO215.out (fun _ hk => ⟨hk.1.1.2, ⟨hk.1.2, hk.2⟩⟩)), BK190.out, BK191.out, BK204.out, BK209.out, BK217.out, GW217.out, GE217.out, NB190_217.out, NB217_190.out, NB191_217.out, NB217_191.out, NB204_217.out, NB217_204.out, NB209_217.out, NB217_209.out, (by repeat (first | (with_reducible first | exact HB.out | apply bA | apply bN | apply bD | refine bS GE190.out ?_ | refine bS GE191.out ?_ | refine bS GE204.out ?_ | refine bS GE209.out ?_ | refine bS GE217.out ?_) | exact HB.out))⟩)
   ·
    skip
    refine box_step ?hg (N := 11) ?hd (cs := #[.string (⟨#[]⟩ : ByteArray), .slice none 0 0]) (t := 24) ?hr ?_; (case hd => rfl); (case hg => rfl); (case hr => first | (go_simp; done) | (go_simp; rfl))
    intro gb217 hg w44 hbox hb
    have n0_ := Aside0.mk (Kd.R_below (by (with_reducible repeat (first | apply rA | apply rN | apply rD)); exact HO196.out) hb)
    have n1_ := Aside0.mk (Kd.R_below (by (with_reducible repeat (first | apply rA | apply rN | apply rD)); exact HO202.out) hb)
    have n2_ := Aside0.mk (Kd.R_below (by (with_reducible repeat (first | apply rA | apply rN | apply rD)); exact HO208.out) hb)
    have n3_ := Aside0.mk (bB hb BK190.out)
    have n4_ := Aside0.mk (bB hb BK191.out)
    have n5_ := Aside0.mk (bB hb BK204.out)
    have n6_ := Aside0.mk (bB hb BK209.out)
    have n7_ := Aside0.mk (below_step (by repeat (first | (with_reducible first | exact HB.out | apply bA | apply bN | apply bD | refine bS GE190.out ?_ | refine bS GE191.out ?_ | refine bS GE204.out ?_ | refine bS GE209.out ?_) | exact HB.out)) hb)
    have n8_ := Aside0.mk (hbox)
    have n9_ := Aside0.mk ((by rw [hg]; exact (below_size (by repeat (first | (with_reducible first | exact HB.out | apply bA | apply bN | apply bD | refine bS GE190.out ?_ | refine bS GE191.out ?_ | refine bS GE204.out ?_ | refine bS GE209.out ?_) | exact HB.out))) : w.heap.size ≤ gb217))
    have n10_ := Aside0.mk ((by rw [hg]; exact (below_size (by repeat (first | (with_reducible first | exact HB.out | apply bA | apply bN | apply bD | refine bS GE190.out ?_ | refine bS GE191.out ?_ | refine bS GE204.out ?_ | refine bS GE209.out ?_) | exact HB.out))) : w.heap.size ≤ gb217))
    have n11_ := Aside0.mk ((by rw [hg]; exact Nat.ne_of_lt (blk_lt BK190.out) : gb190 ≠ gb217))
    have n12_ := Aside0.mk ((by rw [hg]; exact Nat.ne_of_gt (blk_lt BK190.out) : gb217 ≠ gb190))
    have n13_ := Aside0.mk ((by rw [hg]; exact Nat.ne_of_lt (blk_lt BK191.out) : gb191 ≠ gb217))
    have n14_ := Aside0.mk ((by rw [hg]; exact Nat.ne_of_gt (blk_lt BK191.out) : gb217 ≠ gb191))
    have n15_ := Aside0.mk ((by rw [hg]; exact Nat.ne_of_lt (blk_lt BK204.out) : gb204 ≠ gb217))
    have n16_ := Aside0.mk ((by rw [hg]; exact Nat.ne_of_gt (blk_lt BK204.out) : gb217 ≠ gb204))
    have n17_ := Aside0.mk ((by rw [hg]; exact Nat.ne_of_lt (blk_lt BK209.out) : gb209 ≠ gb217))
    have n18_ := Aside0.mk ((by rw [hg]; exact Nat.ne_of_gt (blk_lt BK209.out) : gb217 ≠ gb209))
    clear HO196
    clear HO202
    clear HO208
    clear BK190
    clear BK191
    clear BK204
    clear BK209
    clear HB
    have HO196 := n0_
    have HO202 := n1_
    have HO208 := n2_
    have BK190 := n3_
    have BK191 := n4_
    have BK204 := n5_
    have BK209 := n6_
    have HB := n7_
    have BK217 := n8_
    have GW217 := n9_
    have GE217 := n10_
    have NB190_217 := n11_
    have NB217_190 := n12_
    have NB191_217 := n13_
    have NB217_191 := n14_
    have NB204_217 := n15_
    have NB217_204 := n16_
    have NB209_217 := n17_
    have NB217_209 := n18_
    clear n0_ n1_ n2_ n3_ n4_ n5_ n6_ n7_ n8_ n9_ n10_ n11_ n12_ n13_ n14_ n15_ n16_ n17_ n18_
    clear hb hbox hg
    refine hK.out _ _ ⟨(blk_cell BK209.out 0).trans rfl, (blk_cell BK209.out 1).trans rfl, (blk_cell BK191.out 0).trans rfl, (blk_cell BK191.out 1).trans rfl⟩ (fun hHeld => ?_)
    clear hK K
    refine norm_ (a' := ?_) ?_ ?_
    rotate_left
    ·
     show Act.put _ (some 11) _ = _
     simp only [Act.put, sA, sZ, sS, i64_w, i32_w]
     rfl
    refine one_ (i := 3) (N := some 38) bl6_24 rfl rfl (one_of HT_.out (by kernel_rfl)) (by decide) (fun K hK => ?_)
    refine goes_ Try.func22 (by kernel_rfl) rfl #[.agg #[.int .i64 a2_0, .int .i64 a2_1]] (by rfl) rfl rfl (by (try simp only [List.map_toArray, List.map_cons, List.map_nil]); first | done | rfl | (simp only [List.length_drop, List.length_take]; rfl)) ?_
    with_reducible refine (laws_toRatio.calls a2_0 a2_1 t210 t211 _ A15.out).mono ?_
    rintro e w45 ⟨rfl, hb⟩
    refine ⟨_, rfl, ?_⟩
    have n0_ := Aside0.mk (Kd.R_below (by (with_reducible repeat (first | apply rA | apply rN | apply rD)); exact HO196.out) hb)
    have n1_ := Aside0.mk (Kd.R_below (by (with_reducible repeat (first | apply rA | apply rN | apply rD)); exact HO202.out) hb)
    have n2_ := Aside0.mk (Kd.R_below (by (with_reducible repeat (first | apply rA | apply rN | apply rD)); exact HO208.out) hb)
    have n3_ := Aside0.mk (bB hb BK190.out)
    have n4_ := Aside0.mk (bB hb BK191.out)
    have n5_ := Aside0.mk (bB hb BK204.out)
    have n6_ := Aside0.mk (bB hb BK209.out)
    have n7_ := Aside0.mk (blk_below (g := gb217) (o := .cells #[.string (⟨#[]⟩ : ByteArray), .slice none 0 0] 24 (0, 0)) BK217.out hb)
    have n8_ := Aside0.mk (below_step (by repeat (first | (with_reducible first | exact HB.out | apply bA | apply bN | apply bD | refine bS GE190.out ?_ | refine bS GE191.out ?_ | refine bS GE204.out ?_ | refine bS GE209.out ?_ | refine bS GE217.out ?_) | exact HB.out)) hb)
    clear HO196
    clear HO202
    clear HO208
    clear BK190
    clear BK191
    clear BK204
    clear BK209
    clear BK217
    clear HB
    have HO196 := n0_
    have HO202 := n1_
    have HO208 := n2_
    have BK190 := n3_
    have BK191 := n4_
    have BK204 := n5_
    have BK209 := n6_
    have BK217 := n7_
    have HB := n8_
    clear n0_ n1_ n2_ n3_ n4_ n5_ n6_ n7_ n8_
    (try clear hb)
    (try clear hb2)
    (try clear hk)
    (try clear hi)
    refine hK.out _ _ ⟨(blk_cell BK209.out 0).trans rfl, (blk_cell BK209.out 1).trans rfl, (blk_cell BK191.out 0).trans rfl, (blk_cell BK191.out 1).trans rfl⟩ (fun hHeld => ?_)
    clear hK K
    refine norm_ (a' := ?_) ?_ ?_
    rotate_left
    ·
     show Act.put _ (some 38) _ = _
     simp only [Act.put, sA, sZ, sS, i64_w, i32_w]
     rfl
    refine one_ (i := 4) (N := some 39) bl6_27 rfl rfl (one_of HT_.out (by kernel_rfl)) (by decide) (fun K hK => ?_)
    refine goes_ Try.func23 (by kernel_rfl) rfl #[.agg #[.string t205, .slice Ao41 t206.length co41], .int .i64 a1, .agg #[.int .i64 t210, .int .i64 t211]] (by rfl) rfl rfl (by (try simp only [List.map_toArray, List.map_cons, List.map_nil]); first | done | rfl | (simp only [List.length_drop, List.length_take]; rfl)) ?_
    with_reducible refine (impl_TuneTone.calls k t205 _ _ t206 a1 t210 t211 t212 t213 t216 _ ?side1 ?side2 A16.out).mono ?_
    (case side1 => repeat (first | exact (Kd.R_reads' HO208.out).2.2 | (with_reducible refine Kd.C_alloc ?_ _) | (with_reducible refine Kd.C_drewN ?_ _) | (with_reducible refine Kd.C_drew ?_)))
    (case side2 => exact (Kd.R_reads' HO208.out).2.1)
    rintro e w46 ⟨v214, rfl, ho0, hb⟩
    refine ⟨_, rfl, ?_⟩
    have n0_ := Aside0.mk (Kd.R_elder' (by (with_reducible repeat (first | apply rA | apply rN | apply rD)); exact HO196.out) (Kd.R_base ho0) hb)
    have n1_ := Aside0.mk (Kd.R_elder' (by (with_reducible repeat (first | apply rA | apply rN | apply rD)); exact HO202.out) (Kd.R_base ho0) hb)
    have n2_ := Aside0.mk (Kd.R_elder' (by (with_reducible repeat (first | apply rA | apply rN | apply rD)); exact HO208.out) (Kd.R_base ho0) hb)
    have n3_ := Aside0.mk (Kd.R_lower (Kd.R_new' (Kd.R_new' (Kd.R_new' ho0 (Kd.R_lt (by (with_reducible repeat (first | apply rA | apply rN | apply rD)); exact HO196.out))) (Kd.R_lt (by (with_reducible repeat (first | apply rA | apply rN | apply rD)); exact HO202.out))) (Kd.R_lt (by (with_reducible repeat (first | apply rA | apply rN | apply rD)); exact HO208.out))) (below_size (by repeat (first | (with_reducible first | exact HB.out | apply bA | apply bN | apply bD | refine bS GE190.out ?_ | refine bS GE191.out ?_ | refine bS GE204.out ?_ | refine bS GE209.out ?_ | refine bS GE217.out ?_) | exact HB.out))))
    have n4_ := Aside0.mk (bB hb BK190.out)
    have n5_ := Aside0.mk (bB hb BK191.out)
    have n6_ := Aside0.mk (bB hb BK204.out)
    have n7_ := Aside0.mk (bB hb BK209.out)
    have n8_ := Aside0.mk (blk_below (g := gb217) (o := .cells #[.string (⟨#[]⟩ : ByteArray), .slice none 0 0] 24 (0, 0)) BK217.out hb)
    have n9_ := Aside0.mk (below_step (by repeat (first | (with_reducible first | exact HB.out | apply bA | apply bN | apply bD | refine bS GE190.out ?_ | refine bS GE191.out ?_ | refine bS GE204.out ?_ | refine bS GE209.out ?_ | refine bS GE217.out ?_) | exact HB.out)) hb)
    clear HO196
    clear HO202
    clear HO208
    clear BK190
    clear BK191
    clear BK204
    clear BK209
    clear BK217
    clear HB
    have HO196 := n0_
    have HO202 := n1_
    have HO208 := n2_
    have HO215 := n3_
    have BK190 := n4_
    have BK191 := n5_
    have BK204 := n6_
    have BK209 := n7_
    have BK217 := n8_
    have HB := n9_
    clear n0_ n1_ n2_ n3_ n4_ n5_ n6_ n7_ n8_ n9_
    (try clear hb)
    (try clear hb2)
    (try clear hk)
    (try clear hi)
    (try clear ho0)
    refine hK.out _ _ ⟨(blk_cell BK209.out 0).trans rfl, (blk_cell BK209.out 1).trans rfl, (blk_cell BK191.out 0).trans rfl, (blk_cell BK191.out 1).trans rfl⟩ (fun hHeld => ?_)
    clear hK K
    refine norm_ (a' := ?_) ?_ ?_
    rotate_left
    ·
     show Act.put _ (some 39) _ = _
     simp only [Act.put, sA, sZ, sS, i64_w, i32_w]
     rfl
    refine pure_ (i := 5) (N := some 34) (v := ?_) (a' := ?_) bl6_29 rfl rfl (any_of HT_.out (by kernel_rfl)) (fun _ _ _ h => h) (Or.inl ⟨by rfl, ?_⟩) ?_ ?_
    rotate_left
    ·
     intro w'
     go_simp
     with_reducible rfl
    rotate_left
    ·
     simp only [Act.put, sA, sZ, sS, i64_w, i32_w]
     rfl
    refine pure_ (i := 6) (N := some 40) (v := ?_) (a' := ?_) bl6_32 rfl rfl (any_of HT_.out (by kernel_rfl)) (fun _ _ _ h => h) (Or.inl ⟨by rfl, ?_⟩) ?_ ?_
    rotate_left
    ·
     intro w'
     go_simp
     with_reducible rfl
    rotate_left
    ·
     simp only [Act.put, sA, sZ, sS, i64_w, i32_w]
     rfl
    refine pure_ (i := 7) (N := some 41) (v := ?_) (a' := ?_) bl6_33 rfl rfl (any_of HT_.out (by kernel_rfl)) (fun _ _ _ h => h) (Or.inl ⟨by rfl, ?_⟩) ?_ ?_
    rotate_left
    ·
     intro w'
     go_simp
     with_reducible rfl
    rotate_left
    ·
     simp only [Act.put, sA, sZ, sS, i64_w, i32_w]
     rfl
    exact norm_ (by simp only [putAll, Act.put, List.setIfInBounds_toArray, List.set_cons_zero, List.set_cons_succ]) (hCont (v214, gb217) _ ⟨hHeld, (by (with_reducible repeat (first | apply rA | apply rN | apply rD)); exact Kd.R_mono HO196.out (fun _ hk => ⟨hk.1.1, ⟨hk.1.2, hk.2⟩⟩)), (by (with_reducible repeat (first | apply rA | apply rN | apply rD)); exact Kd.R_mono HO202.out (fun _ hk => ⟨hk.1.1, ⟨hk.1.2, hk.2⟩⟩)), (by (with_reducible repeat (first | apply rA | apply rN | apply rD)); exact Kd.R_mono HO208.out (fun _ hk => ⟨hk.1.1, ⟨hk.1.2, hk.2⟩⟩)), (by (with_reducible repeat (first | apply rA | apply rN | apply rD)); exact Kd.R_mono HO215.out (fun _ hk => ⟨hk.1.1.2, ⟨hk.1.2, hk.2⟩⟩)), BK190.out, BK191.out, BK204.out, BK209.out, BK217.out, GW217.out, GE217.out, NB190_217.out, NB217_190.out, NB191_217.out, NB217_191.out, NB204_217.out, NB217_204.out, NB209_217.out, NB217_209.out, (by repeat (first | (with_reducible first | exact HB.out | apply bA | apply bN | apply bD | refine bS GE190.out ?_ | refine bS GE191.out ?_ | refine bS GE204.out ?_ | refine bS GE209.out ?_ | refine bS GE217.out ?_) | exact HB.out))⟩)
  rintro ⟨v214, gb217⟩ w47 ⟨hS_, h0_, h1_, h2_, h3_, h4_, h5_, h6_, h7_, h8_, h9_, h10_, h11_, h12_, h13_, h14_, h15_, h16_, h17_, h18_, h19_⟩
  have n0_ : Aside0 (Kd.R k41 41 w47 w.heap.size (fun k_ => some k_ ≠ (.slice Ao31 t200.length co31 : Value).ownBlock ∧ some k_ ≠ (.slice Ao41 t206.length co41 : Value).ownBlock ∧ some k_ ≠ (v214 : Value).ownBlock) v195 t194) := ⟨h0_⟩
  have n1_ : Aside0 (Kd.R k41 41 w47 w.heap.size (fun k_ => some k_ ≠ (v195 : Value).ownBlock ∧ some k_ ≠ (.slice Ao41 t206.length co41 : Value).ownBlock ∧ some k_ ≠ (v214 : Value).ownBlock) (.slice Ao31 t200.length co31) t200) := ⟨h1_⟩
  have n2_ : Aside0 (Kd.R k41 41 w47 w.heap.size (fun k_ => some k_ ≠ (v195 : Value).ownBlock ∧ some k_ ≠ (.slice Ao31 t200.length co31 : Value).ownBlock ∧ some k_ ≠ (v214 : Value).ownBlock) (.slice Ao41 t206.length co41) t206) := ⟨h2_⟩
  have n3_ : Aside0 (Kd.R k41 41 w47 w.heap.size (fun k_ => some k_ ≠ (v195 : Value).ownBlock ∧ some k_ ≠ (.slice Ao31 t200.length co31 : Value).ownBlock ∧ some k_ ≠ (.slice Ao41 t206.length co41 : Value).ownBlock) v214 t213) := ⟨h3_⟩
  have n4_ : Aside0 (w47.heap[gb190]? = some (.cells #[.string a0_0, .slice A0_1 l0_1.length c0_1] 31 (0, 0))) := ⟨h4_⟩
  have n5_ : Aside0 (w47.heap[gb191]? = some (.cells #[.int .i64 a2_0, .int .i64 a2_1] 38 (0, 0))) := ⟨h5_⟩
  have n6_ : Aside0 (w47.heap[gb204]? = some (.cells #[.string t199, .slice Ao31 t200.length co31] 24 (0, 0))) := ⟨h6_⟩
  have n7_ : Aside0 (w47.heap[gb209]? = some (.cells #[.string t205, .slice Ao41 t206.length co41] 24 (0, 0))) := ⟨h7_⟩
  have n8_ : Aside0 (w47.heap[gb217]? = some (.cells #[.string (⟨#[]⟩ : ByteArray), .slice none 0 0] 24 (0, 0))) := ⟨h8_⟩
  have n9_ : Aside0 (w.heap.size ≤ gb217) := ⟨h9_⟩
  have n10_ : Aside0 (w.heap.size ≤ gb217) := ⟨h10_⟩
  have n11_ : Aside0 (gb190 ≠ gb217) := ⟨h11_⟩
  have n12_ : Aside0 (gb217 ≠ gb190) := ⟨h12_⟩
  have n13_ : Aside0 (gb191 ≠ gb217) := ⟨h13_⟩
  have n14_ : Aside0 (gb217 ≠ gb191) := ⟨h14_⟩
  have n15_ : Aside0 (gb204 ≠ gb217) := ⟨h15_⟩
  have n16_ : Aside0 (gb217 ≠ gb204) := ⟨h16_⟩
  have n17_ : Aside0 (gb209 ≠ gb217) := ⟨h17_⟩
  have n18_ : Aside0 (gb217 ≠ gb209) := ⟨h18_⟩
  have n19_ : Aside0 (Below w.heap.size w w47) := ⟨h19_⟩
  clear HO196
  clear HO202
  clear HO208
  clear BK190
  clear BK191
  clear BK204
  clear BK209
  clear HB
  clear h0_ h1_ h2_ h3_ h4_ h5_ h6_ h7_ h8_ h9_ h10_ h11_ h12_ h13_ h14_ h15_ h16_ h17_ h18_ h19_
  have HO196 := n0_
  have HO202 := n1_
  have HO208 := n2_
  have HO215 := n3_
  have BK190 := n4_
  have BK191 := n5_
  have BK204 := n6_
  have BK209 := n7_
  have BK217 := n8_
  have GW217 := n9_
  have GE217 := n10_
  have NB190_217 := n11_
  have NB217_190 := n12_
  have NB191_217 := n13_
  have NB217_191 := n14_
  have NB204_217 := n15_
  have NB217_204 := n16_
  have NB209_217 := n17_
  have NB217_209 := n18_
  have HB := n19_
  clear n0_ n1_ n2_ n3_ n4_ n5_ n6_ n7_ n8_ n9_ n10_ n11_ n12_ n13_ n14_ n15_ n16_ n17_ n18_ n19_
  have hHeld : w47.cell? ⟨gb209, 0, none⟩ = some (.string t205) ∧ w47.cell? ⟨gb209, 1, none⟩ = some (.slice Ao41 t206.length co41) ∧ w47.cell? ⟨gb191, 0, none⟩ = some (.int .i64 a2_0) ∧ w47.cell? ⟨gb191, 1, none⟩ = some (.int .i64 a2_1) := hS_
  obtain ⟨Ao49, co49, eo49⟩ := Kd.R_slice HO215.out
  (first | subst eo49 | (injection eo49 with f1_ f2_ f3_; have f4_ := f1_.symm; have f5_ := f3_.symm; clear f1_ f2_ f3_; subst f4_; subst f5_))
  refine norm_ (a' := ?_) ?_ ?_
  rotate_left
  ·
   simp only [putAll, Act.put, List.setIfInBounds_toArray, List.set_cons_zero, List.set_cons_succ]
   rfl
  refine one_ (i := 9) (N := none) bl6_34 rfl rfl (one_of HT_.out (by kernel_rfl)) (by decide) (fun K hK => ?_)
  have hs48 : w47.cell? ⟨gb217, 0, none⟩ = some (.string (⟨#[]⟩ : ByteArray)) := (blk_cell BK217.out 0).trans rfl
  have hfs48 := blk_frozen BK217.out 0
  have hns48_0 := NB190_217.out
  have hns48_1 := NB191_217.out
  have hns48_2 := NB204_217.out
  have hns48_3 := NB209_217.out
  have hms48_0 := NB217_190.out
  have hms48_1 := NB217_191.out
  have hms48_2 := NB217_204.out
  have hms48_3 := NB217_209.out
  have hs50 : w47.cell? ⟨gb217, 1, none⟩ = some (.slice none 0 0) := (blk_cell BK217.out 1).trans rfl
  have hfs50 := blk_frozen BK217.out 1
  have hns50_0 := NB190_217.out
  have hns50_1 := NB191_217.out
  have hns50_2 := NB204_217.out
  have hns50_3 := NB209_217.out
  have hms50_0 := NB217_190.out
  have hms50_1 := NB217_191.out
  have hms50_2 := NB217_204.out
  have hms50_3 := NB217_209.out
  refine skip_ (w1 := ?_) (by rfl) rfl ?_ ?_
  rotate_left
  ·
   go_simp
   rfl
  refine hK.out _ _ ⟨((cell_far (p := ⟨gb217, _, none⟩) NB209_217.out _).trans (((cell_far (p := ⟨gb217, _, none⟩) NB209_217.out _).trans (hHeld.1)))), ((cell_far (p := ⟨gb217, _, none⟩) NB209_217.out _).trans (((cell_far (p := ⟨gb217, _, none⟩) NB209_217.out _).trans (hHeld.2.1)))), ((cell_far (p := ⟨gb217, _, none⟩) NB191_217.out _).trans (((cell_far (p := ⟨gb217, _, none⟩) NB191_217.out _).trans (hHeld.2.2.1)))), ((cell_far (p := ⟨gb217, _, none⟩) NB191_217.out _).trans (((cell_far (p := ⟨gb217, _, none⟩) NB191_217.out _).trans (hHeld.2.2.2))))⟩ (fun hHeld => ?_)
  clear hK K
  refine pure_ (i := 10) (N := some 12) (v := ?_) (a' := ?_) bl6_35 rfl rfl (any_of HT_.out (by kernel_rfl)) (fun _ _ _ h => h) (Or.inl ⟨by rfl, ?_⟩) ?_ ?_
  rotate_left
  ·
   intro w'
   go_simp
   with_reducible rfl
  rotate_left
  ·
   simp only [Act.put, sA, sZ, sS, i64_w, i32_w]
   rfl
  refine done_ (done_of HT_.out (by kernel_rfl)) ?_
  go_upto_region 8 with (fail)
  go_cut [50] (fun v50 wc => ∃ (kq : Nat) (x50_16 : Bool), v50 = .bool x50_16 ∧ Aside0 (laws_FnExactTuneTone.j0 kq a1 t203 t216 x50_16 a0_0 l0_1 a2_0 a2_1 t199 t200 t205 t206 t212 t213 = some true) ∧ Aside0 (kq ≤ k) ∧ Aside0 (Kd.R k41 41 wc w.heap.size (fun k_ => some k_ ≠ ((.slice Ao41 t206.length co41) : Value).ownBlock ∧ some k_ ≠ ((.slice Ao49 t213.length co49) : Value).ownBlock) (.slice Ao31 t200.length co31) t200) ∧ Aside0 (Kd.R k41 41 wc w.heap.size (fun k_ => some k_ ≠ ((.slice Ao31 t200.length co31) : Value).ownBlock ∧ some k_ ≠ ((.slice Ao49 t213.length co49) : Value).ownBlock) (.slice Ao41 t206.length co41) t206) ∧ Aside0 (Kd.R k41 41 wc w.heap.size (fun k_ => some k_ ≠ ((.slice Ao31 t200.length co31) : Value).ownBlock ∧ some k_ ≠ ((.slice Ao41 t206.length co41) : Value).ownBlock) (.slice Ao49 t213.length co49) t213) ∧ Aside0 (wc.heap[gb190]? = some (.cells #[.string a0_0, (.slice A0_1 l0_1.length c0_1)] 31 (0, 0))) ∧ Aside0 (wc.heap[gb191]? = some (.cells #[.int .i64 a2_0, .int .i64 a2_1] 38 (0, 0))) ∧ Aside0 (wc.heap[gb204]? = some (.cells #[.string t199, (.slice Ao31 t200.length co31)] 24 (0, 0))) ∧ Aside0 (wc.heap[gb209]? = some (.cells #[.string t205, (.slice Ao41 t206.length co41)] 24 (0, 0))) ∧ Aside0 (wc.heap[gb217]? = some (.cells #[.string t212, (.slice Ao49 t213.length co49)] 24 (0, 0))) ∧ Aside0 (Below w.heap.size w wc))
  case first =>
   have H := HC17.out
   clear HC17
   replace H := Option.bind_eq_some_iff.mp H
   obtain ⟨t218, A510, H⟩ := H
   replace H : (if t218 = true then (laws_FnExactTuneTone.j0 k a1 t203 t216 (t216 != t203) a0_0 l0_1 a2_0 a2_1 t199 t200 t205 t206 t212 t213) else (laws_FnExactTuneTone.j0 k a1 t203 t216 true a0_0 l0_1 a2_0 a2_1 t199 t200 t205 t206 t212 t213)) = some true := H
   have A51 := Aside0.mk A510
   clear A510
   by_cases c52 : t218 = true
   ·
    subst c52
    have H1 : (laws_FnExactTuneTone.j0 k a1 t203 t216 (t216 != t203) a0_0 l0_1 a2_0 a2_1 t199 t200 t205 t206 t212 t213) = some true := by rw [if_pos rfl] at H; exact H
    clear H
    have H := H1
    clear H1
    have H' := Aside0.mk H
    clear H
    have hnb53 := NB217_190.out
    have hnc53 := NB190_217.out
    have hnb54 := NB217_191.out
    have hnc54 := NB191_217.out
    have hnb55 := NB217_204.out
    have hnc55 := NB204_217.out
    have hnb56 := NB217_209.out
    have hnc56 := NB209_217.out
    have hcz57_0 : w47.cell? ⟨gb217, 0, none⟩ = some (.string (⟨#[]⟩ : ByteArray)) := (blk_cell BK217.out 0).trans rfl
    have hcz57_1 : w47.cell? ⟨gb217, 1, none⟩ = some (.slice none 0 0) := (blk_cell BK217.out 1).trans rfl
    have hfz57_0 := blk_frozen BK217.out 0
    have hfz57_1 := blk_frozen BK217.out 1
    have hnb58 := NB204_190.out
    have hnc58 := NB190_204.out
    have hnb59 := NB204_191.out
    have hnc59 := NB191_204.out
    have hnb60 := NB204_209.out
    have hnc60 := NB209_204.out
    have hcz61_0 : w47.cell? ⟨gb204, 0, none⟩ = some (.string t199) := (blk_cell BK204.out 0).trans rfl
    have hcz61_1 : w47.cell? ⟨gb204, 1, none⟩ = some (.slice Ao31 t200.length co31) := (blk_cell BK204.out 1).trans rfl
    have hfz61_0 := blk_frozen BK204.out 0
    have hfz61_1 := blk_frozen BK204.out 1
    go_wp2_with (first | ((with_reducible refine gate_callee (f := 12) rfl ?_); refine goesL_ (some 44) rfl rfl Try.func12 (by kernel_rfl) rfl #[.agg #[.string t212, .slice Ao49 t213.length co49], .agg #[.string t199, .slice Ao31 t200.length co31]] rfl (by (try simp only [List.map_toArray, List.map_cons, List.map_nil]); first | done | rfl | (simp only [List.length_drop, List.length_take]; rfl)) ?_; (with_reducible refine (laws_eqTuning.calls k t212 _ _ t213 t199 _ _ t200 true _ ?side1 ?side2 ?side3 ?side4 A51.out).mono ?_); (case side1 => refine (Kd.R_reads' (e := 41) (base := w.heap.size) (ok := fun k_ => (some k_ ≠ (v195 : Value).ownBlock ∧ (some k_ ≠ (.slice Ao31 t200.length co31 : Value).ownBlock ∧ some k_ ≠ (.slice Ao41 t206.length co41 : Value).ownBlock))) (n := t213.length) (c := co49) ?_).2.2; exact (by (with_reducible repeat (first | apply rA | apply rN | apply rD)); exact (Kd.R_mono (Kd.R_far (p := ⟨gb217, 1, none⟩) (Kd.R_far (p := ⟨gb217, 0, none⟩) (Kd.R_types HO215.out BK217.out (by decide)) (fun _ hk => hk.2) (.string t212)) (fun _ hk => hk.2) (.slice Ao49 t213.length co49)) (fun _ h_ => h_.1)))); (case side2 => exact (Kd.R_reads' HO215.out).2.1); (case side3 => refine (Kd.R_reads' (e := 41) (base := w.heap.size) (ok := fun k_ => (some k_ ≠ (v195 : Value).ownBlock ∧ (some k_ ≠ (.slice Ao41 t206.length co41 : Value).ownBlock ∧ some k_ ≠ (.slice Ao49 t213.length co49 : Value).ownBlock))) (n := t200.length) (c := co31) ?_).2.2; exact (by (with_reducible repeat (first | apply rA | apply rN | apply rD)); exact (Kd.R_mono (Kd.R_far (p := ⟨gb217, 1, none⟩) (Kd.R_far (p := ⟨gb217, 0, none⟩) (Kd.R_types HO202.out BK217.out (by decide)) (fun _ hk => hk.2) (.string t212)) (fun _ hk => hk.2) (.slice Ao49 t213.length co49)) (fun _ h_ => h_.1)))); (case side4 => exact (Kd.R_reads' HO202.out).2.1); rintro e w62 ⟨rfl, hb⟩; refine ⟨_, rfl, ?_⟩; have n0_ := Aside0.mk (Kd.R_below (by (with_reducible repeat (first | apply rA | apply rN | apply rD)); exact (Kd.R_mono (Kd.R_far (p := ⟨gb217, 1, none⟩) (Kd.R_far (p := ⟨gb217, 0, none⟩) (Kd.R_types HO196.out BK217.out (by decide)) (fun _ hk => hk.2) (.string t212)) (fun _ hk => hk.2) (.slice Ao49 t213.length co49)) (fun _ h_ => h_.1))) hb); have n1_ := Aside0.mk (Kd.R_below (by (with_reducible repeat (first | apply rA | apply rN | apply rD)); exact (Kd.R_mono (Kd.R_far (p := ⟨gb217, 1, none⟩) (Kd.R_far (p := ⟨gb217, 0, none⟩) (Kd.R_types HO202.out BK217.out (by decide)) (fun _ hk => hk.2) (.string t212)) (fun _ hk => hk.2) (.slice Ao49 t213.length co49)) (fun _ h_ => h_.1))) hb); have n2_ := Aside0.mk (Kd.R_below (by (with_reducible repeat (first | apply rA | apply rN | apply rD)); exact (Kd.R_mono (Kd.R_far (p := ⟨gb217, 1, none⟩) (Kd.R_far (p := ⟨gb217, 0, none⟩) (Kd.R_types HO208.out BK217.out (by decide)) (fun _ hk => hk.2) (.string t212)) (fun _ hk => hk.2) (.slice Ao49 t213.length co49)) (fun _ h_ => h_.1))) hb); have n3_ := Aside0.mk (Kd.R_below (by (with_reducible repeat (first | apply rA | apply rN | apply rD)); exact (Kd.R_mono (Kd.R_far (p := ⟨gb217, 1, none⟩) (Kd.R_far (p := ⟨gb217, 0, none⟩) (Kd.R_types HO215.out BK217.out (by decide)) (fun _ hk => hk.2) (.string t212)) (fun _ hk => hk.2) (.slice Ao49 t213.length co49)) (fun _ h_ => h_.1))) hb); have n4_ := Aside0.mk (blk_below (g := gb190) (o := .cells #[.string a0_0, .slice A0_1 l0_1.length c0_1] 31 (0, 0)) (by (with_reducible repeat (first | refine kN ?_ _ | refine kD ?_ | refine kA ?_ _)); refine blk_far ?_ NB190_217.out _; (with_reducible repeat (first | refine kN ?_ _ | refine kD ?_ | refine kA ?_ _)); refine blk_far ?_ NB190_217.out _; (with_reducible repeat (first | refine kN ?_ _ | refine kD ?_ | refine kA ?_ _)); exact BK190.out) hb); have n5_ := Aside0.mk (blk_below (g := gb191) (o := .cells #[.int .i64 a2_0, .int .i64 a2_1] 38 (0, 0)) (by (with_reducible repeat (first | refine kN ?_ _ | refine kD ?_ | refine kA ?_ _)); refine blk_far ?_ NB191_217.out _; (with_reducible repeat (first | refine kN ?_ _ | refine kD ?_ | refine kA ?_ _)); refine blk_far ?_ NB191_217.out _; (with_reducible repeat (first | refine kN ?_ _ | refine kD ?_ | refine kA ?_ _)); exact BK191.out) hb); have n6_ := Aside0.mk (blk_below (g := gb204) (o := .cells #[.string t199, .slice Ao31 t200.length co31] 24 (0, 0)) (by (with_reducible repeat (first | refine kN ?_ _ | refine kD ?_ | refine kA ?_ _)); refine blk_far ?_ NB204_217.out _; (with_reducible repeat (first | refine kN ?_ _ | refine kD ?_ | refine kA ?_ _)); refine blk_far ?_ NB204_217.out _; (with_reducible repeat (first | refine kN ?_ _ | refine kD ?_ | refine kA ?_ _)); exact BK204.out) hb); have n7_ := Aside0.mk (blk_below (g := gb209) (o := .cells #[.string t205, .slice Ao41 t206.length co41] 24 (0, 0)) (by (with_reducible repeat (first | refine kN ?_ _ | refine kD ?_ | refine kA ?_ _)); refine blk_far ?_ NB209_217.out _; (with_reducible repeat (first | refine kN ?_ _ | refine kD ?_ | refine kA ?_ _)); refine blk_far ?_ NB209_217.out _; (with_reducible repeat (first | refine kN ?_ _ | refine kD ?_ | refine kA ?_ _)); exact BK209.out) hb); have n8_ := Aside0.mk (blk_below (g := gb217) (o := .cells #[.string t212, .slice Ao49 t213.length co49] 24 (0, 0)) (by (with_reducible repeat (first | refine kN ?_ _ | refine kD ?_ | refine kA ?_ _)); refine blk_put (cs := #[.string t212, .slice none 0 0]) ?_ 1 _ rfl; (with_reducible repeat (first | refine kN ?_ _ | refine kD ?_ | refine kA ?_ _)); refine blk_put (cs := #[.string (⟨#[]⟩ : ByteArray), .slice none 0 0]) ?_ 0 _ rfl; (with_reducible repeat (first | refine kN ?_ _ | refine kD ?_ | refine kA ?_ _)); exact BK217.out) hb); have n9_ := Aside0.mk (below_step (by repeat (first | (with_reducible first | exact HB.out | apply bA | apply bN | apply bD | refine bS GE190.out ?_ | refine bS GE191.out ?_ | refine bS GE204.out ?_ | refine bS GE209.out ?_ | refine bS GE217.out ?_) | exact HB.out)) hb); clear HO196; clear HO202; clear HO208; clear HO215; clear BK190; clear BK191; clear BK204; clear BK209; clear BK217; clear HB; have HO196 := n0_; have HO202 := n1_; have HO208 := n2_; have HO215 := n3_; have BK190 := n4_; have BK191 := n5_; have BK204 := n6_; have BK209 := n7_; have BK217 := n8_; have HB := n9_; clear n0_ n1_ n2_ n3_ n4_ n5_ n6_ n7_ n8_ n9_; (try clear hb); (try clear hb2); (try clear hk); (try clear hi)))
    go_meet
    case rel => exact ⟨_, ((t216 != t203)), (by first | rfl | (simp; done) | (simp [*]; done)), H', ⟨by first | omega | exact Nat.le_refl _⟩, ⟨by (with_reducible repeat (first | apply rA | apply rN | apply rD)); exact Kd.R_mono HO202.out (fun _ hk => ⟨hk.2.1, hk.2.2⟩)⟩, ⟨by (with_reducible repeat (first | apply rA | apply rN | apply rD)); exact Kd.R_mono HO208.out (fun _ hk => ⟨hk.2.1, hk.2.2⟩)⟩, ⟨by (with_reducible repeat (first | apply rA | apply rN | apply rD)); exact Kd.R_mono HO215.out (fun _ hk => ⟨hk.2.1, hk.2.2⟩)⟩, ⟨BK190.out⟩, ⟨BK191.out⟩, ⟨BK204.out⟩, ⟨BK209.out⟩, ⟨BK217.out⟩, ⟨by repeat (first | (with_reducible first | exact HB.out | apply bA | apply bN | apply bD | refine bS GE190.out ?_ | refine bS GE191.out ?_ | refine bS GE204.out ?_ | refine bS GE209.out ?_ | refine bS GE217.out ?_) | exact HB.out)⟩⟩
   ·
    replace c52 := Bool.eq_false_iff.mpr c52
    subst c52
    have H1 : (laws_FnExactTuneTone.j0 k a1 t203 t216 true a0_0 l0_1 a2_0 a2_1 t199 t200 t205 t206 t212 t213) = some true := by rw [if_neg (show ¬ (false = true) by decide)] at H; exact H
    exact absurd H1 (by cases k <;> simp [laws_FnExactTuneTone.j0])
  case rest =>
   clear HC17
   try clear c1
   try clear c2
   try clear p2
   try clear c5
   try clear c6
   try clear c7
   try clear c12
   try clear c22
   try clear c23
   try clear c52
   try clear c53
   try clear c54
   try clear c55
   try clear c56
   try clear c58
   try clear c59
   try clear c60
   try clear c63
   try clear c64
   try clear c65
   try clear c66
   try clear c68
   try clear c69
   try clear c70
   try clear hcz57_0
   try clear hcz57_1
   try clear hcz61_0
   try clear hcz61_1
   try clear hcz67_0
   try clear hcz67_1
   try clear hcz71_0
   try clear hcz71_1
   try clear hfz57_0
   try clear hfz57_1
   try clear hfz61_0
   try clear hfz61_1
   try clear hfz67_0
   try clear hfz67_1
   try clear hfz71_0
   try clear hfz71_1
   obtain ⟨kq, x50_16, rfl, HA, HJ16, HO_205001, HO_210001, HO_218001, BK190, BK191, BK204, BK209, BK217, HB⟩ := hcut
   cases kq with
   | zero => exact absurd HA.out (by simp [laws_FnExactTuneTone.j0])
   | succ kj16 =>
    have H := HA.out
    clear HA
    simp only [laws_FnExactTuneTone.j0] at H
    by_cases c73 : x50_16 = true
    ·
     subst c73
     have H1 : (some false) = some true := by rw [if_pos rfl] at H; exact H
     clear H
     have H := H1
     clear H1
     exact absurd H (by simp)
    ·
     replace c73 := Bool.eq_false_iff.mpr c73
     subst c73
     have H1 : ((laws_toTuning.f kj16 a0_0 l0_1).bind fun bt219 => ((laws_eqTuning.f kj16 t205 t206 bt219.1 bt219.2).bind fun t223 => (if t223 = true then ((laws_markTuning.f kj16 t205 t206 1).bind fun bt224 => (if bt224.1 < 0 then (laws_FnExactTuneTone.j1 kj16 a1 t203 true a0_0 l0_1 a2_0 a2_1 t199 t200 t212 t213) else ((laws_eqTuning.f kj16 t212 t213 t199 t200).bind fun t226 => (if t226 = true then (laws_FnExactTuneTone.j1 kj16 a1 t203 (t216 != t203) a0_0 l0_1 a2_0 a2_1 t199 t200 t212 t213) else (laws_FnExactTuneTone.j1 kj16 a1 t203 true a0_0 l0_1 a2_0 a2_1 t199 t200 t212 t213))))) else (some false)))) = some true := by rw [if_neg (show ¬ (false = true) by decide)] at H; exact H
     clear H
     have H := H1
     clear H1
     replace H := Option.bind_eq_some_iff.mp H
     obtain ⟨⟨t219, t220⟩, A740, H⟩ := H
     replace H : ((laws_eqTuning.f kj16 t205 t206 t219 t220).bind fun t223 => (if t223 = true then ((laws_markTuning.f kj16 t205 t206 1).bind fun bt224 => (if bt224.1 < 0 then (laws_FnExactTuneTone.j1 kj16 a1 t203 true a0_0 l0_1 a2_0 a2_1 t199 t200 t212 t213) else ((laws_eqTuning.f kj16 t212 t213 t199 t200).bind fun t226 => (if t226 = true then (laws_FnExactTuneTone.j1 kj16 a1 t203 (t216 != t203) a0_0 l0_1 a2_0 a2_1 t199 t200 t212 t213) else (laws_FnExactTuneTone.j1 kj16 a1 t203 true a0_0 l0_1 a2_0 a2_1 t199 t200 t212 t213))))) else (some false))) = some true := H
     have A74 := Aside0.mk A740
     clear A740
     replace H := Option.bind_eq_some_iff.mp H
     obtain ⟨t223, A750, H⟩ := H
     replace H : (if t223 = true then ((laws_markTuning.f kj16 t205 t206 1).bind fun bt224 => (if bt224.1 < 0 then (laws_FnExactTuneTone.j1 kj16 a1 t203 true a0_0 l0_1 a2_0 a2_1 t199 t200 t212 t213) else ((laws_eqTuning.f kj16 t212 t213 t199 t200).bind fun t226 => (if t226 = true then (laws_FnExactTuneTone.j1 kj16 a1 t203 (t216 != t203) a0_0 l0_1 a2_0 a2_1 t199 t200 t212 t213) else (laws_FnExactTuneTone.j1 kj16 a1 t203 true a0_0 l0_1 a2_0 a2_1 t199 t200 t212 t213))))) else (some false)) = some true := H
     have A75 := Aside0.mk A750
     clear A750
     by_cases c76 : t223 = true
     ·
      subst c76
      have H1 : ((laws_markTuning.f kj16 t205 t206 1).bind fun bt224 => (if bt224.1 < 0 then (laws_FnExactTuneTone.j1 kj16 a1 t203 true a0_0 l0_1 a2_0 a2_1 t199 t200 t212 t213) else ((laws_eqTuning.f kj16 t212 t213 t199 t200).bind fun t226 => (if t226 = true then (laws_FnExactTuneTone.j1 kj16 a1 t203 (t216 != t203) a0_0 l0_1 a2_0 a2_1 t199 t200 t212 t213) else (laws_FnExactTuneTone.j1 kj16 a1 t203 true a0_0 l0_1 a2_0 a2_1 t199 t200 t212 t213))))) = some true := by rw [if_pos rfl] at H; exact H
      clear H
      have H := H1
      clear H1
      replace H := Option.bind_eq_some_iff.mp H
      obtain ⟨⟨t224, t225⟩, A770, H⟩ := H
      replace H : (if t224 < 0 then (laws_FnExactTuneTone.j1 kj16 a1 t203 true a0_0 l0_1 a2_0 a2_1 t199 t200 t212 t213) else ((laws_eqTuning.f kj16 t212 t213 t199 t200).bind fun t226 => (if t226 = true then (laws_FnExactTuneTone.j1 kj16 a1 t203 (t216 != t203) a0_0 l0_1 a2_0 a2_1 t199 t200 t212 t213) else (laws_FnExactTuneTone.j1 kj16 a1 t203 true a0_0 l0_1 a2_0 a2_1 t199 t200 t212 t213)))) = some true := H
      have A77 := Aside0.mk A770
      clear A770
      have HC78 := Aside0.mk H
      clear H
      try go_wp2
      have n0_ := Aside0.mk (Kd.R_drew HO_205001.out)
      have n1_ := Aside0.mk (Kd.R_drew HO_210001.out)
      have n2_ := Aside0.mk (Kd.R_drew HO_218001.out)
      have n3_ := Aside0.mk (blk_drew BK190.out)
      have n4_ := Aside0.mk (blk_drew BK191.out)
      have n5_ := Aside0.mk (blk_drew BK204.out)
      have n6_ := Aside0.mk (blk_drew BK209.out)
      have n7_ := Aside0.mk (blk_drew BK217.out)
      have n8_ := Aside0.mk (below_drew1 HB.out)
      clear HO_205001
      clear HO_210001
      clear HO_218001
      clear BK190
      clear BK191
      clear BK204
      clear BK209
      clear BK217
      clear HB
      have HO_205001 := n0_
      have HO_210001 := n1_
      have HO_218001 := n2_
      have BK190 := n3_
      have BK191 := n4_
      have BK204 := n5_
      have BK209 := n6_
      have BK217 := n7_
      have HB := n8_
      clear n0_ n1_ n2_ n3_ n4_ n5_ n6_ n7_ n8_
      refine start_ (n := 5) (S := fun w' => w'.cell? ⟨gb209, 0, none⟩ = some (.string t205) ∧ w'.cell? ⟨gb209, 1, none⟩ = some (.slice Ao41 t206.length co41) ∧ w'.cell? ⟨gb190, 0, none⟩ = some (.string a0_0) ∧ w'.cell? ⟨gb190, 1, none⟩ = some (.slice A0_1 l0_1.length c0_1)) (ds := []) #[false, false, false, false, false] (by kernel_rfl) rfl rfl ⟨(blk_cell BK209.out 0).trans rfl, (blk_cell BK209.out 1).trans rfl, (blk_cell BK190.out 0).trans rfl, (blk_cell BK190.out 1).trans rfl⟩ (fun hHeld => ?_)
      generalize wc.drew = w79 at HO_205001 HO_210001 HO_218001 BK190 BK191 BK204 BK209 BK217 HB hHeld ⊢
      refine take_ (i := 0) (N := some 51) (v := ?_) (a' := ?_) #[true, false, false, false, false] rfl rfl (by kernel_rfl) (fun _ _ _ h => h) (Or.inl ⟨by rfl, ?_⟩) hHeld ?_ ?_
      rotate_left
      ·
       rintro w' ⟨s0, s1, s2, s3⟩
       go_simp
       with_reducible rfl
      rotate_left
      ·
       simp only [Act.put, sA, sZ, sS, i64_w, i32_w]
       rfl
      refine take_ (i := 1) (N := some 52) (v := ?_) (a' := ?_) #[true, true, false, false, false] rfl rfl (by kernel_rfl) (fun _ _ _ h => h) (Or.inl ⟨by rfl, ?_⟩) hHeld ?_ ?_
      rotate_left
      ·
       rintro w' ⟨s0, s1, s2, s3⟩
       go_simp
       with_reducible rfl
      rotate_left
      ·
       simp only [Act.put, sA, sZ, sS, i64_w, i32_w]
       rfl
      refine one_ (i := 2) (N := some 53) #[true, true, true, false, false] rfl rfl (by kernel_rfl) (by decide) (fun K hK => ?_)
      refine goes_ Try.func17 (by kernel_rfl) rfl #[.agg #[.string a0_0, .slice A0_1 l0_1.length c0_1]] (by rfl) rfl rfl (by (try simp only [List.map_toArray, List.map_cons, List.map_nil]); first | done | rfl | (simp only [List.length_drop, List.length_take]; rfl)) ?_
      with_reducible refine (laws_toTuning.calls kj16 a0_0 _ _ l0_1 t219 t220 _ ?side1 ?side2 A74.out).mono ?_
      (case side1 => repeat (first | exact (Kd.C_below HR0_1.out HB.out) | (with_reducible refine Kd.C_alloc ?_ _) | (with_reducible refine Kd.C_drewN ?_ _) | (with_reducible refine Kd.C_drew ?_)))
      (case side2 => exact HC0_1.out)
      rintro e w80 ⟨v221, rfl, ho0, hb⟩
      refine ⟨_, rfl, ?_⟩
      have n0_ := Aside0.mk (Kd.R_elder' (by (with_reducible repeat (first | apply rA | apply rN | apply rD)); exact HO_205001.out) (Kd.R_base ho0) hb)
      have n1_ := Aside0.mk (Kd.R_elder' (by (with_reducible repeat (first | apply rA | apply rN | apply rD)); exact HO_210001.out) (Kd.R_base ho0) hb)
      have n2_ := Aside0.mk (Kd.R_elder' (by (with_reducible repeat (first | apply rA | apply rN | apply rD)); exact HO_218001.out) (Kd.R_base ho0) hb)
      have n3_ := Aside0.mk (Kd.R_lower (Kd.R_new' (Kd.R_new' (Kd.R_new' ho0 (Kd.R_lt (by (with_reducible repeat (first | apply rA | apply rN | apply rD)); exact HO_205001.out))) (Kd.R_lt (by (with_reducible repeat (first | apply rA | apply rN | apply rD)); exact HO_210001.out))) (Kd.R_lt (by (with_reducible repeat (first | apply rA | apply rN | apply rD)); exact HO_218001.out))) (below_size (by repeat (first | (with_reducible first | exact HB.out | apply bA | apply bN | apply bD | refine bS GE190.out ?_ | refine bS GE191.out ?_ | refine bS GE204.out ?_ | refine bS GE209.out ?_ | refine bS GE217.out ?_) | exact HB.out))))
      have n4_ := Aside0.mk (bB hb BK190.out)
      have n5_ := Aside0.mk (bB hb BK191.out)
      have n6_ := Aside0.mk (bB hb BK204.out)
      have n7_ := Aside0.mk (bB hb BK209.out)
      have n8_ := Aside0.mk (bB hb BK217.out)
      have n9_ := Aside0.mk (below_step (by repeat (first | (with_reducible first | exact HB.out | apply bA | apply bN | apply bD | refine bS GE190.out ?_ | refine bS GE191.out ?_ | refine bS GE204.out ?_ | refine bS GE209.out ?_ | refine bS GE217.out ?_) | exact HB.out)) hb)
      clear HO_205001
      clear HO_210001
      clear HO_218001
      clear BK190
      clear BK191
      clear BK204
      clear BK209
      clear BK217
      clear HB
      have HO_205001 := n0_
      have HO_210001 := n1_
      have HO_218001 := n2_
      have HO222 := n3_
      have BK190 := n4_
      have BK191 := n5_
      have BK204 := n6_
      have BK209 := n7_
      have BK217 := n8_
      have HB := n9_
      clear n0_ n1_ n2_ n3_ n4_ n5_ n6_ n7_ n8_ n9_
      (try clear hb)
      (try clear hb2)
      (try clear hk)
      (try clear hi)
      (try clear ho0)
      obtain ⟨Ao81, co81, eo81⟩ := Kd.R_slice HO222.out
      (first | subst eo81 | (injection eo81 with f1_ f2_ f3_; have f4_ := f1_.symm; have f5_ := f3_.symm; clear f1_ f2_ f3_; subst f4_; subst f5_))
      refine hK.out _ _ ⟨(blk_cell BK209.out 0).trans rfl, (blk_cell BK209.out 1).trans rfl, (blk_cell BK190.out 0).trans rfl, (blk_cell BK190.out 1).trans rfl⟩ (fun hHeld => ?_)
      clear hK K
      refine norm_ (a' := ?_) ?_ ?_
      rotate_left
      ·
       show Act.put _ (some 53) _ = _
       simp only [Act.put, sA, sZ, sS, i64_w, i32_w]
       rfl
      refine one_ (i := 3) (N := some 54) #[true, true, true, true, false] rfl rfl (by kernel_rfl) (by decide) (fun K hK => ?_)
      refine goes_ Try.func12 (by kernel_rfl) rfl #[.agg #[.string t205, .slice Ao41 t206.length co41], .agg #[.string t219, .slice Ao81 t220.length co81]] (by rfl) rfl rfl (by (try simp only [List.map_toArray, List.map_cons, List.map_nil]); first | done | rfl | (simp only [List.length_drop, List.length_take]; rfl)) ?_
      with_reducible refine (laws_eqTuning.calls kj16 t205 _ _ t206 t219 _ _ t220 true _ ?side1 ?side2 ?side3 ?side4 A75.out).mono ?_
      (case side1 => repeat (first | exact (Kd.R_reads' HO_210001.out).2.2 | (with_reducible refine Kd.C_alloc ?_ _) | (with_reducible refine Kd.C_drewN ?_ _) | (with_reducible refine Kd.C_drew ?_)))
      (case side2 => exact (Kd.R_reads' HO_210001.out).2.1)
      (case side3 => repeat (first | exact (Kd.R_reads' HO222.out).2.2 | (with_reducible refine Kd.C_alloc ?_ _) | (with_reducible refine Kd.C_drewN ?_ _) | (with_reducible refine Kd.C_drew ?_)))
      (case side4 => exact (Kd.R_reads' HO222.out).2.1)
      rintro e w82 ⟨rfl, hb⟩
      refine ⟨_, rfl, ?_⟩
      have n0_ := Aside0.mk (Kd.R_below (by (with_reducible repeat (first | apply rA | apply rN | apply rD)); exact HO_205001.out) hb)
      have n1_ := Aside0.mk (Kd.R_below (by (with_reducible repeat (first | apply rA | apply rN | apply rD)); exact HO_210001.out) hb)
      have n2_ := Aside0.mk (Kd.R_below (by (with_reducible repeat (first | apply rA | apply rN | apply rD)); exact HO_218001.out) hb)
      have n3_ := Aside0.mk (Kd.R_below (by (with_reducible repeat (first | apply rA | apply rN | apply rD)); exact HO222.out) hb)
      have n4_ := Aside0.mk (bB hb BK190.out)
      have n5_ := Aside0.mk (bB hb BK191.out)
      have n6_ := Aside0.mk (bB hb BK204.out)
      have n7_ := Aside0.mk (bB hb BK209.out)
      have n8_ := Aside0.mk (bB hb BK217.out)
      have n9_ := Aside0.mk (below_step (by repeat (first | (with_reducible first | exact HB.out | apply bA | apply bN | apply bD | refine bS GE190.out ?_ | refine bS GE191.out ?_ | refine bS GE204.out ?_ | refine bS GE209.out ?_ | refine bS GE217.out ?_) | exact HB.out)) hb)
      clear HO_205001
      clear HO_210001
      clear HO_218001
      clear HO222
      clear BK190
      clear BK191
      clear BK204
      clear BK209
      clear BK217
      clear HB
      have HO_205001 := n0_
      have HO_210001 := n1_
      have HO_218001 := n2_
      have HO222 := n3_
      have BK190 := n4_
      have BK191 := n5_
      have BK204 := n6_
      have BK209 := n7_
      have BK217 := n8_
      have HB := n9_
      clear n0_ n1_ n2_ n3_ n4_ n5_ n6_ n7_ n8_ n9_
      (try clear hb)
      (try clear hb2)
      (try clear hk)
      (try clear hi)
      refine hK.out _ _ ⟨(blk_cell BK209.out 0).trans rfl, (blk_cell BK209.out 1).trans rfl, (blk_cell BK190.out 0).trans rfl, (blk_cell BK190.out 1).trans rfl⟩ (fun hHeld => ?_)
      clear hK K
      refine norm_ (a' := ?_) ?_ ?_
      rotate_left
      ·
       show Act.put _ (some 54) _ = _
       simp only [Act.put, sA, sZ, sS, i64_w, i32_w]
       rfl
      refine pure_ (i := 4) (N := some 55) (v := ?_) (a' := ?_) #[true, true, true, true, true] rfl rfl (by kernel_rfl) (fun _ _ _ h => h) (Or.inl ⟨by rfl, ?_⟩) ?_ ?_
      rotate_left
      ·
       intro w'
       go_simp
       with_reducible rfl
      rotate_left
      ·
       simp only [Act.put, sA, sZ, sS, i64_w, i32_w]
       rfl
      refine done_ (by kernel_rfl) ?_
      have hnb83 := NB209_190.out
      have hnc83 := NB190_209.out
      have hnb84 := NB209_191.out
      have hnc84 := NB191_209.out
      have hnb85 := NB209_204.out
      have hnc85 := NB204_209.out
      have hnb86 := NB209_217.out
      have hnc86 := NB217_209.out
      have hcz87_0 : w82.cell? ⟨gb209, 0, none⟩ = some (.string t205) := (blk_cell BK209.out 0).trans rfl
      have hcz87_1 : w82.cell? ⟨gb209, 1, none⟩ = some (.slice Ao41 t206.length co41) := (blk_cell BK209.out 1).trans rfl
      have hfz87_0 := blk_frozen BK209.out 0
      have hfz87_1 := blk_frozen BK209.out 1
      go_upto_region 14 with (first | ((with_reducible refine gate_callee (f := 13) rfl ?_); refine goesL_ (some 58) rfl rfl Try.func13 (by kernel_rfl) rfl #[.agg #[.string t205, .slice Ao41 t206.length co41], .int .i64 1] rfl (by (try simp only [List.map_toArray, List.map_cons, List.map_nil]); first | done | rfl | (simp only [List.length_drop, List.length_take]; rfl)) ?_; (with_reducible refine (laws_markTuning.calls kj16 t205 (fun k_ => some k_ = (.slice Ao41 t206.length co41 : Value).ownBlock) (.slice Ao41 t206.length co41) t206 1 t224 t225 w _ ?side1 ?side2 A77.out).mono ?_); (case side1 => repeat (first | (with_reducible first | exact HB.out | apply bA | apply bN | apply bD | refine bS GE190.out ?_ | refine bS GE191.out ?_ | refine bS GE204.out ?_ | refine bS GE209.out ?_ | refine bS GE217.out ?_) | exact HB.out)); (case side2 => exact Kd.R_tight rfl HO_210001.out); rintro e w88 ⟨rfl, hy0, hb, hkp⟩; refine ⟨_, rfl, ?_⟩; have n0_ := Aside0.mk (Kd.R_mono (ok' := fun k_ => some k_ ≠ (.slice Ao41 t206.length co41 : Value).ownBlock ∧ some k_ ≠ (.slice Ao49 t213.length co49 : Value).ownBlock ∧ some k_ ≠ (.slice Ao81 t220.length co81 : Value).ownBlock) (Kd.R_keptB (HO_205001.out) hkp (fun k_ hk_ hs_ => (hk_.1.1) hs_)) (fun k_ hk_ => ⟨hk_.1.1.1, hk_.1.1.2, hk_.1.2⟩)); have n1_ := Aside0.mk (Kd.R_reok rfl hy0 (fun k_ e_ => HO_210001.out.1 k_ e_)); have n2_ := Aside0.mk (Kd.R_mono (ok' := fun k_ => some k_ ≠ (.slice Ao31 t200.length co31 : Value).ownBlock ∧ some k_ ≠ (.slice Ao41 t206.length co41 : Value).ownBlock ∧ some k_ ≠ (.slice Ao81 t220.length co81 : Value).ownBlock) (Kd.R_keptB (HO_218001.out) hkp (fun k_ hk_ hs_ => (hk_.1.2) hs_)) (fun k_ hk_ => ⟨hk_.1.1.1, hk_.1.1.2, hk_.1.2⟩)); have n3_ := Aside0.mk (blk_kept BK190.out hkp (fun hs_ => (fun e_ => (Kd.R_ne HO_210001.out BK190.out (by decide)) e_) hs_)); have n4_ := Aside0.mk (blk_kept BK191.out hkp (fun hs_ => (fun e_ => (Kd.R_ne HO_210001.out BK191.out (by decide)) e_) hs_)); have n5_ := Aside0.mk (blk_kept BK204.out hkp (fun hs_ => (fun e_ => (Kd.R_ne HO_210001.out BK204.out (by decide)) e_) hs_)); have n6_ := Aside0.mk (blk_kept BK209.out hkp (fun hs_ => (fun e_ => (Kd.R_ne HO_210001.out BK209.out (by decide)) e_) hs_)); have n7_ := Aside0.mk (blk_kept BK217.out hkp (fun hs_ => (fun e_ => (Kd.R_ne HO_210001.out BK217.out (by decide)) e_) hs_)); have n8_ := Aside0.mk (Kd.R_mono (ok' := fun k_ => some k_ ≠ (.slice Ao31 t200.length co31 : Value).ownBlock ∧ some k_ ≠ (.slice Ao41 t206.length co41 : Value).ownBlock ∧ some k_ ≠ (.slice Ao49 t213.length co49 : Value).ownBlock) (Kd.R_keptB (HO222.out) hkp (fun k_ hk_ hs_ => (hk_.1.2) hs_)) (fun k_ hk_ => ⟨hk_.1.1.1.2, hk_.1.1.2, hk_.1.2⟩)); have n9_ := Aside0.mk (hb); clear HO_205001; clear HO_210001; clear HO_218001; clear BK190; clear BK191; clear BK204; clear BK209; clear BK217; clear HO222; clear HB; have HO_205001 := n0_; have HO_210001 := n1_; have HO_218001 := n2_; have BK190 := n3_; have BK191 := n4_; have BK204 := n5_; have BK209 := n6_; have BK217 := n7_; have HO222 := n8_; have HB := n9_; clear n0_ n1_ n2_ n3_ n4_ n5_ n6_ n7_ n8_ n9_; (try clear hb); (try clear hkp); (try clear hy0)))
      (try simp only [Act.put, List.setIfInBounds_toArray, List.set_cons_zero, List.set_cons_succ])
      go_cut [71] (fun v71 wc => ∃ (kq : Nat) (x71_77 : Bool), v71 = .bool x71_77 ∧ Aside0 (laws_FnExactTuneTone.j1 kq a1 t203 x71_77 a0_0 l0_1 a2_0 a2_1 t199 t200 t212 t213 = some true) ∧ Aside0 (kq ≤ kj16) ∧ Aside0 (Kd.R k41 41 wc w.heap.size (fun k_ => some k_ ≠ ((.slice Ao41 t206.length co41) : Value).ownBlock ∧ some k_ ≠ ((.slice Ao49 t213.length co49) : Value).ownBlock) (.slice Ao31 t200.length co31) t200) ∧ Aside0 (Kd.R k41 41 wc w.heap.size (fun k_ => some k_ ≠ ((.slice Ao31 t200.length co31) : Value).ownBlock ∧ some k_ ≠ ((.slice Ao49 t213.length co49) : Value).ownBlock) (.slice Ao41 t206.length co41) t225) ∧ Aside0 (Kd.R k41 41 wc w.heap.size (fun k_ => some k_ ≠ ((.slice Ao31 t200.length co31) : Value).ownBlock ∧ some k_ ≠ ((.slice Ao41 t206.length co41) : Value).ownBlock) (.slice Ao49 t213.length co49) t213) ∧ Aside0 (wc.heap[gb190]? = some (.cells #[.string a0_0, (.slice A0_1 l0_1.length c0_1)] 31 (0, 0))) ∧ Aside0 (wc.heap[gb191]? = some (.cells #[.int .i64 a2_0, .int .i64 a2_1] 38 (0, 0))) ∧ Aside0 (wc.heap[gb204]? = some (.cells #[.string t199, (.slice Ao31 t200.length co31)] 24 (0, 0))) ∧ Aside0 (wc.heap[gb209]? = some (.cells #[.string t205, (.slice Ao41 t206.length co41)] 24 (0, 0))) ∧ Aside0 (wc.heap[gb217]? = some (.cells #[.string t212, (.slice Ao49 t213.length co49)] 24 (0, 0))) ∧ Aside0 (Below w.heap.size w wc))
      case first =>
       have H := HC78.out
       clear HC78
       by_cases c89 : t224 < 0
       ·
        rw [if_pos c89] at H
        have c89b0 : decide (t224 < 0) = true := decide_eq_true c89
        clear c89
        (first | rw [c89b0] | (simp only [i64_w, i32_w]; rw [c89b0]) | skip)
        have H' := Aside0.mk H
        clear H
        go_wp2
        go_meet
        case rel => exact ⟨_, (true), (by first | rfl | (simp; done) | (simp [*]; done)), H', ⟨by have := HJ16.out; first | omega | exact Nat.le_refl _⟩, ⟨by (with_reducible repeat (first | apply rA | apply rN | apply rD)); exact Kd.R_mono HO_205001.out (fun _ hk => ⟨hk.1, hk.2.1⟩)⟩, ⟨by (with_reducible repeat (first | apply rA | apply rN | apply rD)); exact Kd.R_mono HO_210001.out (fun _ hk => ⟨hk.1.1, hk.1.2⟩)⟩, ⟨by (with_reducible repeat (first | apply rA | apply rN | apply rD)); exact Kd.R_mono HO_218001.out (fun _ hk => ⟨hk.1, hk.2.1⟩)⟩, ⟨BK190.out⟩, ⟨BK191.out⟩, ⟨BK204.out⟩, ⟨BK209.out⟩, ⟨BK217.out⟩, ⟨by repeat (first | (with_reducible first | exact HB.out | apply bA | apply bN | apply bD | refine bS GE190.out ?_ | refine bS GE191.out ?_ | refine bS GE204.out ?_ | refine bS GE209.out ?_ | refine bS GE217.out ?_) | exact HB.out)⟩⟩
       ·
        rw [if_neg c89] at H
        have c89b0 : decide (t224 < 0) = false := decide_eq_false c89
        clear c89
        (first | rw [c89b0] | (simp only [i64_w, i32_w]; rw [c89b0]) | skip)
        replace H := Option.bind_eq_some_iff.mp H
        obtain ⟨t226, A900, H⟩ := H
        replace H : (if t226 = true then (laws_FnExactTuneTone.j1 kj16 a1 t203 (t216 != t203) a0_0 l0_1 a2_0 a2_1 t199 t200 t212 t213) else (laws_FnExactTuneTone.j1 kj16 a1 t203 true a0_0 l0_1 a2_0 a2_1 t199 t200 t212 t213)) = some true := H
        have A90 := Aside0.mk A900
        clear A900
        by_cases c91 : t226 = true
        ·
         subst c91
         have H1 : (laws_FnExactTuneTone.j1 kj16 a1 t203 (t216 != t203) a0_0 l0_1 a2_0 a2_1 t199 t200 t212 t213) = some true := by rw [if_pos rfl] at H; exact H
         clear H
         have H := H1
         clear H1
         have H' := Aside0.mk H
         clear H
         have hnb92 := NB217_190.out
         have hnc92 := NB190_217.out
         have hnb93 := NB217_191.out
         have hnc93 := NB191_217.out
         have hnb94 := NB217_204.out
         have hnc94 := NB204_217.out
         have hnb95 := NB217_209.out
         have hnc95 := NB209_217.out
         have hcz96_0 : w88.cell? ⟨gb217, 0, none⟩ = some (.string t212) := (blk_cell BK217.out 0).trans rfl
         have hcz96_1 : w88.cell? ⟨gb217, 1, none⟩ = some (.slice Ao49 t213.length co49) := (blk_cell BK217.out 1).trans rfl
         have hfz96_0 := blk_frozen BK217.out 0
         have hfz96_1 := blk_frozen BK217.out 1
         have hnb97 := NB204_190.out
         have hnc97 := NB190_204.out
         have hnb98 := NB204_191.out
         have hnc98 := NB191_204.out
         have hnb99 := NB204_209.out
         have hnc99 := NB209_204.out
         have hcz100_0 : w88.cell? ⟨gb204, 0, none⟩ = some (.string t199) := (blk_cell BK204.out 0).trans rfl
         have hcz100_1 : w88.cell? ⟨gb204, 1, none⟩ = some (.slice Ao31 t200.length co31) := (blk_cell BK204.out 1).trans rfl
         have hfz100_0 := blk_frozen BK204.out 0
         have hfz100_1 := blk_frozen BK204.out 1
         go_wp2_with (first | (go_at_call 12; (with_reducible refine (laws_eqTuning.calls kj16 t212 _ _ t213 t199 _ _ t200 true _ ?side1 ?side2 ?side3 ?side4 A90.out).mono ?_); (case side1 => repeat (first | exact (Kd.R_reads' HO_218001.out).2.2 | (with_reducible refine Kd.C_alloc ?_ _) | (with_reducible refine Kd.C_drewN ?_ _) | (with_reducible refine Kd.C_drew ?_))); (case side2 => exact (Kd.R_reads' HO_218001.out).2.1); (case side3 => repeat (first | exact (Kd.R_reads' HO_205001.out).2.2 | (with_reducible refine Kd.C_alloc ?_ _) | (with_reducible refine Kd.C_drewN ?_ _) | (with_reducible refine Kd.C_drew ?_))); (case side4 => exact (Kd.R_reads' HO_205001.out).2.1); rintro e w101 ⟨rfl, hb⟩; have n0_ := Aside0.mk (Kd.R_below (by (with_reducible repeat (first | apply rA | apply rN | apply rD)); exact HO_205001.out) hb); have n1_ := Aside0.mk (Kd.R_below (by (with_reducible repeat (first | apply rA | apply rN | apply rD)); exact HO_210001.out) hb); have n2_ := Aside0.mk (Kd.R_below (by (with_reducible repeat (first | apply rA | apply rN | apply rD)); exact HO_218001.out) hb); have n3_ := Aside0.mk (Kd.R_below (by (with_reducible repeat (first | apply rA | apply rN | apply rD)); exact HO222.out) hb); have n4_ := Aside0.mk (bB hb BK190.out); have n5_ := Aside0.mk (bB hb BK191.out); have n6_ := Aside0.mk (bB hb BK204.out); have n7_ := Aside0.mk (bB hb BK209.out); have n8_ := Aside0.mk (bB hb BK217.out); have n9_ := Aside0.mk (below_step (by repeat (first | (with_reducible first | exact HB.out | apply bA | apply bN | apply bD | refine bS GE190.out ?_ | refine bS GE191.out ?_ | refine bS GE204.out ?_ | refine bS GE209.out ?_ | refine bS GE217.out ?_) | exact HB.out)) hb); clear HO_205001; clear HO_210001; clear HO_218001; clear HO222; clear BK190; clear BK191; clear BK204; clear BK209; clear BK217; clear HB; have HO_205001 := n0_; have HO_210001 := n1_; have HO_218001 := n2_; have HO222 := n3_; have BK190 := n4_; have BK191 := n5_; have BK204 := n6_; have BK209 := n7_; have BK217 := n8_; have HB := n9_; clear n0_ n1_ n2_ n3_ n4_ n5_ n6_ n7_ n8_ n9_; (try clear hb); (try clear hb2); (try clear hk); (try clear hi)))
         go_meet
         case rel => exact ⟨_, ((t216 != t203)), (by first | rfl | (simp; done) | (simp [*]; done)), H', ⟨by have := HJ16.out; first | omega | exact Nat.le_refl _⟩, ⟨by (with_reducible repeat (first | apply rA | apply rN | apply rD)); exact Kd.R_mono HO_205001.out (fun _ hk => ⟨hk.1, hk.2.1⟩)⟩, ⟨by (with_reducible repeat (first | apply rA | apply rN | apply rD)); exact Kd.R_mono HO_210001.out (fun _ hk => ⟨hk.1.1, hk.1.2⟩)⟩, ⟨by (with_reducible repeat (first | apply rA | apply rN | apply rD)); exact Kd.R_mono HO_218001.out (fun _ hk => ⟨hk.1, hk.2.1⟩)⟩, ⟨BK190.out⟩, ⟨BK191.out⟩, ⟨BK204.out⟩, ⟨BK209.out⟩, ⟨BK217.out⟩, ⟨by repeat (first | (with_reducible first | exact HB.out | apply bA | apply bN | apply bD | refine bS GE190.out ?_ | refine bS GE191.out ?_ | refine bS GE204.out ?_ | refine bS GE209.out ?_ | refine bS GE217.out ?_) | exact HB.out)⟩⟩
        ·
         replace c91 := Bool.eq_false_iff.mpr c91
         subst c91
         have H1 : (laws_FnExactTuneTone.j1 kj16 a1 t203 true a0_0 l0_1 a2_0 a2_1 t199 t200 t212 t213) = some true := by rw [if_neg (show ¬ (false = true) by decide)] at H; exact H
         exact absurd H1 (by cases kj16 <;> simp [laws_FnExactTuneTone.j1])
      case rest =>
       clear HC78
       try clear c1
       try clear c2
       try clear p2
       try clear c5
       try clear c6
       try clear c7
       try clear c8
       try clear c9
       try clear c10
       try clear c12
       try clear c13
       try clear c17
       try clear c22
       try clear c23
       try clear c52
       try clear c53
       try clear c54
       try clear c55
       try clear c56
       try clear c58
       try clear c59
       try clear c60
       try clear c63
       try clear c64
       try clear c65
       try clear c66
       try clear c68
       try clear c69
       try clear c70
       try clear c73
       try clear c76
       try clear c83
       try clear c84
       try clear c85
       try clear c86
       try clear c89
       try clear c89b0
       try clear c91
       try clear c92
       try clear c93
       try clear c94
       try clear c95
       try clear c97
       try clear c98
       try clear c99
       try clear c102
       try clear c103
       try clear c104
       try clear c105
       try clear c107
       try clear c108
       try clear c109
       try clear hcz100_0
       try clear hcz100_1
       try clear hcz106_0
       try clear hcz106_1
       try clear hcz110_0
       try clear hcz110_1
       try clear hcz57_0
       try clear hcz57_1
       try clear hcz61_0
       try clear hcz61_1
       try clear hcz67_0
       try clear hcz67_1
       try clear hcz71_0
       try clear hcz71_1
       try clear hcz87_0
       try clear hcz87_1
       try clear hcz96_0
       try clear hcz96_1
       try clear hfz100_0
       try clear hfz100_1
       try clear hfz106_0
       try clear hfz106_1
       try clear hfz110_0
       try clear hfz110_1
       try clear hfz57_0
       try clear hfz57_1
       try clear hfz61_0
       try clear hfz61_1
       try clear hfz67_0
       try clear hfz67_1
       try clear hfz71_0
       try clear hfz71_1
       try clear hfz87_0
       try clear hfz87_1
       try clear hfz96_0
       try clear hfz96_1
       try clear p2
       obtain ⟨kq, x71_77, rfl, HA, HJ77, HO_205001, HO_210001, HO_218001, BK190, BK191, BK204, BK209, BK217, HB⟩ := hcut
       have hl210001_77 := (Kd.R_reads' HO_210001.out).1
       rw [hl210001_77] at HO_210001
       (try simp only [hl210001_77])
       (try simp only [hl210001_77] at BK190)
       (try simp only [hl210001_77] at BK191)
       (try simp only [hl210001_77] at BK204)
       (try simp only [hl210001_77] at BK209)
       (try simp only [hl210001_77] at BK217)
       (try simp only [hl210001_77] at HO_205001)
       (try simp only [hl210001_77] at HO_218001)
       cases kq with
       | zero => exact absurd HA.out (by simp [laws_FnExactTuneTone.j1])
       | succ kj77 =>
        have H := HA.out
        clear HA
        simp only [laws_FnExactTuneTone.j1] at H
        by_cases c112 : x71_77 = true
        ·
         subst c112
         have H1 : (some false) = some true := by rw [if_pos rfl] at H; exact H
         clear H
         have H := H1
         clear H1
         exact absurd H (by simp)
        ·
         replace c112 := Bool.eq_false_iff.mpr c112
         subst c112
         have H1 : ((laws_markTuning.f kj77 t212 t213 1).bind fun bt227 => ((laws_heldTuning.f kj77 t212 bt227.2 1).bind fun t229 => (if t229 < 0 then (some false) else (if t229 = bt227.1 then ((laws_toTuning.f kj77 a0_0 l0_1).bind fun bt230 => ((laws_toRatio.f a2_0 a2_1).bind fun bt234 => ((impl_TuneTone.f kj77 bt230.1 bt230.2 a1 bt234.1 bt234.2).bind fun bt236 => ((laws_eqTuning.f kj77 bt236.1 bt236.2.1 t199 t200).bind fun t242 => (if t242 = true then (laws_FnExactTuneTone.j2 kj77 bt227.1 (bt236.2.2 != t203) t212 bt227.2) else (laws_FnExactTuneTone.j2 kj77 bt227.1 true t212 bt227.2)))))) else (some false))))) = some true := by rw [if_neg (show ¬ (false = true) by decide)] at H; exact H
         clear H
         have H := H1
         clear H1
         replace H := Option.bind_eq_some_iff.mp H
         obtain ⟨⟨t227, t228⟩, A1130, H⟩ := H
         replace H : ((laws_heldTuning.f kj77 t212 t228 1).bind fun t229 => (if t229 < 0 then (some false) else (if t229 = t227 then ((laws_toTuning.f kj77 a0_0 l0_1).bind fun bt230 => ((laws_toRatio.f a2_0 a2_1).bind fun bt234 => ((impl_TuneTone.f kj77 bt230.1 bt230.2 a1 bt234.1 bt234.2).bind fun bt236 => ((laws_eqTuning.f kj77 bt236.1 bt236.2.1 t199 t200).bind fun t242 => (if t242 = true then (laws_FnExactTuneTone.j2 kj77 t227 (bt236.2.2 != t203) t212 t228) else (laws_FnExactTuneTone.j2 kj77 t227 true t212 t228)))))) else (some false)))) = some true := H
         have A113 := Aside0.mk A1130
         clear A1130
         replace H := Option.bind_eq_some_iff.mp H
         obtain ⟨t229, A1140, H⟩ := H
         replace H : (if t229 < 0 then (some false) else (if t229 = t227 then ((laws_toTuning.f kj77 a0_0 l0_1).bind fun bt230 => ((laws_toRatio.f a2_0 a2_1).bind fun bt234 => ((impl_TuneTone.f kj77 bt230.1 bt230.2 a1 bt234.1 bt234.2).bind fun bt236 => ((laws_eqTuning.f kj77 bt236.1 bt236.2.1 t199 t200).bind fun t242 => (if t242 = true then (laws_FnExactTuneTone.j2 kj77 t227 (bt236.2.2 != t203) t212 t228) else (laws_FnExactTuneTone.j2 kj77 t227 true t212 t228)))))) else (some false))) = some true := H
         have A114 := Aside0.mk A1140
         clear A1140
         by_cases c115 : t229 < 0
         ·
          rw [if_pos c115] at H
          have c115b0 : decide (t229 < 0) = true := decide_eq_true c115
          clear c115
          exact absurd H (by simp)
         ·
          rw [if_neg c115] at H
          have c115b0 : decide (t229 < 0) = false := decide_eq_false c115
          clear c115
          by_cases c116 : t229 = t227
          ·
           rw [if_pos c116] at H
           have c116b0 : (t229 == t227) = true := beq_iff_eq.mpr c116
           have c116b1 : (t229 != t227) = false := bne_eq_false_iff_eq.mpr c116
           clear c116
           replace H := Option.bind_eq_some_iff.mp H
           obtain ⟨⟨t230, t231⟩, A1170, H⟩ := H
           replace H : ((laws_toRatio.f a2_0 a2_1).bind fun bt234 => ((impl_TuneTone.f kj77 t230 t231 a1 bt234.1 bt234.2).bind fun bt236 => ((laws_eqTuning.f kj77 bt236.1 bt236.2.1 t199 t200).bind fun t242 => (if t242 = true then (laws_FnExactTuneTone.j2 kj77 t227 (bt236.2.2 != t203) t212 t228) else (laws_FnExactTuneTone.j2 kj77 t227 true t212 t228))))) = some true := H
           have A117 := Aside0.mk A1170
           clear A1170
           replace H := Option.bind_eq_some_iff.mp H
           obtain ⟨⟨t234, t235⟩, A1180, H⟩ := H
           replace H : ((impl_TuneTone.f kj77 t230 t231 a1 t234 t235).bind fun bt236 => ((laws_eqTuning.f kj77 bt236.1 bt236.2.1 t199 t200).bind fun t242 => (if t242 = true then (laws_FnExactTuneTone.j2 kj77 t227 (bt236.2.2 != t203) t212 t228) else (laws_FnExactTuneTone.j2 kj77 t227 true t212 t228)))) = some true := H
           have A118 := Aside0.mk A1180
           clear A1180
           replace H := Option.bind_eq_some_iff.mp H
           obtain ⟨⟨t236, t237, t240⟩, A1190, H⟩ := H
           replace H : ((laws_eqTuning.f kj77 t236 t237 t199 t200).bind fun t242 => (if t242 = true then (laws_FnExactTuneTone.j2 kj77 t227 (t240 != t203) t212 t228) else (laws_FnExactTuneTone.j2 kj77 t227 true t212 t228))) = some true := H
           have A119 := Aside0.mk A1190
           clear A1190
           have HC120 := Aside0.mk H
           clear H
           have hnb121 := NB217_190.out
           have hnc121 := NB190_217.out
           have hnb122 := NB217_191.out
           have hnc122 := NB191_217.out
           have hnb123 := NB217_204.out
           have hnc123 := NB204_217.out
           have hnb124 := NB217_209.out
           have hnc124 := NB209_217.out
           have hcz125_0 : wc.cell? ⟨gb217, 0, none⟩ = some (.string t212) := (blk_cell BK217.out 0).trans rfl
           have hcz125_1 : wc.cell? ⟨gb217, 1, none⟩ = some (.slice Ao49 t213.length co49) := (blk_cell BK217.out 1).trans rfl
           have hfz125_0 := blk_frozen BK217.out 0
           have hfz125_1 := blk_frozen BK217.out 1
           try go_wp2_with (first | ((with_reducible refine gate_callee (f := 13) rfl ?_); refine goesL_ (some 74) rfl rfl Try.func13 (by kernel_rfl) rfl #[.agg #[.string t212, .slice Ao49 t213.length co49], .int .i64 1] rfl (by (try simp only [List.map_toArray, List.map_cons, List.map_nil]); first | done | rfl | (simp only [List.length_drop, List.length_take]; rfl)) ?_; (with_reducible refine (laws_markTuning.calls kj77 t212 (fun k_ => some k_ = (.slice Ao49 t213.length co49 : Value).ownBlock) (.slice Ao49 t213.length co49) t213 1 t227 t228 w _ ?side1 ?side2 A113.out).mono ?_); (case side1 => repeat (first | (with_reducible first | exact HB.out | apply bA | apply bN | apply bD | refine bS GE190.out ?_ | refine bS GE191.out ?_ | refine bS GE204.out ?_ | refine bS GE209.out ?_ | refine bS GE217.out ?_) | exact HB.out)); (case side2 => exact Kd.R_tight rfl HO_218001.out); rintro e w126 ⟨rfl, hy0, hb, hkp⟩; refine ⟨_, rfl, ?_⟩; have n0_ := Aside0.mk (Kd.R_mono (ok' := fun k_ => some k_ ≠ (.slice Ao41 t225.length co41 : Value).ownBlock ∧ some k_ ≠ (.slice Ao49 t213.length co49 : Value).ownBlock) (Kd.R_keptB (HO_205001.out) hkp (fun k_ hk_ hs_ => (hk_.2) hs_)) (fun k_ hk_ => ⟨hk_.1.1, hk_.1.2⟩)); have n1_ := Aside0.mk (Kd.R_mono (ok' := fun k_ => some k_ ≠ (.slice Ao31 t200.length co31 : Value).ownBlock ∧ some k_ ≠ (.slice Ao49 t213.length co49 : Value).ownBlock) (Kd.R_keptB (HO_210001.out) hkp (fun k_ hk_ hs_ => (hk_.2) hs_)) (fun k_ hk_ => ⟨hk_.1.1, hk_.1.2⟩)); have n2_ := Aside0.mk (Kd.R_reok rfl hy0 (fun k_ e_ => HO_218001.out.1 k_ e_)); have n3_ := Aside0.mk (blk_kept BK190.out hkp (fun hs_ => (fun e_ => (Kd.R_ne HO_218001.out BK190.out (by decide)) e_) hs_)); have n4_ := Aside0.mk (blk_kept BK191.out hkp (fun hs_ => (fun e_ => (Kd.R_ne HO_218001.out BK191.out (by decide)) e_) hs_)); have n5_ := Aside0.mk (blk_kept BK204.out hkp (fun hs_ => (fun e_ => (Kd.R_ne HO_218001.out BK204.out (by decide)) e_) hs_)); have n6_ := Aside0.mk (blk_kept BK209.out hkp (fun hs_ => (fun e_ => (Kd.R_ne HO_218001.out BK209.out (by decide)) e_) hs_)); have n7_ := Aside0.mk (blk_kept BK217.out hkp (fun hs_ => (fun e_ => (Kd.R_ne HO_218001.out BK217.out (by decide)) e_) hs_)); have n8_ := Aside0.mk (hb); clear HO_205001; clear HO_210001; clear HO_218001; clear BK190; clear BK191; clear BK204; clear BK209; clear BK217; clear HB; have HO_205001 := n0_; have HO_210001 := n1_; have HO_218001 := n2_; have BK190 := n3_; have BK191 := n4_; have BK204 := n5_; have BK209 := n6_; have BK217 := n7_; have HB := n8_; clear n0_ n1_ n2_ n3_ n4_ n5_ n6_ n7_ n8_; (try clear hb); (try clear hkp); (try clear hy0); have hcz127_0 : w126.cell? ⟨gb217, 0, none⟩ = some (.string t212) := (blk_cell BK217.out 0).trans rfl; have hcz127_1 : w126.cell? ⟨gb217, 1, none⟩ = some (.slice Ao49 t213.length co49) := (blk_cell BK217.out 1).trans rfl; have hfz127_0 := blk_frozen BK217.out 0; have hfz127_1 := blk_frozen BK217.out 1) | ((with_reducible refine gate_callee (f := 14) rfl ?_); refine goesL_ (some 77) rfl rfl Try.func14 (by kernel_rfl) rfl #[.agg #[.string t212, .slice Ao49 t228.length co49], .int .i64 1] rfl (by (try simp only [List.map_toArray, List.map_cons, List.map_nil]); first | done | (rw [show t228.length = t213.length from (Kd.R_reads' HO_218001.out).1.symm] <;> rfl) | rfl | (simp only [List.length_drop, List.length_take]; rfl)) ?_; (with_reducible refine (laws_heldTuning.calls kj77 t212 _ _ t228 1 t229 _ ?side1 ?side2 A114.out).mono ?_); (case side1 => repeat (first | exact (Kd.R_reads' HO_218001.out).2.2 | (with_reducible refine Kd.C_alloc ?_ _) | (with_reducible refine Kd.C_drewN ?_ _) | (with_reducible refine Kd.C_drew ?_))); (case side2 => rw [show t228.length = t213.length from (Kd.R_reads' HO_218001.out).1.symm]; exact (Kd.R_reads' HO_218001.out).2.1); rintro e w128 ⟨rfl, hb⟩; refine ⟨_, rfl, ?_⟩; have n0_ := Aside0.mk (Kd.R_below (by (with_reducible repeat (first | apply rA | apply rN | apply rD)); exact HO_205001.out) hb); have n1_ := Aside0.mk (Kd.R_below (by (with_reducible repeat (first | apply rA | apply rN | apply rD)); exact HO_210001.out) hb); have n2_ := Aside0.mk (Kd.R_below (by (with_reducible repeat (first | apply rA | apply rN | apply rD)); exact HO_218001.out) hb); have n3_ := Aside0.mk (bB hb BK190.out); have n4_ := Aside0.mk (bB hb BK191.out); have n5_ := Aside0.mk (bB hb BK204.out); have n6_ := Aside0.mk (bB hb BK209.out); have n7_ := Aside0.mk (bB hb BK217.out); have n8_ := Aside0.mk (below_step (by repeat (first | (with_reducible first | exact HB.out | apply bA | apply bN | apply bD | refine bS GE190.out ?_ | refine bS GE191.out ?_ | refine bS GE204.out ?_ | refine bS GE209.out ?_ | refine bS GE217.out ?_) | exact HB.out)) hb); clear HO_205001; clear HO_210001; clear HO_218001; clear BK190; clear BK191; clear BK204; clear BK209; clear BK217; clear HB; have HO_205001 := n0_; have HO_210001 := n1_; have HO_218001 := n2_; have BK190 := n3_; have BK191 := n4_; have BK204 := n5_; have BK209 := n6_; have BK217 := n7_; have HB := n8_; clear n0_ n1_ n2_ n3_ n4_ n5_ n6_ n7_ n8_; (try clear hb); (try clear hb2); (try clear hk); (try clear hi)))
           have n0_ := Aside0.mk (Kd.R_drew HO_205001.out)
           have n1_ := Aside0.mk (Kd.R_drew HO_210001.out)
           have n2_ := Aside0.mk (Kd.R_drew HO_218001.out)
           have n3_ := Aside0.mk (blk_drew BK190.out)
           have n4_ := Aside0.mk (blk_drew BK191.out)
           have n5_ := Aside0.mk (blk_drew BK204.out)
           have n6_ := Aside0.mk (blk_drew BK209.out)
           have n7_ := Aside0.mk (blk_drew BK217.out)
           have n8_ := Aside0.mk (below_drew1 HB.out)
           clear HO_205001
           clear HO_210001
           clear HO_218001
           clear BK190
           clear BK191
           clear BK204
           clear BK209
           clear BK217
           clear HB
           have HO_205001 := n0_
           have HO_210001 := n1_
           have HO_218001 := n2_
           have BK190 := n3_
           have BK191 := n4_
           have BK204 := n5_
           have BK209 := n6_
           have BK217 := n7_
           have HB := n8_
           clear n0_ n1_ n2_ n3_ n4_ n5_ n6_ n7_ n8_
           refine start_ (n := 12) (S := fun w' => w'.cell? ⟨gb190, 0, none⟩ = some (.string a0_0) ∧ w'.cell? ⟨gb190, 1, none⟩ = some (.slice A0_1 l0_1.length c0_1) ∧ w'.cell? ⟨gb191, 0, none⟩ = some (.int .i64 a2_0) ∧ w'.cell? ⟨gb191, 1, none⟩ = some (.int .i64 a2_1)) (ds := []) bl6_0 (by kernel_rfl) rfl rfl ⟨(blk_cell BK190.out 0).trans rfl, (blk_cell BK190.out 1).trans rfl, (blk_cell BK191.out 0).trans rfl, (blk_cell BK191.out 1).trans rfl⟩ (fun hHeld => ?_); refine with_tabW laws_FnExactTuneTone.tab24 laws_FnExactTuneTone.bits24 (fun HT_ HW_ => ?_)
           generalize w128.drew = w129 at HO_205001 HO_210001 HO_218001 BK190 BK191 BK204 BK209 BK217 HB hHeld ⊢
           refine pure_ (i := 2) (N := some 86) (v := ?_) (a' := ?_) bl6_1 rfl rfl (any_of HT_.out (by kernel_rfl)) (fun _ _ _ h => h) (Or.inl ⟨by rfl, ?_⟩) ?_ ?_
           rotate_left
           ·
            intro w'
            go_simp
            with_reducible rfl
           rotate_left
           ·
            simp only [Act.put, sA, sZ, sS, i64_w, i32_w]
            rfl
           refine take_ (i := 0) (N := some 84) (v := ?_) (a' := ?_) bl6_2 rfl rfl (take_ofW HT_.out HW_.out (by kernel_rfl)) (fun _ _ _ h => h) (Or.inl ⟨by rfl, ?_⟩) hHeld ?_ ?_
           rotate_left
           ·
            rintro w' ⟨s0, s1, s2, s3⟩
            go_simp
            with_reducible rfl
           rotate_left
           ·
            simp only [Act.put, sA, sZ, sS, i64_w, i32_w]
            rfl
           refine take_ (i := 3) (N := some 87) (v := ?_) (a' := ?_) bl6_3 rfl rfl (take_ofW HT_.out HW_.out (by kernel_rfl)) (fun _ _ _ h => h) (Or.inl ⟨by rfl, ?_⟩) hHeld ?_ ?_
           rotate_left
           ·
            rintro w' ⟨s0, s1, s2, s3⟩
            go_simp
            with_reducible rfl
           rotate_left
           ·
            simp only [Act.put, sA, sZ, sS, i64_w, i32_w]
            rfl
           refine join_ (σ := Value × Value × Nat) 2 bl6_20 (fun s_ => [(85, .agg #[.string t230, s_.1]), (88, .agg #[.int .i64 t234, .int .i64 t235]), (89, .tuple #[.agg #[.string t236, s_.2.1], .int .i64 t240]), (16, .pointer (some ⟨s_.2.2, 0, none⟩)), (83, .tuple #[.agg #[.string t236, s_.2.1], .int .i64 t240]), (90, .agg #[.string t236, s_.2.1]), (91, .int .i64 t240)]) (fun s_ w' => (w'.cell? ⟨gb190, 0, none⟩ = some (.string a0_0) ∧ w'.cell? ⟨gb190, 1, none⟩ = some (.slice A0_1 l0_1.length c0_1) ∧ w'.cell? ⟨gb191, 0, none⟩ = some (.int .i64 a2_0) ∧ w'.cell? ⟨gb191, 1, none⟩ = some (.int .i64 a2_1)) ∧ (Kd.R k41 41 w' w.heap.size (fun k_ => some k_ ≠ (s_.2.1 : Value).ownBlock ∧ some k_ ≠ (.slice Ao31 t200.length co31 : Value).ownBlock ∧ some k_ ≠ (.slice Ao41 t225.length co41 : Value).ownBlock ∧ some k_ ≠ (.slice Ao49 t213.length co49 : Value).ownBlock) s_.1 t231) ∧ (Kd.R k41 41 w' w.heap.size (fun k_ => some k_ ≠ (s_.1 : Value).ownBlock ∧ some k_ ≠ (.slice Ao31 t200.length co31 : Value).ownBlock ∧ some k_ ≠ (.slice Ao41 t225.length co41 : Value).ownBlock ∧ some k_ ≠ (.slice Ao49 t213.length co49 : Value).ownBlock) s_.2.1 t237) ∧ (Kd.R k41 41 w' w.heap.size (fun k_ => some k_ ≠ (s_.1 : Value).ownBlock ∧ some k_ ≠ (s_.2.1 : Value).ownBlock ∧ some k_ ≠ (.slice Ao41 t225.length co41 : Value).ownBlock ∧ some k_ ≠ (.slice Ao49 t213.length co49 : Value).ownBlock) (.slice Ao31 t200.length co31) t200) ∧ (Kd.R k41 41 w' w.heap.size (fun k_ => some k_ ≠ (s_.1 : Value).ownBlock ∧ some k_ ≠ (s_.2.1 : Value).ownBlock ∧ some k_ ≠ (.slice Ao31 t200.length co31 : Value).ownBlock ∧ some k_ ≠ (.slice Ao49 t213.length co49 : Value).ownBlock) (.slice Ao41 t225.length co41) t225) ∧ (Kd.R k41 41 w' w.heap.size (fun k_ => some k_ ≠ (s_.1 : Value).ownBlock ∧ some k_ ≠ (s_.2.1 : Value).ownBlock ∧ some k_ ≠ (.slice Ao31 t200.length co31 : Value).ownBlock ∧ some k_ ≠ (.slice Ao41 t225.length co41 : Value).ownBlock) (.slice Ao49 t213.length co49) t228) ∧ (w'.heap[gb190]? = some (.cells #[.string a0_0, .slice A0_1 l0_1.length c0_1] 31 (0, 0))) ∧ (w'.heap[gb191]? = some (.cells #[.int .i64 a2_0, .int .i64 a2_1] 38 (0, 0))) ∧ (w'.heap[gb204]? = some (.cells #[.string t199, .slice Ao31 t200.length co31] 24 (0, 0))) ∧ (w'.heap[gb209]? = some (.cells #[.string t205, .slice Ao41 t225.length co41] 24 (0, 0))) ∧ (w'.heap[gb217]? = some (.cells #[.string t212, .slice Ao49 t213.length co49] 24 (0, 0))) ∧ (w'.heap[s_.2.2]? = some (.cells #[.string (⟨#[]⟩ : ByteArray), .slice none 0 0] 24 (0, 0))) ∧ (w.heap.size ≤ s_.2.2) ∧ (w.heap.size ≤ s_.2.2) ∧ (gb190 ≠ s_.2.2) ∧ (s_.2.2 ≠ gb190) ∧ (gb191 ≠ s_.2.2) ∧ (s_.2.2 ≠ gb191) ∧ (gb204 ≠ s_.2.2) ∧ (s_.2.2 ≠ gb204) ∧ (gb209 ≠ s_.2.2) ∧ (s_.2.2 ≠ gb209) ∧ (gb217 ≠ s_.2.2) ∧ (s_.2.2 ≠ gb217) ∧ (Below w.heap.size w w')) ?_ ?_
           rotate_left
           ·
            intro hCont
            refine two_ (i := 1) (j := 9) (Ni := some 85) (Nj := some 16) bl6_4 bl6_5 rfl rfl rfl rfl (two_of HT_.out (by kernel_rfl)) (by decide) (by decide) (fun K hK => ?_) (fun K hK => ?_)
            ·
             skip
             refine goes_ Try.func17 (by kernel_rfl) rfl #[.agg #[.string a0_0, .slice A0_1 l0_1.length c0_1]] (by rfl) rfl rfl (by (try simp only [List.map_toArray, List.map_cons, List.map_nil]); first | done | rfl | (simp only [List.length_drop, List.length_take]; rfl)) ?_
             with_reducible refine (laws_toTuning.calls kj77 a0_0 _ _ l0_1 t230 t231 _ ?side1 ?side2 A117.out).mono ?_
             (case side1 => repeat (first | exact (Kd.C_below HR0_1.out HB.out) | (with_reducible refine Kd.C_alloc ?_ _) | (with_reducible refine Kd.C_drewN ?_ _) | (with_reducible refine Kd.C_drew ?_)))
             (case side2 => exact HC0_1.out)
             rintro e w130 ⟨v232, rfl, ho0, hb⟩
             refine ⟨_, rfl, ?_⟩
             have n0_ := Aside0.mk (Kd.R_elder' (by (with_reducible repeat (first | apply rA | apply rN | apply rD)); exact HO_205001.out) (Kd.R_base ho0) hb)
             have n1_ := Aside0.mk (Kd.R_elder' (by (with_reducible repeat (first | apply rA | apply rN | apply rD)); exact HO_210001.out) (Kd.R_base ho0) hb)
             have n2_ := Aside0.mk (Kd.R_elder' (by (with_reducible repeat (first | apply rA | apply rN | apply rD)); exact HO_218001.out) (Kd.R_base ho0) hb)
             have n3_ := Aside0.mk (Kd.R_lower (Kd.R_new' (Kd.R_new' (Kd.R_new' ho0 (Kd.R_lt (by (with_reducible repeat (first | apply rA | apply rN | apply rD)); exact HO_205001.out))) (Kd.R_lt (by (with_reducible repeat (first | apply rA | apply rN | apply rD)); exact HO_210001.out))) (Kd.R_lt (by (with_reducible repeat (first | apply rA | apply rN | apply rD)); exact HO_218001.out))) (below_size (by repeat (first | (with_reducible first | exact HB.out | apply bA | apply bN | apply bD | refine bS GE190.out ?_ | refine bS GE191.out ?_ | refine bS GE204.out ?_ | refine bS GE209.out ?_ | refine bS GE217.out ?_) | exact HB.out))))
             have n4_ := Aside0.mk (bB hb BK190.out)
             have n5_ := Aside0.mk (bB hb BK191.out)
             have n6_ := Aside0.mk (bB hb BK204.out)
             have n7_ := Aside0.mk (bB hb BK209.out)
             have n8_ := Aside0.mk (bB hb BK217.out)
             have n9_ := Aside0.mk (below_step (by repeat (first | (with_reducible first | exact HB.out | apply bA | apply bN | apply bD | refine bS GE190.out ?_ | refine bS GE191.out ?_ | refine bS GE204.out ?_ | refine bS GE209.out ?_ | refine bS GE217.out ?_) | exact HB.out)) hb)
             clear HO_205001
             clear HO_210001
             clear HO_218001
             clear BK190
             clear BK191
             clear BK204
             clear BK209
             clear BK217
             clear HB
             have HO_205001 := n0_
             have HO_210001 := n1_
             have HO_218001 := n2_
             have HO233 := n3_
             have BK190 := n4_
             have BK191 := n5_
             have BK204 := n6_
             have BK209 := n7_
             have BK217 := n8_
             have HB := n9_
             clear n0_ n1_ n2_ n3_ n4_ n5_ n6_ n7_ n8_ n9_
             (try clear hb)
             (try clear hb2)
             (try clear hk)
             (try clear hi)
             (try clear ho0)
             refine hK.out _ _ ⟨(blk_cell BK190.out 0).trans rfl, (blk_cell BK190.out 1).trans rfl, (blk_cell BK191.out 0).trans rfl, (blk_cell BK191.out 1).trans rfl⟩ (fun hHeld => ?_)
             clear hK K
             refine norm_ (a' := ?_) ?_ ?_
             rotate_left
             ·
              show Act.put _ (some 85) _ = _
              simp only [Act.put, sA, sZ, sS, i64_w, i32_w]
              rfl
             refine two_ (i := 4) (j := 9) (Ni := some 88) (Nj := some 16) bl6_6 bl6_7 rfl rfl rfl rfl (two_of HT_.out (by kernel_rfl)) (by decide) (by decide) (fun K hK => ?_) (fun K hK => ?_)
             ·
              skip
              refine goes_ Try.func22 (by kernel_rfl) rfl #[.agg #[.int .i64 a2_0, .int .i64 a2_1]] (by rfl) rfl rfl (by (try simp only [List.map_toArray, List.map_cons, List.map_nil]); first | done | rfl | (simp only [List.length_drop, List.length_take]; rfl)) ?_
              with_reducible refine (laws_toRatio.calls a2_0 a2_1 t234 t235 _ A118.out).mono ?_
              rintro e w131 ⟨rfl, hb⟩
              refine ⟨_, rfl, ?_⟩
              have n0_ := Aside0.mk (Kd.R_below (by (with_reducible repeat (first | apply rA | apply rN | apply rD)); exact HO_205001.out) hb)
              have n1_ := Aside0.mk (Kd.R_below (by (with_reducible repeat (first | apply rA | apply rN | apply rD)); exact HO_210001.out) hb)
              have n2_ := Aside0.mk (Kd.R_below (by (with_reducible repeat (first | apply rA | apply rN | apply rD)); exact HO_218001.out) hb)
              have n3_ := Aside0.mk (Kd.R_below (by (with_reducible repeat (first | apply rA | apply rN | apply rD)); exact HO233.out) hb)
              have n4_ := Aside0.mk (bB hb BK190.out)
              have n5_ := Aside0.mk (bB hb BK191.out)
              have n6_ := Aside0.mk (bB hb BK204.out)
              have n7_ := Aside0.mk (bB hb BK209.out)
              have n8_ := Aside0.mk (bB hb BK217.out)
              have n9_ := Aside0.mk (below_step (by repeat (first | (with_reducible first | exact HB.out | apply bA | apply bN | apply bD | refine bS GE190.out ?_ | refine bS GE191.out ?_ | refine bS GE204.out ?_ | refine bS GE209.out ?_ | refine bS GE217.out ?_) | exact HB.out)) hb)
              clear HO_205001
              clear HO_210001
              clear HO_218001
              clear HO233
              clear BK190
              clear BK191
              clear BK204
              clear BK209
              clear BK217
              clear HB
              have HO_205001 := n0_
              have HO_210001 := n1_
              have HO_218001 := n2_
              have HO233 := n3_
              have BK190 := n4_
              have BK191 := n5_
              have BK204 := n6_
              have BK209 := n7_
              have BK217 := n8_
              have HB := n9_
              clear n0_ n1_ n2_ n3_ n4_ n5_ n6_ n7_ n8_ n9_
              (try clear hb)
              (try clear hb2)
              (try clear hk)
              (try clear hi)
              obtain ⟨Ao132, co132, eo132⟩ := Kd.R_slice HO233.out
              (first | subst eo132 | (injection eo132 with f1_ f2_ f3_; have f4_ := f1_.symm; have f5_ := f3_.symm; clear f1_ f2_ f3_; subst f4_; subst f5_))
              refine hK.out _ _ ⟨(blk_cell BK190.out 0).trans rfl, (blk_cell BK190.out 1).trans rfl, (blk_cell BK191.out 0).trans rfl, (blk_cell BK191.out 1).trans rfl⟩ (fun hHeld => ?_)
              clear hK K
              refine norm_ (a' := ?_) ?_ ?_
              rotate_left
              ·
               show Act.put _ (some 88) _ = _
               simp only [Act.put, sA, sZ, sS, i64_w, i32_w]
               rfl
              refine two_ (i := 5) (j := 9) (Ni := some 89) (Nj := some 16) bl6_8 bl6_9 rfl rfl rfl rfl (two_of HT_.out (by kernel_rfl)) (by decide) (by decide) (fun K hK => ?_) (fun K hK => ?_)
              ·
               skip
               refine goes_ Try.func23 (by kernel_rfl) rfl #[.agg #[.string t230, .slice Ao132 t231.length co132], .int .i64 a1, .agg #[.int .i64 t234, .int .i64 t235]] (by rfl) rfl rfl (by (try simp only [List.map_toArray, List.map_cons, List.map_nil]); first | done | rfl | (simp only [List.length_drop, List.length_take]; rfl)) ?_
               with_reducible refine (impl_TuneTone.calls kj77 t230 _ _ t231 a1 t234 t235 t236 t237 t240 _ ?side1 ?side2 A119.out).mono ?_
               (case side1 => repeat (first | exact (Kd.R_reads' HO233.out).2.2 | (with_reducible refine Kd.C_alloc ?_ _) | (with_reducible refine Kd.C_drewN ?_ _) | (with_reducible refine Kd.C_drew ?_)))
               (case side2 => exact (Kd.R_reads' HO233.out).2.1)
               rintro e w133 ⟨v238, rfl, ho0, hb⟩
               refine ⟨_, rfl, ?_⟩
               have n0_ := Aside0.mk (Kd.R_elder' (by (with_reducible repeat (first | apply rA | apply rN | apply rD)); exact HO_205001.out) (Kd.R_base ho0) hb)
               have n1_ := Aside0.mk (Kd.R_elder' (by (with_reducible repeat (first | apply rA | apply rN | apply rD)); exact HO_210001.out) (Kd.R_base ho0) hb)
               have n2_ := Aside0.mk (Kd.R_elder' (by (with_reducible repeat (first | apply rA | apply rN | apply rD)); exact HO_218001.out) (Kd.R_base ho0) hb)
               have n3_ := Aside0.mk (Kd.R_elder' (by (with_reducible repeat (first | apply rA | apply rN | apply rD)); exact HO233.out) (Kd.R_base ho0) hb)
               have n4_ := Aside0.mk (Kd.R_lower (Kd.R_new' (Kd.R_new' (Kd.R_new' (Kd.R_new' ho0 (Kd.R_lt (by (with_reducible repeat (first | apply rA | apply rN | apply rD)); exact HO_205001.out))) (Kd.R_lt (by (with_reducible repeat (first | apply rA | apply rN | apply rD)); exact HO_210001.out))) (Kd.R_lt (by (with_reducible repeat (first | apply rA | apply rN | apply rD)); exact HO_218001.out))) (Kd.R_lt (by (with_reducible repeat (first | apply rA | apply rN | apply rD)); exact HO233.out))) (below_size (by repeat (first | (with_reducible first | exact HB.out | apply bA | apply bN | apply bD | refine bS GE190.out ?_ | refine bS GE191.out ?_ | refine bS GE204.out ?_ | refine bS GE209.out ?_ | refine bS GE217.out ?_) | exact HB.out))))
               have n5_ := Aside0.mk (bB hb BK190.out)
               have n6_ := Aside0.mk (bB hb BK191.out)
               have n7_ := Aside0.mk (bB hb BK204.out)
               have n8_ := Aside0.mk (bB hb BK209.out)
               have n9_ := Aside0.mk (bB hb BK217.out)
               have n10_ := Aside0.mk (below_step (by repeat (first | (with_reducible first | exact HB.out | apply bA | apply bN | apply bD | refine bS GE190.out ?_ | refine bS GE191.out ?_ | refine bS GE204.out ?_ | refine bS GE209.out ?_ | refine bS GE217.out ?_) | exact HB.out)) hb)
               clear HO_205001
               clear HO_210001
               clear HO_218001
               clear HO233
               clear BK190
               clear BK191
               clear BK204
               clear BK209
               clear BK217
               clear HB
               have HO_205001 := n0_
               have HO_210001 := n1_
               have HO_218001 := n2_
               have HO233 := n3_
               have HO239 := n4_
               have BK190 := n5_
               have BK191 := n6_
               have BK204 := n7_
               have BK209 := n8_
               have BK217 := n9_
               have HB := n10_
               clear n0_ n1_ n2_ n3_ n4_ n5_ n6_ n7_ n8_ n9_ n10_
               (try clear hb)
               (try clear hb2)
               (try clear hk)
               (try clear hi)
               (try clear ho0)
               refine hK.out _ _ ⟨(blk_cell BK190.out 0).trans rfl, (blk_cell BK190.out 1).trans rfl, (blk_cell BK191.out 0).trans rfl, (blk_cell BK191.out 1).trans rfl⟩ (fun hHeld => ?_)
               clear hK K
               refine norm_ (a' := ?_) ?_ ?_
               rotate_left
               ·
                show Act.put _ (some 89) _ = _
                simp only [Act.put, sA, sZ, sS, i64_w, i32_w]
                rfl
               refine pure_ (i := 6) (N := some 83) (v := ?_) (a' := ?_) bl6_11 rfl rfl (any_of HT_.out (by kernel_rfl)) (fun _ _ _ h => h) (Or.inl ⟨by rfl, ?_⟩) ?_ ?_
               rotate_left
               ·
                intro w'
                go_simp
                with_reducible rfl
               rotate_left
               ·
                simp only [Act.put, sA, sZ, sS, i64_w, i32_w]
                rfl
               refine pure_ (i := 7) (N := some 90) (v := ?_) (a' := ?_) bl6_14 rfl rfl (any_of HT_.out (by kernel_rfl)) (fun _ _ _ h => h) (Or.inl ⟨by rfl, ?_⟩) ?_ ?_
               rotate_left
               ·
                intro w'
                go_simp
                with_reducible rfl
               rotate_left
               ·
                simp only [Act.put, sA, sZ, sS, i64_w, i32_w]
                rfl
               refine pure_ (i := 8) (N := some 91) (v := ?_) (a' := ?_) bl6_18 rfl rfl (any_of HT_.out (by kernel_rfl)) (fun _ _ _ h => h) (Or.inl ⟨by rfl, ?_⟩) ?_ ?_
               rotate_left
               ·
                intro w'
                go_simp
                with_reducible rfl
               rotate_left
               ·
                simp only [Act.put, sA, sZ, sS, i64_w, i32_w]
                rfl
               refine one_ (i := 9) (N := some 16) bl6_20 rfl rfl (one_of HT_.out (by kernel_rfl)) (by decide) (fun K hK => ?_)
               refine box_step ?hg (N := 16) ?hd (cs := #[.string (⟨#[]⟩ : ByteArray), .slice none 0 0]) (t := 24) ?hr ?_; (case hd => rfl); (case hg => rfl); (case hr => first | (go_simp; done) | (go_simp; rfl))
               intro gb241 hg w134 hbox hb
               have n0_ := Aside0.mk (Kd.R_below (by (with_reducible repeat (first | apply rA | apply rN | apply rD)); exact HO_205001.out) hb)
               have n1_ := Aside0.mk (Kd.R_below (by (with_reducible repeat (first | apply rA | apply rN | apply rD)); exact HO_210001.out) hb)
               have n2_ := Aside0.mk (Kd.R_below (by (with_reducible repeat (first | apply rA | apply rN | apply rD)); exact HO_218001.out) hb)
               have n3_ := Aside0.mk (Kd.R_below (by (with_reducible repeat (first | apply rA | apply rN | apply rD)); exact HO233.out) hb)
               have n4_ := Aside0.mk (Kd.R_below (by (with_reducible repeat (first | apply rA | apply rN | apply rD)); exact HO239.out) hb)
               have n5_ := Aside0.mk (bB hb BK190.out)
               have n6_ := Aside0.mk (bB hb BK191.out)
               have n7_ := Aside0.mk (bB hb BK204.out)
               have n8_ := Aside0.mk (bB hb BK209.out)
               have n9_ := Aside0.mk (bB hb BK217.out)
               have n10_ := Aside0.mk (below_step (by repeat (first | (with_reducible first | exact HB.out | apply bA | apply bN | apply bD | refine bS GE190.out ?_ | refine bS GE191.out ?_ | refine bS GE204.out ?_ | refine bS GE209.out ?_ | refine bS GE217.out ?_) | exact HB.out)) hb)
               have n11_ := Aside0.mk (hbox)
               have n12_ := Aside0.mk ((by rw [hg]; exact (below_size (by repeat (first | (with_reducible first | exact HB.out | apply bA | apply bN | apply bD | refine bS GE190.out ?_ | refine bS GE191.out ?_ | refine bS GE204.out ?_ | refine bS GE209.out ?_ | refine bS GE217.out ?_) | exact HB.out))) : w.heap.size ≤ gb241))
               have n13_ := Aside0.mk ((by rw [hg]; exact (below_size (by repeat (first | (with_reducible first | exact HB.out | apply bA | apply bN | apply bD | refine bS GE190.out ?_ | refine bS GE191.out ?_ | refine bS GE204.out ?_ | refine bS GE209.out ?_ | refine bS GE217.out ?_) | exact HB.out))) : w.heap.size ≤ gb241))
               have n14_ := Aside0.mk ((by rw [hg]; exact Nat.ne_of_lt (blk_lt BK190.out) : gb190 ≠ gb241))
               have n15_ := Aside0.mk ((by rw [hg]; exact Nat.ne_of_gt (blk_lt BK190.out) : gb241 ≠ gb190))
               have n16_ := Aside0.mk ((by rw [hg]; exact Nat.ne_of_lt (blk_lt BK191.out) : gb191 ≠ gb241))
               have n17_ := Aside0.mk ((by rw [hg]; exact Nat.ne_of_gt (blk_lt BK191.out) : gb241 ≠ gb191))
               have n18_ := Aside0.mk ((by rw [hg]; exact Nat.ne_of_lt (blk_lt BK204.out) : gb204 ≠ gb241))
               have n19_ := Aside0.mk ((by rw [hg]; exact Nat.ne_of_gt (blk_lt BK204.out) : gb241 ≠ gb204))
               have n20_ := Aside0.mk ((by rw [hg]; exact Nat.ne_of_lt (blk_lt BK209.out) : gb209 ≠ gb241))
               have n21_ := Aside0.mk ((by rw [hg]; exact Nat.ne_of_gt (blk_lt BK209.out) : gb241 ≠ gb209))
               have n22_ := Aside0.mk ((by rw [hg]; exact Nat.ne_of_lt (blk_lt BK217.out) : gb217 ≠ gb241))
               have n23_ := Aside0.mk ((by rw [hg]; exact Nat.ne_of_gt (blk_lt BK217.out) : gb241 ≠ gb217))
               clear HO_205001
               clear HO_210001
               clear HO_218001
               clear HO233
               clear HO239
               clear BK190
               clear BK191
               clear BK204
               clear BK209
               clear BK217
               clear HB
               have HO_205001 := n0_
               have HO_210001 := n1_
               have HO_218001 := n2_
               have HO233 := n3_
               have HO239 := n4_
               have BK190 := n5_
               have BK191 := n6_
               have BK204 := n7_
               have BK209 := n8_
               have BK217 := n9_
               have HB := n10_
               have BK241 := n11_
               have GW241 := n12_
               have GE241 := n13_
               have NB190_241 := n14_
               have NB241_190 := n15_
               have NB191_241 := n16_
               have NB241_191 := n17_
               have NB204_241 := n18_
               have NB241_204 := n19_
               have NB209_241 := n20_
               have NB241_209 := n21_
               have NB217_241 := n22_
               have NB241_217 := n23_
               clear n0_ n1_ n2_ n3_ n4_ n5_ n6_ n7_ n8_ n9_ n10_ n11_ n12_ n13_ n14_ n15_ n16_ n17_ n18_ n19_ n20_ n21_ n22_ n23_
               clear hb hbox hg
               refine hK.out _ _ ⟨(blk_cell BK190.out 0).trans rfl, (blk_cell BK190.out 1).trans rfl, (blk_cell BK191.out 0).trans rfl, (blk_cell BK191.out 1).trans rfl⟩ (fun hHeld => ?_)
               clear hK K
               refine norm_ (a' := ?_) ?_ ?_
               rotate_left
               ·
                show Act.put _ (some 16) _ = _
                simp only [Act.put, sA, sZ, sS, i64_w, i32_w]
                rfl
               exact norm_ (by simp only [putAll, Act.put, List.setIfInBounds_toArray, List.set_cons_zero, List.set_cons_succ]) (hCont (.slice Ao132 t231.length co132, v238, gb241) _ ⟨hHeld, (by (with_reducible repeat (first | apply rA | apply rN | apply rD)); exact Kd.R_mono HO233.out (fun _ hk => ⟨hk.2, ⟨hk.1.1.1.2, ⟨hk.1.1.2, hk.1.2⟩⟩⟩)), (by (with_reducible repeat (first | apply rA | apply rN | apply rD)); exact Kd.R_mono HO239.out (fun _ hk => ⟨hk.2, ⟨hk.1.1.1.2, ⟨hk.1.1.2, hk.1.2⟩⟩⟩)), (by (with_reducible repeat (first | apply rA | apply rN | apply rD)); exact Kd.R_mono HO_205001.out (fun _ hk => ⟨hk.1.2, ⟨hk.2, ⟨hk.1.1.1, hk.1.1.2⟩⟩⟩)), (by (with_reducible repeat (first | apply rA | apply rN | apply rD)); exact Kd.R_mono HO_210001.out (fun _ hk => ⟨hk.1.2, ⟨hk.2, ⟨hk.1.1.1, hk.1.1.2⟩⟩⟩)), (by (with_reducible repeat (first | apply rA | apply rN | apply rD)); exact Kd.R_mono HO_218001.out (fun _ hk => ⟨hk.1.2, ⟨hk.2, ⟨hk.1.1.1, hk.1.1.2⟩⟩⟩)), BK190.out, BK191.out, BK204.out, BK209.out, BK217.out, BK241.out, GW241.out, GE241.out, NB190_241.out, NB241_190.out, NB191_241.out, NB241_191.out, NB204_241.out, NB241_204.out, NB209_241.out, NB241_209.out, NB217_241.out, NB241_217.out, (by repeat (first | (with_reducible first | exact HB.out | apply bA | apply bN | apply bD | refine bS GE190.out ?_ | refine bS GE191.out ?_ | refine bS GE204.out ?_ | refine bS GE209.out ?_ | refine bS GE217.out ?_ | refine bS GE241.out ?_) | exact HB.out))⟩)
              ·
               skip
               refine box_step ?hg (N := 16) ?hd (cs := #[.string (⟨#[]⟩ : ByteArray), .slice none 0 0]) (t := 24) ?hr ?_; (case hd => rfl); (case hg => rfl); (case hr => first | (go_simp; done) | (go_simp; rfl))
               intro gb241 hg w132 hbox hb
               have n0_ := Aside0.mk (Kd.R_below (by (with_reducible repeat (first | apply rA | apply rN | apply rD)); exact HO_205001.out) hb)
               have n1_ := Aside0.mk (Kd.R_below (by (with_reducible repeat (first | apply rA | apply rN | apply rD)); exact HO_210001.out) hb)
               have n2_ := Aside0.mk (Kd.R_below (by (with_reducible repeat (first | apply rA | apply rN | apply rD)); exact HO_218001.out) hb)
               have n3_ := Aside0.mk (Kd.R_below (by (with_reducible repeat (first | apply rA | apply rN | apply rD)); exact HO233.out) hb)
               have n4_ := Aside0.mk (bB hb BK190.out)
               have n5_ := Aside0.mk (bB hb BK191.out)
               have n6_ := Aside0.mk (bB hb BK204.out)
               have n7_ := Aside0.mk (bB hb BK209.out)
               have n8_ := Aside0.mk (bB hb BK217.out)
               have n9_ := Aside0.mk (below_step (by repeat (first | (with_reducible first | exact HB.out | apply bA | apply bN | apply bD | refine bS GE190.out ?_ | refine bS GE191.out ?_ | refine bS GE204.out ?_ | refine bS GE209.out ?_ | refine bS GE217.out ?_) | exact HB.out)) hb)
               have n10_ := Aside0.mk (hbox)
               have n11_ := Aside0.mk ((by rw [hg]; exact (below_size (by repeat (first | (with_reducible first | exact HB.out | apply bA | apply bN | apply bD | refine bS GE190.out ?_ | refine bS GE191.out ?_ | refine bS GE204.out ?_ | refine bS GE209.out ?_ | refine bS GE217.out ?_) | exact HB.out))) : w.heap.size ≤ gb241))
               have n12_ := Aside0.mk ((by rw [hg]; exact (below_size (by repeat (first | (with_reducible first | exact HB.out | apply bA | apply bN | apply bD | refine bS GE190.out ?_ | refine bS GE191.out ?_ | refine bS GE204.out ?_ | refine bS GE209.out ?_ | refine bS GE217.out ?_) | exact HB.out))) : w.heap.size ≤ gb241))
               have n13_ := Aside0.mk ((by rw [hg]; exact Nat.ne_of_lt (blk_lt BK190.out) : gb190 ≠ gb241))
               have n14_ := Aside0.mk ((by rw [hg]; exact Nat.ne_of_gt (blk_lt BK190.out) : gb241 ≠ gb190))
               have n15_ := Aside0.mk ((by rw [hg]; exact Nat.ne_of_lt (blk_lt BK191.out) : gb191 ≠ gb241))
               have n16_ := Aside0.mk ((by rw [hg]; exact Nat.ne_of_gt (blk_lt BK191.out) : gb241 ≠ gb191))
               have n17_ := Aside0.mk ((by rw [hg]; exact Nat.ne_of_lt (blk_lt BK204.out) : gb204 ≠ gb241))
               have n18_ := Aside0.mk ((by rw [hg]; exact Nat.ne_of_gt (blk_lt BK204.out) : gb241 ≠ gb204))
               have n19_ := Aside0.mk ((by rw [hg]; exact Nat.ne_of_lt (blk_lt BK209.out) : gb209 ≠ gb241))
               have n20_ := Aside0.mk ((by rw [hg]; exact Nat.ne_of_gt (blk_lt BK209.out) : gb241 ≠ gb209))
               have n21_ := Aside0.mk ((by rw [hg]; exact Nat.ne_of_lt (blk_lt BK217.out) : gb217 ≠ gb241))
               have n22_ := Aside0.mk ((by rw [hg]; exact Nat.ne_of_gt (blk_lt BK217.out) : gb241 ≠ gb217))
               clear HO_205001
               clear HO_210001
               clear HO_218001
               clear HO233
               clear BK190
               clear BK191
               clear BK204
               clear BK209
               clear BK217
               clear HB
               have HO_205001 := n0_
               have HO_210001 := n1_
               have HO_218001 := n2_
               have HO233 := n3_
               have BK190 := n4_
               have BK191 := n5_
               have BK204 := n6_
               have BK209 := n7_
               have BK217 := n8_
               have HB := n9_
               have BK241 := n10_
               have GW241 := n11_
               have GE241 := n12_
               have NB190_241 := n13_
               have NB241_190 := n14_
               have NB191_241 := n15_
               have NB241_191 := n16_
               have NB204_241 := n17_
               have NB241_204 := n18_
               have NB209_241 := n19_
               have NB241_209 := n20_
               have NB217_241 := n21_
               have NB241_217 := n22_
               clear n0_ n1_ n2_ n3_ n4_ n5_ n6_ n7_ n8_ n9_ n10_ n11_ n12_ n13_ n14_ n15_ n16_ n17_ n18_ n19_ n20_ n21_ n22_
               clear hb hbox hg
               obtain ⟨Ao133, co133, eo133⟩ := Kd.R_slice HO233.out
               (first | subst eo133 | (injection eo133 with f1_ f2_ f3_; have f4_ := f1_.symm; have f5_ := f3_.symm; clear f1_ f2_ f3_; subst f4_; subst f5_))
               refine hK.out _ _ ⟨(blk_cell BK190.out 0).trans rfl, (blk_cell BK190.out 1).trans rfl, (blk_cell BK191.out 0).trans rfl, (blk_cell BK191.out 1).trans rfl⟩ (fun hHeld => ?_)
               clear hK K
               refine norm_ (a' := ?_) ?_ ?_
               rotate_left
               ·
                show Act.put _ (some 16) _ = _
                simp only [Act.put, sA, sZ, sS, i64_w, i32_w]
                rfl
               refine one_ (i := 5) (N := some 89) bl6_10 rfl rfl (one_of HT_.out (by kernel_rfl)) (by decide) (fun K hK => ?_)
               refine goes_ Try.func23 (by kernel_rfl) rfl #[.agg #[.string t230, .slice Ao133 t231.length co133], .int .i64 a1, .agg #[.int .i64 t234, .int .i64 t235]] (by rfl) rfl rfl (by (try simp only [List.map_toArray, List.map_cons, List.map_nil]); first | done | rfl | (simp only [List.length_drop, List.length_take]; rfl)) ?_
               with_reducible refine (impl_TuneTone.calls kj77 t230 _ _ t231 a1 t234 t235 t236 t237 t240 _ ?side1 ?side2 A119.out).mono ?_
               (case side1 => repeat (first | exact (Kd.R_reads' HO233.out).2.2 | (with_reducible refine Kd.C_alloc ?_ _) | (with_reducible refine Kd.C_drewN ?_ _) | (with_reducible refine Kd.C_drew ?_)))
               (case side2 => exact (Kd.R_reads' HO233.out).2.1)
               rintro e w134 ⟨v238, rfl, ho0, hb⟩
               refine ⟨_, rfl, ?_⟩
               have n0_ := Aside0.mk (Kd.R_elder' (by (with_reducible repeat (first | apply rA | apply rN | apply rD)); exact HO_205001.out) (Kd.R_base ho0) hb)
               have n1_ := Aside0.mk (Kd.R_elder' (by (with_reducible repeat (first | apply rA | apply rN | apply rD)); exact HO_210001.out) (Kd.R_base ho0) hb)
               have n2_ := Aside0.mk (Kd.R_elder' (by (with_reducible repeat (first | apply rA | apply rN | apply rD)); exact HO_218001.out) (Kd.R_base ho0) hb)
               have n3_ := Aside0.mk (Kd.R_elder' (by (with_reducible repeat (first | apply rA | apply rN | apply rD)); exact HO233.out) (Kd.R_base ho0) hb)
               have n4_ := Aside0.mk (Kd.R_lower (Kd.R_new' (Kd.R_new' (Kd.R_new' (Kd.R_new' ho0 (Kd.R_lt (by (with_reducible repeat (first | apply rA | apply rN | apply rD)); exact HO_205001.out))) (Kd.R_lt (by (with_reducible repeat (first | apply rA | apply rN | apply rD)); exact HO_210001.out))) (Kd.R_lt (by (with_reducible repeat (first | apply rA | apply rN | apply rD)); exact HO_218001.out))) (Kd.R_lt (by (with_reducible repeat (first | apply rA | apply rN | apply rD)); exact HO233.out))) (below_size (by repeat (first | (with_reducible first | exact HB.out | apply bA | apply bN | apply bD | refine bS GE190.out ?_ | refine bS GE191.out ?_ | refine bS GE204.out ?_ | refine bS GE209.out ?_ | refine bS GE217.out ?_ | refine bS GE241.out ?_) | exact HB.out))))
               have n5_ := Aside0.mk (bB hb BK190.out)
               have n6_ := Aside0.mk (bB hb BK191.out)
               have n7_ := Aside0.mk (bB hb BK204.out)
               have n8_ := Aside0.mk (bB hb BK209.out)
               have n9_ := Aside0.mk (bB hb BK217.out)
               have n10_ := Aside0.mk (blk_below (g := gb241) (o := .cells #[.string (⟨#[]⟩ : ByteArray), .slice none 0 0] 24 (0, 0)) BK241.out hb)
               have n11_ := Aside0.mk (below_step (by repeat (first | (with_reducible first | exact HB.out | apply bA | apply bN | apply bD | refine bS GE190.out ?_ | refine bS GE191.out ?_ | refine bS GE204.out ?_ | refine bS GE209.out ?_ | refine bS GE217.out ?_ | refine bS GE241.out ?_) | exact HB.out)) hb)
               clear HO_205001
               clear HO_210001
               clear HO_218001
               clear HO233
               clear BK190
               clear BK191
               clear BK204
               clear BK209
               clear BK217
               clear BK241
               clear HB
               have HO_205001 := n0_
               have HO_210001 := n1_
               have HO_218001 := n2_
               have HO233 := n3_
               have HO239 := n4_
               have BK190 := n5_
               have BK191 := n6_
               have BK204 := n7_
               have BK209 := n8_
               have BK217 := n9_
               have BK241 := n10_
               have HB := n11_
               clear n0_ n1_ n2_ n3_ n4_ n5_ n6_ n7_ n8_ n9_ n10_ n11_
               (try clear hb)
               (try clear hb2)
               (try clear hk)
               (try clear hi)
               (try clear ho0)
               refine hK.out _ _ ⟨(blk_cell BK190.out 0).trans rfl, (blk_cell BK190.out 1).trans rfl, (blk_cell BK191.out 0).trans rfl, (blk_cell BK191.out 1).trans rfl⟩ (fun hHeld => ?_)
               clear hK K
               refine norm_ (a' := ?_) ?_ ?_
               rotate_left
               ·
                show Act.put _ (some 89) _ = _
                simp only [Act.put, sA, sZ, sS, i64_w, i32_w]
                rfl
               refine pure_ (i := 6) (N := some 83) (v := ?_) (a' := ?_) bl6_13 rfl rfl (any_of HT_.out (by kernel_rfl)) (fun _ _ _ h => h) (Or.inl ⟨by rfl, ?_⟩) ?_ ?_
               rotate_left
               ·
                intro w'
                go_simp
                with_reducible rfl
               rotate_left
               ·
                simp only [Act.put, sA, sZ, sS, i64_w, i32_w]
                rfl
               refine pure_ (i := 7) (N := some 90) (v := ?_) (a' := ?_) bl6_17 rfl rfl (any_of HT_.out (by kernel_rfl)) (fun _ _ _ h => h) (Or.inl ⟨by rfl, ?_⟩) ?_ ?_
               rotate_left
               ·
                intro w'
                go_simp
                with_reducible rfl
               rotate_left
               ·
                simp only [Act.put, sA, sZ, sS, i64_w, i32_w]
                rfl
               refine pure_ (i := 8) (N := some 91) (v := ?_) (a' := ?_) bl6_20 rfl rfl (any_of HT_.out (by kernel_rfl)) (fun _ _ _ h => h) (Or.inl ⟨by rfl, ?_⟩) ?_ ?_
               rotate_left
               ·
                intro w'
                go_simp
                with_reducible rfl
               rotate_left
               ·
                simp only [Act.put, sA, sZ, sS, i64_w, i32_w]
                rfl
               exact norm_ (by simp only [putAll, Act.put, List.setIfInBounds_toArray, List.set_cons_zero, List.set_cons_succ]) (hCont (.slice Ao133 t231.length co133, v238, gb241) _ ⟨hHeld, (by (with_reducible repeat (first | apply rA | apply rN | apply rD)); exact Kd.R_mono HO233.out (fun _ hk => ⟨hk.2, ⟨hk.1.1.1.2, ⟨hk.1.1.2, hk.1.2⟩⟩⟩)), (by (with_reducible repeat (first | apply rA | apply rN | apply rD)); exact Kd.R_mono HO239.out (fun _ hk => ⟨hk.2, ⟨hk.1.1.1.2, ⟨hk.1.1.2, hk.1.2⟩⟩⟩)), (by (with_reducible repeat (first | apply rA | apply rN | apply rD)); exact Kd.R_mono HO_205001.out (fun _ hk => ⟨hk.1.2, ⟨hk.2, ⟨hk.1.1.1, hk.1.1.2⟩⟩⟩)), (by (with_reducible repeat (first | apply rA | apply rN | apply rD)); exact Kd.R_mono HO_210001.out (fun _ hk => ⟨hk.1.2, ⟨hk.2, ⟨hk.1.1.1, hk.1.1.2⟩⟩⟩)), (by (with_reducible repeat (first | apply rA | apply rN | apply rD)); exact Kd.R_mono HO_218001.out (fun _ hk => ⟨hk.1.2, ⟨hk.2, ⟨hk.1.1.1, hk.1.1.2⟩⟩⟩)), BK190.out, BK191.out, BK204.out, BK209.out, BK217.out, BK241.out, GW241.out, GE241.out, NB190_241.out, NB241_190.out, NB191_241.out, NB241_191.out, NB204_241.out, NB241_204.out, NB209_241.out, NB241_209.out, NB217_241.out, NB241_217.out, (by repeat (first | (with_reducible first | exact HB.out | apply bA | apply bN | apply bD | refine bS GE190.out ?_ | refine bS GE191.out ?_ | refine bS GE204.out ?_ | refine bS GE209.out ?_ | refine bS GE217.out ?_ | refine bS GE241.out ?_) | exact HB.out))⟩)
             ·
              skip
              refine box_step ?hg (N := 16) ?hd (cs := #[.string (⟨#[]⟩ : ByteArray), .slice none 0 0]) (t := 24) ?hr ?_; (case hd => rfl); (case hg => rfl); (case hr => first | (go_simp; done) | (go_simp; rfl))
              intro gb241 hg w131 hbox hb
              have n0_ := Aside0.mk (Kd.R_below (by (with_reducible repeat (first | apply rA | apply rN | apply rD)); exact HO_205001.out) hb)
              have n1_ := Aside0.mk (Kd.R_below (by (with_reducible repeat (first | apply rA | apply rN | apply rD)); exact HO_210001.out) hb)
              have n2_ := Aside0.mk (Kd.R_below (by (with_reducible repeat (first | apply rA | apply rN | apply rD)); exact HO_218001.out) hb)
              have n3_ := Aside0.mk (Kd.R_below (by (with_reducible repeat (first | apply rA | apply rN | apply rD)); exact HO233.out) hb)
              have n4_ := Aside0.mk (bB hb BK190.out)
              have n5_ := Aside0.mk (bB hb BK191.out)
              have n6_ := Aside0.mk (bB hb BK204.out)
              have n7_ := Aside0.mk (bB hb BK209.out)
              have n8_ := Aside0.mk (bB hb BK217.out)
              have n9_ := Aside0.mk (below_step (by repeat (first | (with_reducible first | exact HB.out | apply bA | apply bN | apply bD | refine bS GE190.out ?_ | refine bS GE191.out ?_ | refine bS GE204.out ?_ | refine bS GE209.out ?_ | refine bS GE217.out ?_) | exact HB.out)) hb)
              have n10_ := Aside0.mk (hbox)
              have n11_ := Aside0.mk ((by rw [hg]; exact (below_size (by repeat (first | (with_reducible first | exact HB.out | apply bA | apply bN | apply bD | refine bS GE190.out ?_ | refine bS GE191.out ?_ | refine bS GE204.out ?_ | refine bS GE209.out ?_ | refine bS GE217.out ?_) | exact HB.out))) : w.heap.size ≤ gb241))
              have n12_ := Aside0.mk ((by rw [hg]; exact (below_size (by repeat (first | (with_reducible first | exact HB.out | apply bA | apply bN | apply bD | refine bS GE190.out ?_ | refine bS GE191.out ?_ | refine bS GE204.out ?_ | refine bS GE209.out ?_ | refine bS GE217.out ?_) | exact HB.out))) : w.heap.size ≤ gb241))
              have n13_ := Aside0.mk ((by rw [hg]; exact Nat.ne_of_lt (blk_lt BK190.out) : gb190 ≠ gb241))
              have n14_ := Aside0.mk ((by rw [hg]; exact Nat.ne_of_gt (blk_lt BK190.out) : gb241 ≠ gb190))
              have n15_ := Aside0.mk ((by rw [hg]; exact Nat.ne_of_lt (blk_lt BK191.out) : gb191 ≠ gb241))
              have n16_ := Aside0.mk ((by rw [hg]; exact Nat.ne_of_gt (blk_lt BK191.out) : gb241 ≠ gb191))
              have n17_ := Aside0.mk ((by rw [hg]; exact Nat.ne_of_lt (blk_lt BK204.out) : gb204 ≠ gb241))
              have n18_ := Aside0.mk ((by rw [hg]; exact Nat.ne_of_gt (blk_lt BK204.out) : gb241 ≠ gb204))
              have n19_ := Aside0.mk ((by rw [hg]; exact Nat.ne_of_lt (blk_lt BK209.out) : gb209 ≠ gb241))
              have n20_ := Aside0.mk ((by rw [hg]; exact Nat.ne_of_gt (blk_lt BK209.out) : gb241 ≠ gb209))
              have n21_ := Aside0.mk ((by rw [hg]; exact Nat.ne_of_lt (blk_lt BK217.out) : gb217 ≠ gb241))
              have n22_ := Aside0.mk ((by rw [hg]; exact Nat.ne_of_gt (blk_lt BK217.out) : gb241 ≠ gb217))
              clear HO_205001
              clear HO_210001
              clear HO_218001
              clear HO233
              clear BK190
              clear BK191
              clear BK204
              clear BK209
              clear BK217
              clear HB
              have HO_205001 := n0_
              have HO_210001 := n1_
              have HO_218001 := n2_
              have HO233 := n3_
              have BK190 := n4_
              have BK191 := n5_
              have BK204 := n6_
              have BK209 := n7_
              have BK217 := n8_
              have HB := n9_
              have BK241 := n10_
              have GW241 := n11_
              have GE241 := n12_
              have NB190_241 := n13_
              have NB241_190 := n14_
              have NB191_241 := n15_
              have NB241_191 := n16_
              have NB204_241 := n17_
              have NB241_204 := n18_
              have NB209_241 := n19_
              have NB241_209 := n20_
              have NB217_241 := n21_
              have NB241_217 := n22_
              clear n0_ n1_ n2_ n3_ n4_ n5_ n6_ n7_ n8_ n9_ n10_ n11_ n12_ n13_ n14_ n15_ n16_ n17_ n18_ n19_ n20_ n21_ n22_
              clear hb hbox hg
              refine hK.out _ _ ⟨(blk_cell BK190.out 0).trans rfl, (blk_cell BK190.out 1).trans rfl, (blk_cell BK191.out 0).trans rfl, (blk_cell BK191.out 1).trans rfl⟩ (fun hHeld => ?_)
              clear hK K
              refine norm_ (a' := ?_) ?_ ?_
              rotate_left
              ·
               show Act.put _ (some 16) _ = _
               simp only [Act.put, sA, sZ, sS, i64_w, i32_w]
               rfl
              refine one_ (i := 4) (N := some 88) bl6_9 rfl rfl (one_of HT_.out (by kernel_rfl)) (by decide) (fun K hK => ?_)
              refine goes_ Try.func22 (by kernel_rfl) rfl #[.agg #[.int .i64 a2_0, .int .i64 a2_1]] (by rfl) rfl rfl (by (try simp only [List.map_toArray, List.map_cons, List.map_nil]); first | done | rfl | (simp only [List.length_drop, List.length_take]; rfl)) ?_
              with_reducible refine (laws_toRatio.calls a2_0 a2_1 t234 t235 _ A118.out).mono ?_
              rintro e w132 ⟨rfl, hb⟩
              refine ⟨_, rfl, ?_⟩
              have n0_ := Aside0.mk (Kd.R_below (by (with_reducible repeat (first | apply rA | apply rN | apply rD)); exact HO_205001.out) hb)
              have n1_ := Aside0.mk (Kd.R_below (by (with_reducible repeat (first | apply rA | apply rN | apply rD)); exact HO_210001.out) hb)
              have n2_ := Aside0.mk (Kd.R_below (by (with_reducible repeat (first | apply rA | apply rN | apply rD)); exact HO_218001.out) hb)
              have n3_ := Aside0.mk (Kd.R_below (by (with_reducible repeat (first | apply rA | apply rN | apply rD)); exact HO233.out) hb)
              have n4_ := Aside0.mk (bB hb BK190.out)
              have n5_ := Aside0.mk (bB hb BK191.out)
              have n6_ := Aside0.mk (bB hb BK204.out)
              have n7_ := Aside0.mk (bB hb BK209.out)
              have n8_ := Aside0.mk (bB hb BK217.out)
              have n9_ := Aside0.mk (blk_below (g := gb241) (o := .cells #[.string (⟨#[]⟩ : ByteArray), .slice none 0 0] 24 (0, 0)) BK241.out hb)
              have n10_ := Aside0.mk (below_step (by repeat (first | (with_reducible first | exact HB.out | apply bA | apply bN | apply bD | refine bS GE190.out ?_ | refine bS GE191.out ?_ | refine bS GE204.out ?_ | refine bS GE209.out ?_ | refine bS GE217.out ?_ | refine bS GE241.out ?_) | exact HB.out)) hb)
              clear HO_205001
              clear HO_210001
              clear HO_218001
              clear HO233
              clear BK190
              clear BK191
              clear BK204
              clear BK209
              clear BK217
              clear BK241
              clear HB
              have HO_205001 := n0_
              have HO_210001 := n1_
              have HO_218001 := n2_
              have HO233 := n3_
              have BK190 := n4_
              have BK191 := n5_
              have BK204 := n6_
              have BK209 := n7_
              have BK217 := n8_
              have BK241 := n9_
              have HB := n10_
              clear n0_ n1_ n2_ n3_ n4_ n5_ n6_ n7_ n8_ n9_ n10_
              (try clear hb)
              (try clear hb2)
              (try clear hk)
              (try clear hi)
              obtain ⟨Ao133, co133, eo133⟩ := Kd.R_slice HO233.out
              (first | subst eo133 | (injection eo133 with f1_ f2_ f3_; have f4_ := f1_.symm; have f5_ := f3_.symm; clear f1_ f2_ f3_; subst f4_; subst f5_))
              refine hK.out _ _ ⟨(blk_cell BK190.out 0).trans rfl, (blk_cell BK190.out 1).trans rfl, (blk_cell BK191.out 0).trans rfl, (blk_cell BK191.out 1).trans rfl⟩ (fun hHeld => ?_)
              clear hK K
              refine norm_ (a' := ?_) ?_ ?_
              rotate_left
              ·
               show Act.put _ (some 88) _ = _
               simp only [Act.put, sA, sZ, sS, i64_w, i32_w]
               rfl
              refine one_ (i := 5) (N := some 89) bl6_10 rfl rfl (one_of HT_.out (by kernel_rfl)) (by decide) (fun K hK => ?_)
              refine goes_ Try.func23 (by kernel_rfl) rfl #[.agg #[.string t230, .slice Ao133 t231.length co133], .int .i64 a1, .agg #[.int .i64 t234, .int .i64 t235]] (by rfl) rfl rfl (by (try simp only [List.map_toArray, List.map_cons, List.map_nil]); first | done | rfl | (simp only [List.length_drop, List.length_take]; rfl)) ?_
              with_reducible refine (impl_TuneTone.calls kj77 t230 _ _ t231 a1 t234 t235 t236 t237 t240 _ ?side1 ?side2 A119.out).mono ?_
              (case side1 => repeat (first | exact (Kd.R_reads' HO233.out).2.2 | (with_reducible refine Kd.C_alloc ?_ _) | (with_reducible refine Kd.C_drewN ?_ _) | (with_reducible refine Kd.C_drew ?_)))
              (case side2 => exact (Kd.R_reads' HO233.out).2.1)
              rintro e w134 ⟨v238, rfl, ho0, hb⟩
              refine ⟨_, rfl, ?_⟩
              have n0_ := Aside0.mk (Kd.R_elder' (by (with_reducible repeat (first | apply rA | apply rN | apply rD)); exact HO_205001.out) (Kd.R_base ho0) hb)
              have n1_ := Aside0.mk (Kd.R_elder' (by (with_reducible repeat (first | apply rA | apply rN | apply rD)); exact HO_210001.out) (Kd.R_base ho0) hb)
              have n2_ := Aside0.mk (Kd.R_elder' (by (with_reducible repeat (first | apply rA | apply rN | apply rD)); exact HO_218001.out) (Kd.R_base ho0) hb)
              have n3_ := Aside0.mk (Kd.R_elder' (by (with_reducible repeat (first | apply rA | apply rN | apply rD)); exact HO233.out) (Kd.R_base ho0) hb)
              have n4_ := Aside0.mk (Kd.R_lower (Kd.R_new' (Kd.R_new' (Kd.R_new' (Kd.R_new' ho0 (Kd.R_lt (by (with_reducible repeat (first | apply rA | apply rN | apply rD)); exact HO_205001.out))) (Kd.R_lt (by (with_reducible repeat (first | apply rA | apply rN | apply rD)); exact HO_210001.out))) (Kd.R_lt (by (with_reducible repeat (first | apply rA | apply rN | apply rD)); exact HO_218001.out))) (Kd.R_lt (by (with_reducible repeat (first | apply rA | apply rN | apply rD)); exact HO233.out))) (below_size (by repeat (first | (with_reducible first | exact HB.out | apply bA | apply bN | apply bD | refine bS GE190.out ?_ | refine bS GE191.out ?_ | refine bS GE204.out ?_ | refine bS GE209.out ?_ | refine bS GE217.out ?_ | refine bS GE241.out ?_) | exact HB.out))))
              have n5_ := Aside0.mk (bB hb BK190.out)
              have n6_ := Aside0.mk (bB hb BK191.out)
              have n7_ := Aside0.mk (bB hb BK204.out)
              have n8_ := Aside0.mk (bB hb BK209.out)
              have n9_ := Aside0.mk (bB hb BK217.out)
              have n10_ := Aside0.mk (blk_below (g := gb241) (o := .cells #[.string (⟨#[]⟩ : ByteArray), .slice none 0 0] 24 (0, 0)) BK241.out hb)
              have n11_ := Aside0.mk (below_step (by repeat (first | (with_reducible first | exact HB.out | apply bA | apply bN | apply bD | refine bS GE190.out ?_ | refine bS GE191.out ?_ | refine bS GE204.out ?_ | refine bS GE209.out ?_ | refine bS GE217.out ?_ | refine bS GE241.out ?_) | exact HB.out)) hb)
              clear HO_205001
              clear HO_210001
              clear HO_218001
              clear HO233
              clear BK190
              clear BK191
              clear BK204
              clear BK209
              clear BK217
              clear BK241
              clear HB
              have HO_205001 := n0_
              have HO_210001 := n1_
              have HO_218001 := n2_
              have HO233 := n3_
              have HO239 := n4_
              have BK190 := n5_
              have BK191 := n6_
              have BK204 := n7_
              have BK209 := n8_
              have BK217 := n9_
              have BK241 := n10_
              have HB := n11_
              clear n0_ n1_ n2_ n3_ n4_ n5_ n6_ n7_ n8_ n9_ n10_ n11_
              (try clear hb)
              (try clear hb2)
              (try clear hk)
              (try clear hi)
              (try clear ho0)
              refine hK.out _ _ ⟨(blk_cell BK190.out 0).trans rfl, (blk_cell BK190.out 1).trans rfl, (blk_cell BK191.out 0).trans rfl, (blk_cell BK191.out 1).trans rfl⟩ (fun hHeld => ?_)
              clear hK K
              refine norm_ (a' := ?_) ?_ ?_
              rotate_left
              ·
               show Act.put _ (some 89) _ = _
               simp only [Act.put, sA, sZ, sS, i64_w, i32_w]
               rfl
              refine pure_ (i := 6) (N := some 83) (v := ?_) (a' := ?_) bl6_13 rfl rfl (any_of HT_.out (by kernel_rfl)) (fun _ _ _ h => h) (Or.inl ⟨by rfl, ?_⟩) ?_ ?_
              rotate_left
              ·
               intro w'
               go_simp
               with_reducible rfl
              rotate_left
              ·
               simp only [Act.put, sA, sZ, sS, i64_w, i32_w]
               rfl
              refine pure_ (i := 7) (N := some 90) (v := ?_) (a' := ?_) bl6_17 rfl rfl (any_of HT_.out (by kernel_rfl)) (fun _ _ _ h => h) (Or.inl ⟨by rfl, ?_⟩) ?_ ?_
              rotate_left
              ·
               intro w'
               go_simp
               with_reducible rfl
              rotate_left
              ·
               simp only [Act.put, sA, sZ, sS, i64_w, i32_w]
               rfl
              refine pure_ (i := 8) (N := some 91) (v := ?_) (a' := ?_) bl6_20 rfl rfl (any_of HT_.out (by kernel_rfl)) (fun _ _ _ h => h) (Or.inl ⟨by rfl, ?_⟩) ?_ ?_
              rotate_left
              ·
               intro w'
               go_simp
               with_reducible rfl
              rotate_left
              ·
               simp only [Act.put, sA, sZ, sS, i64_w, i32_w]
               rfl
              exact norm_ (by simp only [putAll, Act.put, List.setIfInBounds_toArray, List.set_cons_zero, List.set_cons_succ]) (hCont (.slice Ao133 t231.length co133, v238, gb241) _ ⟨hHeld, (by (with_reducible repeat (first | apply rA | apply rN | apply rD)); exact Kd.R_mono HO233.out (fun _ hk => ⟨hk.2, ⟨hk.1.1.1.2, ⟨hk.1.1.2, hk.1.2⟩⟩⟩)), (by (with_reducible repeat (first | apply rA | apply rN | apply rD)); exact Kd.R_mono HO239.out (fun _ hk => ⟨hk.2, ⟨hk.1.1.1.2, ⟨hk.1.1.2, hk.1.2⟩⟩⟩)), (by (with_reducible repeat (first | apply rA | apply rN | apply rD)); exact Kd.R_mono HO_205001.out (fun _ hk => ⟨hk.1.2, ⟨hk.2, ⟨hk.1.1.1, hk.1.1.2⟩⟩⟩)), (by (with_reducible repeat (first | apply rA | apply rN | apply rD)); exact Kd.R_mono HO_210001.out (fun _ hk => ⟨hk.1.2, ⟨hk.2, ⟨hk.1.1.1, hk.1.1.2⟩⟩⟩)), (by (with_reducible repeat (first | apply rA | apply rN | apply rD)); exact Kd.R_mono HO_218001.out (fun _ hk => ⟨hk.1.2, ⟨hk.2, ⟨hk.1.1.1, hk.1.1.2⟩⟩⟩)), BK190.out, BK191.out, BK204.out, BK209.out, BK217.out, BK241.out, GW241.out, GE241.out, NB190_241.out, NB241_190.out, NB191_241.out, NB241_191.out, NB204_241.out, NB241_204.out, NB209_241.out, NB241_209.out, NB217_241.out, NB241_217.out, (by repeat (first | (with_reducible first | exact HB.out | apply bA | apply bN | apply bD | refine bS GE190.out ?_ | refine bS GE191.out ?_ | refine bS GE204.out ?_ | refine bS GE209.out ?_ | refine bS GE217.out ?_ | refine bS GE241.out ?_) | exact HB.out))⟩)
            ·
             skip
             refine box_step ?hg (N := 16) ?hd (cs := #[.string (⟨#[]⟩ : ByteArray), .slice none 0 0]) (t := 24) ?hr ?_; (case hd => rfl); (case hg => rfl); (case hr => first | (go_simp; done) | (go_simp; rfl))
             intro gb241 hg w130 hbox hb
             have n0_ := Aside0.mk (Kd.R_below (by (with_reducible repeat (first | apply rA | apply rN | apply rD)); exact HO_205001.out) hb)
             have n1_ := Aside0.mk (Kd.R_below (by (with_reducible repeat (first | apply rA | apply rN | apply rD)); exact HO_210001.out) hb)
             have n2_ := Aside0.mk (Kd.R_below (by (with_reducible repeat (first | apply rA | apply rN | apply rD)); exact HO_218001.out) hb)
             have n3_ := Aside0.mk (bB hb BK190.out)
             have n4_ := Aside0.mk (bB hb BK191.out)
             have n5_ := Aside0.mk (bB hb BK204.out)
             have n6_ := Aside0.mk (bB hb BK209.out)
             have n7_ := Aside0.mk (bB hb BK217.out)
             have n8_ := Aside0.mk (below_step (by repeat (first | (with_reducible first | exact HB.out | apply bA | apply bN | apply bD | refine bS GE190.out ?_ | refine bS GE191.out ?_ | refine bS GE204.out ?_ | refine bS GE209.out ?_ | refine bS GE217.out ?_) | exact HB.out)) hb)
             have n9_ := Aside0.mk (hbox)
             have n10_ := Aside0.mk ((by rw [hg]; exact (below_size (by repeat (first | (with_reducible first | exact HB.out | apply bA | apply bN | apply bD | refine bS GE190.out ?_ | refine bS GE191.out ?_ | refine bS GE204.out ?_ | refine bS GE209.out ?_ | refine bS GE217.out ?_) | exact HB.out))) : w.heap.size ≤ gb241))
             have n11_ := Aside0.mk ((by rw [hg]; exact (below_size (by repeat (first | (with_reducible first | exact HB.out | apply bA | apply bN | apply bD | refine bS GE190.out ?_ | refine bS GE191.out ?_ | refine bS GE204.out ?_ | refine bS GE209.out ?_ | refine bS GE217.out ?_) | exact HB.out))) : w.heap.size ≤ gb241))
             have n12_ := Aside0.mk ((by rw [hg]; exact Nat.ne_of_lt (blk_lt BK190.out) : gb190 ≠ gb241))
             have n13_ := Aside0.mk ((by rw [hg]; exact Nat.ne_of_gt (blk_lt BK190.out) : gb241 ≠ gb190))
             have n14_ := Aside0.mk ((by rw [hg]; exact Nat.ne_of_lt (blk_lt BK191.out) : gb191 ≠ gb241))
             have n15_ := Aside0.mk ((by rw [hg]; exact Nat.ne_of_gt (blk_lt BK191.out) : gb241 ≠ gb191))
             have n16_ := Aside0.mk ((by rw [hg]; exact Nat.ne_of_lt (blk_lt BK204.out) : gb204 ≠ gb241))
             have n17_ := Aside0.mk ((by rw [hg]; exact Nat.ne_of_gt (blk_lt BK204.out) : gb241 ≠ gb204))
             have n18_ := Aside0.mk ((by rw [hg]; exact Nat.ne_of_lt (blk_lt BK209.out) : gb209 ≠ gb241))
             have n19_ := Aside0.mk ((by rw [hg]; exact Nat.ne_of_gt (blk_lt BK209.out) : gb241 ≠ gb209))
             have n20_ := Aside0.mk ((by rw [hg]; exact Nat.ne_of_lt (blk_lt BK217.out) : gb217 ≠ gb241))
             have n21_ := Aside0.mk ((by rw [hg]; exact Nat.ne_of_gt (blk_lt BK217.out) : gb241 ≠ gb217))
             clear HO_205001
             clear HO_210001
             clear HO_218001
             clear BK190
             clear BK191
             clear BK204
             clear BK209
             clear BK217
             clear HB
             have HO_205001 := n0_
             have HO_210001 := n1_
             have HO_218001 := n2_
             have BK190 := n3_
             have BK191 := n4_
             have BK204 := n5_
             have BK209 := n6_
             have BK217 := n7_
             have HB := n8_
             have BK241 := n9_
             have GW241 := n10_
             have GE241 := n11_
             have NB190_241 := n12_
             have NB241_190 := n13_
             have NB191_241 := n14_
             have NB241_191 := n15_
             have NB204_241 := n16_
             have NB241_204 := n17_
             have NB209_241 := n18_
             have NB241_209 := n19_
             have NB217_241 := n20_
             have NB241_217 := n21_
             clear n0_ n1_ n2_ n3_ n4_ n5_ n6_ n7_ n8_ n9_ n10_ n11_ n12_ n13_ n14_ n15_ n16_ n17_ n18_ n19_ n20_ n21_
             clear hb hbox hg
             refine hK.out _ _ ⟨(blk_cell BK190.out 0).trans rfl, (blk_cell BK190.out 1).trans rfl, (blk_cell BK191.out 0).trans rfl, (blk_cell BK191.out 1).trans rfl⟩ (fun hHeld => ?_)
             clear hK K
             refine norm_ (a' := ?_) ?_ ?_
             rotate_left
             ·
              show Act.put _ (some 16) _ = _
              simp only [Act.put, sA, sZ, sS, i64_w, i32_w]
              rfl
             refine one_ (i := 1) (N := some 85) bl6_7 rfl rfl (one_of HT_.out (by kernel_rfl)) (by decide) (fun K hK => ?_)
             refine goes_ Try.func17 (by kernel_rfl) rfl #[.agg #[.string a0_0, .slice A0_1 l0_1.length c0_1]] (by rfl) rfl rfl (by (try simp only [List.map_toArray, List.map_cons, List.map_nil]); first | done | rfl | (simp only [List.length_drop, List.length_take]; rfl)) ?_
             with_reducible refine (laws_toTuning.calls kj77 a0_0 _ _ l0_1 t230 t231 _ ?side1 ?side2 A117.out).mono ?_
             (case side1 => repeat (first | exact (Kd.C_below HR0_1.out HB.out) | (with_reducible refine Kd.C_alloc ?_ _) | (with_reducible refine Kd.C_drewN ?_ _) | (with_reducible refine Kd.C_drew ?_)))
             (case side2 => exact HC0_1.out)
             rintro e w131 ⟨v232, rfl, ho0, hb⟩
             refine ⟨_, rfl, ?_⟩
             have n0_ := Aside0.mk (Kd.R_elder' (by (with_reducible repeat (first | apply rA | apply rN | apply rD)); exact HO_205001.out) (Kd.R_base ho0) hb)
             have n1_ := Aside0.mk (Kd.R_elder' (by (with_reducible repeat (first | apply rA | apply rN | apply rD)); exact HO_210001.out) (Kd.R_base ho0) hb)
             have n2_ := Aside0.mk (Kd.R_elder' (by (with_reducible repeat (first | apply rA | apply rN | apply rD)); exact HO_218001.out) (Kd.R_base ho0) hb)
             have n3_ := Aside0.mk (Kd.R_lower (Kd.R_new' (Kd.R_new' (Kd.R_new' ho0 (Kd.R_lt (by (with_reducible repeat (first | apply rA | apply rN | apply rD)); exact HO_205001.out))) (Kd.R_lt (by (with_reducible repeat (first | apply rA | apply rN | apply rD)); exact HO_210001.out))) (Kd.R_lt (by (with_reducible repeat (first | apply rA | apply rN | apply rD)); exact HO_218001.out))) (below_size (by repeat (first | (with_reducible first | exact HB.out | apply bA | apply bN | apply bD | refine bS GE190.out ?_ | refine bS GE191.out ?_ | refine bS GE204.out ?_ | refine bS GE209.out ?_ | refine bS GE217.out ?_ | refine bS GE241.out ?_) | exact HB.out))))
             have n4_ := Aside0.mk (bB hb BK190.out)
             have n5_ := Aside0.mk (bB hb BK191.out)
             have n6_ := Aside0.mk (bB hb BK204.out)
             have n7_ := Aside0.mk (bB hb BK209.out)
             have n8_ := Aside0.mk (bB hb BK217.out)
             have n9_ := Aside0.mk (blk_below (g := gb241) (o := .cells #[.string (⟨#[]⟩ : ByteArray), .slice none 0 0] 24 (0, 0)) BK241.out hb)
             have n10_ := Aside0.mk (below_step (by repeat (first | (with_reducible first | exact HB.out | apply bA | apply bN | apply bD | refine bS GE190.out ?_ | refine bS GE191.out ?_ | refine bS GE204.out ?_ | refine bS GE209.out ?_ | refine bS GE217.out ?_ | refine bS GE241.out ?_) | exact HB.out)) hb)
             clear HO_205001
             clear HO_210001
             clear HO_218001
             clear BK190
             clear BK191
             clear BK204
             clear BK209
             clear BK217
             clear BK241
             clear HB
             have HO_205001 := n0_
             have HO_210001 := n1_
             have HO_218001 := n2_
             have HO233 := n3_
             have BK190 := n4_
             have BK191 := n5_
             have BK204 := n6_
             have BK209 := n7_
             have BK217 := n8_
             have BK241 := n9_
             have HB := n10_
             clear n0_ n1_ n2_ n3_ n4_ n5_ n6_ n7_ n8_ n9_ n10_
             (try clear hb)
             (try clear hb2)
             (try clear hk)
             (try clear hi)
             (try clear ho0)
             refine hK.out _ _ ⟨(blk_cell BK190.out 0).trans rfl, (blk_cell BK190.out 1).trans rfl, (blk_cell BK191.out 0).trans rfl, (blk_cell BK191.out 1).trans rfl⟩ (fun hHeld => ?_)
             clear hK K
             refine norm_ (a' := ?_) ?_ ?_
             rotate_left
             ·
              show Act.put _ (some 85) _ = _
              simp only [Act.put, sA, sZ, sS, i64_w, i32_w]
              rfl
             refine one_ (i := 4) (N := some 88) bl6_9 rfl rfl (one_of HT_.out (by kernel_rfl)) (by decide) (fun K hK => ?_)
             refine goes_ Try.func22 (by kernel_rfl) rfl #[.agg #[.int .i64 a2_0, .int .i64 a2_1]] (by rfl) rfl rfl (by (try simp only [List.map_toArray, List.map_cons, List.map_nil]); first | done | rfl | (simp only [List.length_drop, List.length_take]; rfl)) ?_
             with_reducible refine (laws_toRatio.calls a2_0 a2_1 t234 t235 _ A118.out).mono ?_
             rintro e w132 ⟨rfl, hb⟩
             refine ⟨_, rfl, ?_⟩
             have n0_ := Aside0.mk (Kd.R_below (by (with_reducible repeat (first | apply rA | apply rN | apply rD)); exact HO_205001.out) hb)
             have n1_ := Aside0.mk (Kd.R_below (by (with_reducible repeat (first | apply rA | apply rN | apply rD)); exact HO_210001.out) hb)
             have n2_ := Aside0.mk (Kd.R_below (by (with_reducible repeat (first | apply rA | apply rN | apply rD)); exact HO_218001.out) hb)
             have n3_ := Aside0.mk (Kd.R_below (by (with_reducible repeat (first | apply rA | apply rN | apply rD)); exact HO233.out) hb)
             have n4_ := Aside0.mk (bB hb BK190.out)
             have n5_ := Aside0.mk (bB hb BK191.out)
             have n6_ := Aside0.mk (bB hb BK204.out)
             have n7_ := Aside0.mk (bB hb BK209.out)
             have n8_ := Aside0.mk (bB hb BK217.out)
             have n9_ := Aside0.mk (blk_below (g := gb241) (o := .cells #[.string (⟨#[]⟩ : ByteArray), .slice none 0 0] 24 (0, 0)) BK241.out hb)
             have n10_ := Aside0.mk (below_step (by repeat (first | (with_reducible first | exact HB.out | apply bA | apply bN | apply bD | refine bS GE190.out ?_ | refine bS GE191.out ?_ | refine bS GE204.out ?_ | refine bS GE209.out ?_ | refine bS GE217.out ?_ | refine bS GE241.out ?_) | exact HB.out)) hb)
             clear HO_205001
             clear HO_210001
             clear HO_218001
             clear HO233
             clear BK190
             clear BK191
             clear BK204
             clear BK209
             clear BK217
             clear BK241
             clear HB
             have HO_205001 := n0_
             have HO_210001 := n1_
             have HO_218001 := n2_
             have HO233 := n3_
             have BK190 := n4_
             have BK191 := n5_
             have BK204 := n6_
             have BK209 := n7_
             have BK217 := n8_
             have BK241 := n9_
             have HB := n10_
             clear n0_ n1_ n2_ n3_ n4_ n5_ n6_ n7_ n8_ n9_ n10_
             (try clear hb)
             (try clear hb2)
             (try clear hk)
             (try clear hi)
             obtain ⟨Ao133, co133, eo133⟩ := Kd.R_slice HO233.out
             (first | subst eo133 | (injection eo133 with f1_ f2_ f3_; have f4_ := f1_.symm; have f5_ := f3_.symm; clear f1_ f2_ f3_; subst f4_; subst f5_))
             refine hK.out _ _ ⟨(blk_cell BK190.out 0).trans rfl, (blk_cell BK190.out 1).trans rfl, (blk_cell BK191.out 0).trans rfl, (blk_cell BK191.out 1).trans rfl⟩ (fun hHeld => ?_)
             clear hK K
             refine norm_ (a' := ?_) ?_ ?_
             rotate_left
             ·
              show Act.put _ (some 88) _ = _
              simp only [Act.put, sA, sZ, sS, i64_w, i32_w]
              rfl
             refine one_ (i := 5) (N := some 89) bl6_10 rfl rfl (one_of HT_.out (by kernel_rfl)) (by decide) (fun K hK => ?_)
             refine goes_ Try.func23 (by kernel_rfl) rfl #[.agg #[.string t230, .slice Ao133 t231.length co133], .int .i64 a1, .agg #[.int .i64 t234, .int .i64 t235]] (by rfl) rfl rfl (by (try simp only [List.map_toArray, List.map_cons, List.map_nil]); first | done | rfl | (simp only [List.length_drop, List.length_take]; rfl)) ?_
             with_reducible refine (impl_TuneTone.calls kj77 t230 _ _ t231 a1 t234 t235 t236 t237 t240 _ ?side1 ?side2 A119.out).mono ?_
             (case side1 => repeat (first | exact (Kd.R_reads' HO233.out).2.2 | (with_reducible refine Kd.C_alloc ?_ _) | (with_reducible refine Kd.C_drewN ?_ _) | (with_reducible refine Kd.C_drew ?_)))
             (case side2 => exact (Kd.R_reads' HO233.out).2.1)
             rintro e w134 ⟨v238, rfl, ho0, hb⟩
             refine ⟨_, rfl, ?_⟩
             have n0_ := Aside0.mk (Kd.R_elder' (by (with_reducible repeat (first | apply rA | apply rN | apply rD)); exact HO_205001.out) (Kd.R_base ho0) hb)
             have n1_ := Aside0.mk (Kd.R_elder' (by (with_reducible repeat (first | apply rA | apply rN | apply rD)); exact HO_210001.out) (Kd.R_base ho0) hb)
             have n2_ := Aside0.mk (Kd.R_elder' (by (with_reducible repeat (first | apply rA | apply rN | apply rD)); exact HO_218001.out) (Kd.R_base ho0) hb)
             have n3_ := Aside0.mk (Kd.R_elder' (by (with_reducible repeat (first | apply rA | apply rN | apply rD)); exact HO233.out) (Kd.R_base ho0) hb)
             have n4_ := Aside0.mk (Kd.R_lower (Kd.R_new' (Kd.R_new' (Kd.R_new' (Kd.R_new' ho0 (Kd.R_lt (by (with_reducible repeat (first | apply rA | apply rN | apply rD)); exact HO_205001.out))) (Kd.R_lt (by (with_reducible repeat (first | apply rA | apply rN | apply rD)); exact HO_210001.out))) (Kd.R_lt (by (with_reducible repeat (first | apply rA | apply rN | apply rD)); exact HO_218001.out))) (Kd.R_lt (by (with_reducible repeat (first | apply rA | apply rN | apply rD)); exact HO233.out))) (below_size (by repeat (first | (with_reducible first | exact HB.out | apply bA | apply bN | apply bD | refine bS GE190.out ?_ | refine bS GE191.out ?_ | refine bS GE204.out ?_ | refine bS GE209.out ?_ | refine bS GE217.out ?_ | refine bS GE241.out ?_) | exact HB.out))))
             have n5_ := Aside0.mk (bB hb BK190.out)
             have n6_ := Aside0.mk (bB hb BK191.out)
             have n7_ := Aside0.mk (bB hb BK204.out)
             have n8_ := Aside0.mk (bB hb BK209.out)
             have n9_ := Aside0.mk (bB hb BK217.out)
             have n10_ := Aside0.mk (blk_below (g := gb241) (o := .cells #[.string (⟨#[]⟩ : ByteArray), .slice none 0 0] 24 (0, 0)) BK241.out hb)
             have n11_ := Aside0.mk (below_step (by repeat (first | (with_reducible first | exact HB.out | apply bA | apply bN | apply bD | refine bS GE190.out ?_ | refine bS GE191.out ?_ | refine bS GE204.out ?_ | refine bS GE209.out ?_ | refine bS GE217.out ?_ | refine bS GE241.out ?_) | exact HB.out)) hb)
             clear HO_205001
             clear HO_210001
             clear HO_218001
             clear HO233
             clear BK190
             clear BK191
             clear BK204
             clear BK209
             clear BK217
             clear BK241
             clear HB
             have HO_205001 := n0_
             have HO_210001 := n1_
             have HO_218001 := n2_
             have HO233 := n3_
             have HO239 := n4_
             have BK190 := n5_
             have BK191 := n6_
             have BK204 := n7_
             have BK209 := n8_
             have BK217 := n9_
             have BK241 := n10_
             have HB := n11_
             clear n0_ n1_ n2_ n3_ n4_ n5_ n6_ n7_ n8_ n9_ n10_ n11_
             (try clear hb)
             (try clear hb2)
             (try clear hk)
             (try clear hi)
             (try clear ho0)
             refine hK.out _ _ ⟨(blk_cell BK190.out 0).trans rfl, (blk_cell BK190.out 1).trans rfl, (blk_cell BK191.out 0).trans rfl, (blk_cell BK191.out 1).trans rfl⟩ (fun hHeld => ?_)
             clear hK K
             refine norm_ (a' := ?_) ?_ ?_
             rotate_left
             ·
              show Act.put _ (some 89) _ = _
              simp only [Act.put, sA, sZ, sS, i64_w, i32_w]
              rfl
             refine pure_ (i := 6) (N := some 83) (v := ?_) (a' := ?_) bl6_13 rfl rfl (any_of HT_.out (by kernel_rfl)) (fun _ _ _ h => h) (Or.inl ⟨by rfl, ?_⟩) ?_ ?_
             rotate_left
             ·
              intro w'
              go_simp
              with_reducible rfl
             rotate_left
             ·
              simp only [Act.put, sA, sZ, sS, i64_w, i32_w]
              rfl
             refine pure_ (i := 7) (N := some 90) (v := ?_) (a' := ?_) bl6_17 rfl rfl (any_of HT_.out (by kernel_rfl)) (fun _ _ _ h => h) (Or.inl ⟨by rfl, ?_⟩) ?_ ?_
             rotate_left
             ·
              intro w'
              go_simp
              with_reducible rfl
             rotate_left
             ·
              simp only [Act.put, sA, sZ, sS, i64_w, i32_w]
              rfl
             refine pure_ (i := 8) (N := some 91) (v := ?_) (a' := ?_) bl6_20 rfl rfl (any_of HT_.out (by kernel_rfl)) (fun _ _ _ h => h) (Or.inl ⟨by rfl, ?_⟩) ?_ ?_
             rotate_left
             ·
              intro w'
              go_simp
              with_reducible rfl
             rotate_left
             ·
              simp only [Act.put, sA, sZ, sS, i64_w, i32_w]
              rfl
             exact norm_ (by simp only [putAll, Act.put, List.setIfInBounds_toArray, List.set_cons_zero, List.set_cons_succ]) (hCont (.slice Ao133 t231.length co133, v238, gb241) _ ⟨hHeld, (by (with_reducible repeat (first | apply rA | apply rN | apply rD)); exact Kd.R_mono HO233.out (fun _ hk => ⟨hk.2, ⟨hk.1.1.1.2, ⟨hk.1.1.2, hk.1.2⟩⟩⟩)), (by (with_reducible repeat (first | apply rA | apply rN | apply rD)); exact Kd.R_mono HO239.out (fun _ hk => ⟨hk.2, ⟨hk.1.1.1.2, ⟨hk.1.1.2, hk.1.2⟩⟩⟩)), (by (with_reducible repeat (first | apply rA | apply rN | apply rD)); exact Kd.R_mono HO_205001.out (fun _ hk => ⟨hk.1.2, ⟨hk.2, ⟨hk.1.1.1, hk.1.1.2⟩⟩⟩)), (by (with_reducible repeat (first | apply rA | apply rN | apply rD)); exact Kd.R_mono HO_210001.out (fun _ hk => ⟨hk.1.2, ⟨hk.2, ⟨hk.1.1.1, hk.1.1.2⟩⟩⟩)), (by (with_reducible repeat (first | apply rA | apply rN | apply rD)); exact Kd.R_mono HO_218001.out (fun _ hk => ⟨hk.1.2, ⟨hk.2, ⟨hk.1.1.1, hk.1.1.2⟩⟩⟩)), BK190.out, BK191.out, BK204.out, BK209.out, BK217.out, BK241.out, GW241.out, GE241.out, NB190_241.out, NB241_190.out, NB191_241.out, NB241_191.out, NB204_241.out, NB241_204.out, NB209_241.out, NB241_209.out, NB217_241.out, NB241_217.out, (by repeat (first | (with_reducible first | exact HB.out | apply bA | apply bN | apply bD | refine bS GE190.out ?_ | refine bS GE191.out ?_ | refine bS GE204.out ?_ | refine bS GE209.out ?_ | refine bS GE217.out ?_ | refine bS GE241.out ?_) | exact HB.out))⟩)
           rintro ⟨v232, v238, gb241⟩ w135 ⟨hS_, h0_, h1_, h2_, h3_, h4_, h5_, h6_, h7_, h8_, h9_, h10_, h11_, h12_, h13_, h14_, h15_, h16_, h17_, h18_, h19_, h20_, h21_, h22_, h23_⟩
           have n0_ : Aside0 (Kd.R k41 41 w135 w.heap.size (fun k_ => some k_ ≠ (v238 : Value).ownBlock ∧ some k_ ≠ (.slice Ao31 t200.length co31 : Value).ownBlock ∧ some k_ ≠ (.slice Ao41 t225.length co41 : Value).ownBlock ∧ some k_ ≠ (.slice Ao49 t213.length co49 : Value).ownBlock) v232 t231) := ⟨h0_⟩
           have n1_ : Aside0 (Kd.R k41 41 w135 w.heap.size (fun k_ => some k_ ≠ (v232 : Value).ownBlock ∧ some k_ ≠ (.slice Ao31 t200.length co31 : Value).ownBlock ∧ some k_ ≠ (.slice Ao41 t225.length co41 : Value).ownBlock ∧ some k_ ≠ (.slice Ao49 t213.length co49 : Value).ownBlock) v238 t237) := ⟨h1_⟩
           have n2_ : Aside0 (Kd.R k41 41 w135 w.heap.size (fun k_ => some k_ ≠ (v232 : Value).ownBlock ∧ some k_ ≠ (v238 : Value).ownBlock ∧ some k_ ≠ (.slice Ao41 t225.length co41 : Value).ownBlock ∧ some k_ ≠ (.slice Ao49 t213.length co49 : Value).ownBlock) (.slice Ao31 t200.length co31) t200) := ⟨h2_⟩
           have n3_ : Aside0 (Kd.R k41 41 w135 w.heap.size (fun k_ => some k_ ≠ (v232 : Value).ownBlock ∧ some k_ ≠ (v238 : Value).ownBlock ∧ some k_ ≠ (.slice Ao31 t200.length co31 : Value).ownBlock ∧ some k_ ≠ (.slice Ao49 t213.length co49 : Value).ownBlock) (.slice Ao41 t225.length co41) t225) := ⟨h3_⟩
           have n4_ : Aside0 (Kd.R k41 41 w135 w.heap.size (fun k_ => some k_ ≠ (v232 : Value).ownBlock ∧ some k_ ≠ (v238 : Value).ownBlock ∧ some k_ ≠ (.slice Ao31 t200.length co31 : Value).ownBlock ∧ some k_ ≠ (.slice Ao41 t225.length co41 : Value).ownBlock) (.slice Ao49 t213.length co49) t228) := ⟨h4_⟩
           have n5_ : Aside0 (w135.heap[gb190]? = some (.cells #[.string a0_0, .slice A0_1 l0_1.length c0_1] 31 (0, 0))) := ⟨h5_⟩
           have n6_ : Aside0 (w135.heap[gb191]? = some (.cells #[.int .i64 a2_0, .int .i64 a2_1] 38 (0, 0))) := ⟨h6_⟩
           have n7_ : Aside0 (w135.heap[gb204]? = some (.cells #[.string t199, .slice Ao31 t200.length co31] 24 (0, 0))) := ⟨h7_⟩
           have n8_ : Aside0 (w135.heap[gb209]? = some (.cells #[.string t205, .slice Ao41 t225.length co41] 24 (0, 0))) := ⟨h8_⟩
           have n9_ : Aside0 (w135.heap[gb217]? = some (.cells #[.string t212, .slice Ao49 t213.length co49] 24 (0, 0))) := ⟨h9_⟩
           have n10_ : Aside0 (w135.heap[gb241]? = some (.cells #[.string (⟨#[]⟩ : ByteArray), .slice none 0 0] 24 (0, 0))) := ⟨h10_⟩
           have n11_ : Aside0 (w.heap.size ≤ gb241) := ⟨h11_⟩
           have n12_ : Aside0 (w.heap.size ≤ gb241) := ⟨h12_⟩
           have n13_ : Aside0 (gb190 ≠ gb241) := ⟨h13_⟩
           have n14_ : Aside0 (gb241 ≠ gb190) := ⟨h14_⟩
           have n15_ : Aside0 (gb191 ≠ gb241) := ⟨h15_⟩
           have n16_ : Aside0 (gb241 ≠ gb191) := ⟨h16_⟩
           have n17_ : Aside0 (gb204 ≠ gb241) := ⟨h17_⟩
           have n18_ : Aside0 (gb241 ≠ gb204) := ⟨h18_⟩
           have n19_ : Aside0 (gb209 ≠ gb241) := ⟨h19_⟩
           have n20_ : Aside0 (gb241 ≠ gb209) := ⟨h20_⟩
           have n21_ : Aside0 (gb217 ≠ gb241) := ⟨h21_⟩
           have n22_ : Aside0 (gb241 ≠ gb217) := ⟨h22_⟩
           have n23_ : Aside0 (Below w.heap.size w w135) := ⟨h23_⟩
           clear HO_205001
           clear HO_210001
           clear HO_218001
           clear BK190
           clear BK191
           clear BK204
           clear BK209
           clear BK217
           clear HB
           clear h0_ h1_ h2_ h3_ h4_ h5_ h6_ h7_ h8_ h9_ h10_ h11_ h12_ h13_ h14_ h15_ h16_ h17_ h18_ h19_ h20_ h21_ h22_ h23_
           have HO233 := n0_
           have HO239 := n1_
           have HO_205001 := n2_
           have HO_210001 := n3_
           have HO_218001 := n4_
           have BK190 := n5_
           have BK191 := n6_
           have BK204 := n7_
           have BK209 := n8_
           have BK217 := n9_
           have BK241 := n10_
           have GW241 := n11_
           have GE241 := n12_
           have NB190_241 := n13_
           have NB241_190 := n14_
           have NB191_241 := n15_
           have NB241_191 := n16_
           have NB204_241 := n17_
           have NB241_204 := n18_
           have NB209_241 := n19_
           have NB241_209 := n20_
           have NB217_241 := n21_
           have NB241_217 := n22_
           have HB := n23_
           clear n0_ n1_ n2_ n3_ n4_ n5_ n6_ n7_ n8_ n9_ n10_ n11_ n12_ n13_ n14_ n15_ n16_ n17_ n18_ n19_ n20_ n21_ n22_ n23_
           have hHeld : w135.cell? ⟨gb190, 0, none⟩ = some (.string a0_0) ∧ w135.cell? ⟨gb190, 1, none⟩ = some (.slice A0_1 l0_1.length c0_1) ∧ w135.cell? ⟨gb191, 0, none⟩ = some (.int .i64 a2_0) ∧ w135.cell? ⟨gb191, 1, none⟩ = some (.int .i64 a2_1) := hS_
           obtain ⟨Ao137, co137, eo137⟩ := Kd.R_slice HO239.out
           (first | subst eo137 | (injection eo137 with f1_ f2_ f3_; have f4_ := f1_.symm; have f5_ := f3_.symm; clear f1_ f2_ f3_; subst f4_; subst f5_))
           refine norm_ (a' := ?_) ?_ ?_
           rotate_left
           ·
            simp only [putAll, Act.put, List.setIfInBounds_toArray, List.set_cons_zero, List.set_cons_succ]
            rfl
           refine one_ (i := 10) (N := none) bl6_22 rfl rfl (one_of HT_.out (by kernel_rfl)) (by decide) (fun K hK => ?_)
           have hs136 : w135.cell? ⟨gb241, 0, none⟩ = some (.string (⟨#[]⟩ : ByteArray)) := (blk_cell BK241.out 0).trans rfl
           have hfs136 := blk_frozen BK241.out 0
           have hns136_0 := NB190_241.out
           have hns136_1 := NB191_241.out
           have hns136_2 := NB204_241.out
           have hns136_3 := NB209_241.out
           have hns136_4 := NB217_241.out
           have hms136_0 := NB241_190.out
           have hms136_1 := NB241_191.out
           have hms136_2 := NB241_204.out
           have hms136_3 := NB241_209.out
           have hms136_4 := NB241_217.out
           have hs138 : w135.cell? ⟨gb241, 1, none⟩ = some (.slice none 0 0) := (blk_cell BK241.out 1).trans rfl
           have hfs138 := blk_frozen BK241.out 1
           have hns138_0 := NB190_241.out
           have hns138_1 := NB191_241.out
           have hns138_2 := NB204_241.out
           have hns138_3 := NB209_241.out
           have hns138_4 := NB217_241.out
           have hms138_0 := NB241_190.out
           have hms138_1 := NB241_191.out
           have hms138_2 := NB241_204.out
           have hms138_3 := NB241_209.out
           have hms138_4 := NB241_217.out
           refine skip_ (w1 := ?_) (by rfl) rfl ?_ ?_
           rotate_left
           ·
            go_simp
            rfl
           refine hK.out _ _ ⟨((cell_far (p := ⟨gb241, _, none⟩) NB190_241.out _).trans (((cell_far (p := ⟨gb241, _, none⟩) NB190_241.out _).trans (hHeld.1)))), ((cell_far (p := ⟨gb241, _, none⟩) NB190_241.out _).trans (((cell_far (p := ⟨gb241, _, none⟩) NB190_241.out _).trans (hHeld.2.1)))), ((cell_far (p := ⟨gb241, _, none⟩) NB191_241.out _).trans (((cell_far (p := ⟨gb241, _, none⟩) NB191_241.out _).trans (hHeld.2.2.1)))), ((cell_far (p := ⟨gb241, _, none⟩) NB191_241.out _).trans (((cell_far (p := ⟨gb241, _, none⟩) NB191_241.out _).trans (hHeld.2.2.2))))⟩ (fun hHeld => ?_)
           clear hK K
           refine pure_ (i := 11) (N := some 17) (v := ?_) (a' := ?_) bl6_26 rfl rfl (any_of HT_.out (by kernel_rfl)) (fun _ _ _ h => h) (Or.inl ⟨by rfl, ?_⟩) ?_ ?_
           rotate_left
           ·
            intro w'
            go_simp
            with_reducible rfl
           rotate_left
           ·
            simp only [Act.put, sA, sZ, sS, i64_w, i32_w]
            rfl
           refine done_ (done_of HT_.out (by kernel_rfl)) ?_
           go_upto_region 25 with (fail)
           go_cut [100] (fun v100 wc => ∃ (kq : Nat) (x100_119 : Bool), v100 = .bool x100_119 ∧ Aside0 (laws_FnExactTuneTone.j2 kq t227 x100_119 t212 t228 = some true) ∧ Aside0 (kq ≤ kj77) ∧ Aside0 (Kd.R k41 41 wc w.heap.size (fun k_ => some k_ ≠ ((.slice Ao41 t225.length co41) : Value).ownBlock ∧ some k_ ≠ ((.slice Ao49 t213.length co49) : Value).ownBlock ∧ some k_ ≠ ((.slice Ao137 t237.length co137) : Value).ownBlock) (.slice Ao31 t200.length co31) t200) ∧ Aside0 (Kd.R k41 41 wc w.heap.size (fun k_ => some k_ ≠ ((.slice Ao31 t200.length co31) : Value).ownBlock ∧ some k_ ≠ ((.slice Ao49 t213.length co49) : Value).ownBlock ∧ some k_ ≠ ((.slice Ao137 t237.length co137) : Value).ownBlock) (.slice Ao41 t225.length co41) t225) ∧ Aside0 (Kd.R k41 41 wc w.heap.size (fun k_ => some k_ ≠ ((.slice Ao31 t200.length co31) : Value).ownBlock ∧ some k_ ≠ ((.slice Ao41 t225.length co41) : Value).ownBlock ∧ some k_ ≠ ((.slice Ao137 t237.length co137) : Value).ownBlock) (.slice Ao49 t213.length co49) t228) ∧ Aside0 (Kd.R k41 41 wc w.heap.size (fun k_ => some k_ ≠ ((.slice Ao31 t200.length co31) : Value).ownBlock ∧ some k_ ≠ ((.slice Ao41 t225.length co41) : Value).ownBlock ∧ some k_ ≠ ((.slice Ao49 t213.length co49) : Value).ownBlock) (.slice Ao137 t237.length co137) t237) ∧ Aside0 (wc.heap[gb190]? = some (.cells #[.string a0_0, (.slice A0_1 l0_1.length c0_1)] 31 (0, 0))) ∧ Aside0 (wc.heap[gb191]? = some (.cells #[.int .i64 a2_0, .int .i64 a2_1] 38 (0, 0))) ∧ Aside0 (wc.heap[gb204]? = some (.cells #[.string t199, (.slice Ao31 t200.length co31)] 24 (0, 0))) ∧ Aside0 (wc.heap[gb209]? = some (.cells #[.string t205, (.slice Ao41 t225.length co41)] 24 (0, 0))) ∧ Aside0 (wc.heap[gb217]? = some (.cells #[.string t212, (.slice Ao49 t213.length co49)] 24 (0, 0))) ∧ Aside0 (wc.heap[gb241]? = some (.cells #[.string t236, (.slice Ao137 t237.length co137)] 24 (0, 0))) ∧ Aside0 (Below w.heap.size w wc))
           case first =>
            have H := HC120.out
            clear HC120
            replace H := Option.bind_eq_some_iff.mp H
            obtain ⟨t242, A1390, H⟩ := H
            replace H : (if t242 = true then (laws_FnExactTuneTone.j2 kj77 t227 (t240 != t203) t212 t228) else (laws_FnExactTuneTone.j2 kj77 t227 true t212 t228)) = some true := H
            have A139 := Aside0.mk A1390
            clear A1390
            by_cases c140 : t242 = true
            ·
             subst c140
             have H1 : (laws_FnExactTuneTone.j2 kj77 t227 (t240 != t203) t212 t228) = some true := by rw [if_pos rfl] at H; exact H
             clear H
             have H := H1
             clear H1
             have H' := Aside0.mk H
             clear H
             have hnb141 := NB241_190.out
             have hnc141 := NB190_241.out
             have hnb142 := NB241_191.out
             have hnc142 := NB191_241.out
             have hnb143 := NB241_204.out
             have hnc143 := NB204_241.out
             have hnb144 := NB241_209.out
             have hnc144 := NB209_241.out
             have hnb145 := NB241_217.out
             have hnc145 := NB217_241.out
             have hcz146_0 : w135.cell? ⟨gb241, 0, none⟩ = some (.string (⟨#[]⟩ : ByteArray)) := (blk_cell BK241.out 0).trans rfl
             have hcz146_1 : w135.cell? ⟨gb241, 1, none⟩ = some (.slice none 0 0) := (blk_cell BK241.out 1).trans rfl
             have hfz146_0 := blk_frozen BK241.out 0
             have hfz146_1 := blk_frozen BK241.out 1
             have hnb147 := NB204_190.out
             have hnc147 := NB190_204.out
             have hnb148 := NB204_191.out
             have hnc148 := NB191_204.out
             have hnb149 := NB204_209.out
             have hnc149 := NB209_204.out
             have hnb150 := NB204_217.out
             have hnc150 := NB217_204.out
             have hcz151_0 : w135.cell? ⟨gb204, 0, none⟩ = some (.string t199) := (blk_cell BK204.out 0).trans rfl
             have hcz151_1 : w135.cell? ⟨gb204, 1, none⟩ = some (.slice Ao31 t200.length co31) := (blk_cell BK204.out 1).trans rfl
             have hfz151_0 := blk_frozen BK204.out 0
             have hfz151_1 := blk_frozen BK204.out 1
             go_wp2_with (first | ((with_reducible refine gate_callee (f := 12) rfl ?_); refine goesL_ (some 94) rfl rfl Try.func12 (by kernel_rfl) rfl #[.agg #[.string t236, .slice Ao137 t237.length co137], .agg #[.string t199, .slice Ao31 t200.length co31]] rfl (by (try simp only [List.map_toArray, List.map_cons, List.map_nil]); first | done | rfl | (simp only [List.length_drop, List.length_take]; rfl)) ?_; (with_reducible refine (laws_eqTuning.calls kj77 t236 _ _ t237 t199 _ _ t200 true _ ?side1 ?side2 ?side3 ?side4 A139.out).mono ?_); (case side1 => refine (Kd.R_reads' (e := 41) (base := w.heap.size) (ok := fun k_ => (some k_ ≠ (v232 : Value).ownBlock ∧ (some k_ ≠ (.slice Ao31 t200.length co31 : Value).ownBlock ∧ (some k_ ≠ (.slice Ao41 t225.length co41 : Value).ownBlock ∧ some k_ ≠ (.slice Ao49 t213.length co49 : Value).ownBlock)))) (n := t237.length) (c := co137) ?_).2.2; exact (by (with_reducible repeat (first | apply rA | apply rN | apply rD)); exact (Kd.R_mono (Kd.R_far (p := ⟨gb241, 1, none⟩) (Kd.R_far (p := ⟨gb241, 0, none⟩) (Kd.R_types HO239.out BK241.out (by decide)) (fun _ hk => hk.2) (.string t236)) (fun _ hk => hk.2) (.slice Ao137 t237.length co137)) (fun _ h_ => h_.1)))); (case side2 => exact (Kd.R_reads' HO239.out).2.1); (case side3 => refine (Kd.R_reads' (e := 41) (base := w.heap.size) (ok := fun k_ => (some k_ ≠ (v232 : Value).ownBlock ∧ (some k_ ≠ (.slice Ao137 t237.length co137 : Value).ownBlock ∧ (some k_ ≠ (.slice Ao41 t225.length co41 : Value).ownBlock ∧ some k_ ≠ (.slice Ao49 t213.length co49 : Value).ownBlock)))) (n := t200.length) (c := co31) ?_).2.2; exact (by (with_reducible repeat (first | apply rA | apply rN | apply rD)); exact (Kd.R_mono (Kd.R_far (p := ⟨gb241, 1, none⟩) (Kd.R_far (p := ⟨gb241, 0, none⟩) (Kd.R_types HO_205001.out BK241.out (by decide)) (fun _ hk => hk.2) (.string t236)) (fun _ hk => hk.2) (.slice Ao137 t237.length co137)) (fun _ h_ => h_.1)))); (case side4 => exact (Kd.R_reads' HO_205001.out).2.1); rintro e w152 ⟨rfl, hb⟩; refine ⟨_, rfl, ?_⟩; have n0_ := Aside0.mk (Kd.R_below (by (with_reducible repeat (first | apply rA | apply rN | apply rD)); exact (Kd.R_mono (Kd.R_far (p := ⟨gb241, 1, none⟩) (Kd.R_far (p := ⟨gb241, 0, none⟩) (Kd.R_types HO_205001.out BK241.out (by decide)) (fun _ hk => hk.2) (.string t236)) (fun _ hk => hk.2) (.slice Ao137 t237.length co137)) (fun _ h_ => h_.1))) hb); have n1_ := Aside0.mk (Kd.R_below (by (with_reducible repeat (first | apply rA | apply rN | apply rD)); exact (Kd.R_mono (Kd.R_far (p := ⟨gb241, 1, none⟩) (Kd.R_far (p := ⟨gb241, 0, none⟩) (Kd.R_types HO_210001.out BK241.out (by decide)) (fun _ hk => hk.2) (.string t236)) (fun _ hk => hk.2) (.slice Ao137 t237.length co137)) (fun _ h_ => h_.1))) hb); have n2_ := Aside0.mk (Kd.R_below (by (with_reducible repeat (first | apply rA | apply rN | apply rD)); exact (Kd.R_mono (Kd.R_far (p := ⟨gb241, 1, none⟩) (Kd.R_far (p := ⟨gb241, 0, none⟩) (Kd.R_types HO_218001.out BK241.out (by decide)) (fun _ hk => hk.2) (.string t236)) (fun _ hk => hk.2) (.slice Ao137 t237.length co137)) (fun _ h_ => h_.1))) hb); have n3_ := Aside0.mk (Kd.R_below (by (with_reducible repeat (first | apply rA | apply rN | apply rD)); exact (Kd.R_mono (Kd.R_far (p := ⟨gb241, 1, none⟩) (Kd.R_far (p := ⟨gb241, 0, none⟩) (Kd.R_types HO233.out BK241.out (by decide)) (fun _ hk => hk.2) (.string t236)) (fun _ hk => hk.2) (.slice Ao137 t237.length co137)) (fun _ h_ => h_.1))) hb); have n4_ := Aside0.mk (Kd.R_below (by (with_reducible repeat (first | apply rA | apply rN | apply rD)); exact (Kd.R_mono (Kd.R_far (p := ⟨gb241, 1, none⟩) (Kd.R_far (p := ⟨gb241, 0, none⟩) (Kd.R_types HO239.out BK241.out (by decide)) (fun _ hk => hk.2) (.string t236)) (fun _ hk => hk.2) (.slice Ao137 t237.length co137)) (fun _ h_ => h_.1))) hb); have n5_ := Aside0.mk (blk_below (g := gb190) (o := .cells #[.string a0_0, .slice A0_1 l0_1.length c0_1] 31 (0, 0)) (by (with_reducible repeat (first | refine kN ?_ _ | refine kD ?_ | refine kA ?_ _)); refine blk_far ?_ NB190_241.out _; (with_reducible repeat (first | refine kN ?_ _ | refine kD ?_ | refine kA ?_ _)); refine blk_far ?_ NB190_241.out _; (with_reducible repeat (first | refine kN ?_ _ | refine kD ?_ | refine kA ?_ _)); exact BK190.out) hb); have n6_ := Aside0.mk (blk_below (g := gb191) (o := .cells #[.int .i64 a2_0, .int .i64 a2_1] 38 (0, 0)) (by (with_reducible repeat (first | refine kN ?_ _ | refine kD ?_ | refine kA ?_ _)); refine blk_far ?_ NB191_241.out _; (with_reducible repeat (first | refine kN ?_ _ | refine kD ?_ | refine kA ?_ _)); refine blk_far ?_ NB191_241.out _; (with_reducible repeat (first | refine kN ?_ _ | refine kD ?_ | refine kA ?_ _)); exact BK191.out) hb); have n7_ := Aside0.mk (blk_below (g := gb204) (o := .cells #[.string t199, .slice Ao31 t200.length co31] 24 (0, 0)) (by (with_reducible repeat (first | refine kN ?_ _ | refine kD ?_ | refine kA ?_ _)); refine blk_far ?_ NB204_241.out _; (with_reducible repeat (first | refine kN ?_ _ | refine kD ?_ | refine kA ?_ _)); refine blk_far ?_ NB204_241.out _; (with_reducible repeat (first | refine kN ?_ _ | refine kD ?_ | refine kA ?_ _)); exact BK204.out) hb); have n8_ := Aside0.mk (blk_below (g := gb209) (o := .cells #[.string t205, .slice Ao41 t225.length co41] 24 (0, 0)) (by (with_reducible repeat (first | refine kN ?_ _ | refine kD ?_ | refine kA ?_ _)); refine blk_far ?_ NB209_241.out _; (with_reducible repeat (first | refine kN ?_ _ | refine kD ?_ | refine kA ?_ _)); refine blk_far ?_ NB209_241.out _; (with_reducible repeat (first | refine kN ?_ _ | refine kD ?_ | refine kA ?_ _)); exact BK209.out) hb); have n9_ := Aside0.mk (blk_below (g := gb217) (o := .cells #[.string t212, .slice Ao49 t213.length co49] 24 (0, 0)) (by (with_reducible repeat (first | refine kN ?_ _ | refine kD ?_ | refine kA ?_ _)); refine blk_far ?_ NB217_241.out _; (with_reducible repeat (first | refine kN ?_ _ | refine kD ?_ | refine kA ?_ _)); refine blk_far ?_ NB217_241.out _; (with_reducible repeat (first | refine kN ?_ _ | refine kD ?_ | refine kA ?_ _)); exact BK217.out) hb); have n10_ := Aside0.mk (blk_below (g := gb241) (o := .cells #[.string t236, .slice Ao137 t237.length co137] 24 (0, 0)) (by (with_reducible repeat (first | refine kN ?_ _ | refine kD ?_ | refine kA ?_ _)); refine blk_put (cs := #[.string t236, .slice none 0 0]) ?_ 1 _ rfl; (with_reducible repeat (first | refine kN ?_ _ | refine kD ?_ | refine kA ?_ _)); refine blk_put (cs := #[.string (⟨#[]⟩ : ByteArray), .slice none 0 0]) ?_ 0 _ rfl; (with_reducible repeat (first | refine kN ?_ _ | refine kD ?_ | refine kA ?_ _)); exact BK241.out) hb); have n11_ := Aside0.mk (below_step (by repeat (first | (with_reducible first | exact HB.out | apply bA | apply bN | apply bD | refine bS GE190.out ?_ | refine bS GE191.out ?_ | refine bS GE204.out ?_ | refine bS GE209.out ?_ | refine bS GE217.out ?_ | refine bS GE241.out ?_) | exact HB.out)) hb); clear HO_205001; clear HO_210001; clear HO_218001; clear HO233; clear HO239; clear BK190; clear BK191; clear BK204; clear BK209; clear BK217; clear BK241; clear HB; have HO_205001 := n0_; have HO_210001 := n1_; have HO_218001 := n2_; have HO233 := n3_; have HO239 := n4_; have BK190 := n5_; have BK191 := n6_; have BK204 := n7_; have BK209 := n8_; have BK217 := n9_; have BK241 := n10_; have HB := n11_; clear n0_ n1_ n2_ n3_ n4_ n5_ n6_ n7_ n8_ n9_ n10_ n11_; (try clear hb); (try clear hb2); (try clear hk); (try clear hi)))
             go_meet
             case rel => exact ⟨_, ((t240 != t203)), (by first | rfl | (simp; done) | (simp [*]; done)), H', ⟨by have := HJ16.out; have := HJ77.out; first | omega | exact Nat.le_refl _⟩, ⟨by (try simp only [hl210001_77]); (with_reducible repeat (first | apply rA | apply rN | apply rD)); exact Kd.R_mono HO_205001.out (fun _ hk => ⟨hk.2.2.1, ⟨hk.2.2.2, hk.2.1⟩⟩)⟩, ⟨by (try simp only [hl210001_77]); (with_reducible repeat (first | apply rA | apply rN | apply rD)); exact Kd.R_mono HO_210001.out (fun _ hk => ⟨hk.2.2.1, ⟨hk.2.2.2, hk.2.1⟩⟩)⟩, ⟨by (try simp only [hl210001_77]); (with_reducible repeat (first | apply rA | apply rN | apply rD)); exact Kd.R_mono HO_218001.out (fun _ hk => ⟨hk.2.2.1, ⟨hk.2.2.2, hk.2.1⟩⟩)⟩, ⟨by (try simp only [hl210001_77]); (with_reducible repeat (first | apply rA | apply rN | apply rD)); exact Kd.R_mono HO239.out (fun _ hk => ⟨hk.2.1, ⟨hk.2.2.1, hk.2.2.2⟩⟩)⟩, ⟨by (try simp only [hl210001_77]); (with_reducible repeat (first | refine kN ?_ _ | refine kD ?_ | refine kA ?_ _)); exact BK190.out⟩, ⟨by (try simp only [hl210001_77]); (with_reducible repeat (first | refine kN ?_ _ | refine kD ?_ | refine kA ?_ _)); exact BK191.out⟩, ⟨by (try simp only [hl210001_77]); (with_reducible repeat (first | refine kN ?_ _ | refine kD ?_ | refine kA ?_ _)); exact BK204.out⟩, ⟨by (try simp only [hl210001_77]); (with_reducible repeat (first | refine kN ?_ _ | refine kD ?_ | refine kA ?_ _)); exact BK209.out⟩, ⟨by (try simp only [hl210001_77]); (with_reducible repeat (first | refine kN ?_ _ | refine kD ?_ | refine kA ?_ _)); exact BK217.out⟩, ⟨by (try simp only [hl210001_77]); (with_reducible repeat (first | refine kN ?_ _ | refine kD ?_ | refine kA ?_ _)); exact BK241.out⟩, ⟨by repeat (first | (with_reducible first | exact HB.out | apply bA | apply bN | apply bD | refine bS GE190.out ?_ | refine bS GE191.out ?_ | refine bS GE204.out ?_ | refine bS GE209.out ?_ | refine bS GE217.out ?_ | refine bS GE241.out ?_) | exact HB.out)⟩⟩
            ·
             replace c140 := Bool.eq_false_iff.mpr c140
             subst c140
             have H1 : (laws_FnExactTuneTone.j2 kj77 t227 true t212 t228) = some true := by rw [if_neg (show ¬ (false = true) by decide)] at H; exact H
             exact absurd H1 (by cases kj77 <;> simp [laws_FnExactTuneTone.j2])
           case rest =>
            clear HC120
            try clear c1
            try clear c2
            try clear p2
            try clear c12
            try clear c14
            try clear c15
            try clear c16
            try clear c17
            try clear c22
            try clear c23
            try clear c140
            try clear c141
            try clear c142
            try clear c143
            try clear c144
            try clear c145
            try clear c147
            try clear c148
            try clear c149
            try clear c150
            try clear c153
            try clear c154
            try clear c155
            try clear c156
            try clear c157
            try clear c159
            try clear c160
            try clear c161
            try clear c162
            try clear hcz146_0
            try clear hcz146_1
            try clear hcz151_0
            try clear hcz151_1
            try clear hcz158_0
            try clear hcz158_1
            try clear hcz163_0
            try clear hcz163_1
            try clear hfz146_0
            try clear hfz146_1
            try clear hfz151_0
            try clear hfz151_1
            try clear hfz158_0
            try clear hfz158_1
            try clear hfz163_0
            try clear hfz163_1
            obtain ⟨kq, x100_119, rfl, HA, HJ119, HO_205001, HO_210001, HO_218001, HO_242001, BK190, BK191, BK204, BK209, BK217, BK241, HB⟩ := hcut
            have hl218001_119 := (Kd.R_reads' HO_218001.out).1
            rw [hl218001_119] at HO_218001
            (try simp only [hl218001_119])
            (try simp only [hl218001_119] at BK190)
            (try simp only [hl218001_119] at BK191)
            (try simp only [hl218001_119] at BK204)
            (try simp only [hl218001_119] at BK209)
            (try simp only [hl218001_119] at BK217)
            (try simp only [hl218001_119] at BK241)
            (try simp only [hl218001_119] at HO_205001)
            (try simp only [hl218001_119] at HO_210001)
            (try simp only [hl218001_119] at HO_242001)
            cases kq with
            | zero => exact absurd HA.out (by simp [laws_FnExactTuneTone.j2])
            | succ kj119 =>
             have H := HA.out
             clear HA
             simp only [laws_FnExactTuneTone.j2] at H
             by_cases c165 : x100_119 = true
             ·
              subst c165
              have H1 : (some false) = some true := by rw [if_pos rfl] at H; exact H
              clear H
              have H := H1
              clear H1
              exact absurd H (by simp)
             ·
              replace c165 := Bool.eq_false_iff.mpr c165
              subst c165
              have H1 : ((laws_heldTuning.f kj119 t212 t228 1).bind fun t243 => (if t243 < 0 then (some false) else (if t243 = t227 then (some true) else (some false)))) = some true := by rw [if_neg (show ¬ (false = true) by decide)] at H; exact H
              clear H
              have H := H1
              clear H1
              replace H := Option.bind_eq_some_iff.mp H
              obtain ⟨t243, A1660, H⟩ := H
              replace H : (if t243 < 0 then (some false) else (if t243 = t227 then (some true) else (some false))) = some true := H
              have A166 := Aside0.mk A1660
              clear A1660
              by_cases c167 : t243 < 0
              ·
               rw [if_pos c167] at H
               have c167b0 : decide (t243 < 0) = true := decide_eq_true c167
               clear c167
               exact absurd H (by simp)
              ·
               rw [if_neg c167] at H
               have c167b0 : decide (t243 < 0) = false := decide_eq_false c167
               clear c167
               by_cases c168 : t243 = t227
               ·
                rw [if_pos c168] at H
                have c168b0 : (t243 == t227) = true := beq_iff_eq.mpr c168
                have c168b1 : (t243 != t227) = false := bne_eq_false_iff_eq.mpr c168
                clear c168
                clear H
                have hnb169 := NB217_190.out
                have hnc169 := NB190_217.out
                have hnb170 := NB217_191.out
                have hnc170 := NB191_217.out
                have hnb171 := NB217_204.out
                have hnc171 := NB204_217.out
                have hnb172 := NB217_209.out
                have hnc172 := NB209_217.out
                have hnb173 := NB217_241.out
                have hnc173 := NB241_217.out
                have hcz174_0 : wc.cell? ⟨gb217, 0, none⟩ = some (.string t212) := (blk_cell BK217.out 0).trans rfl
                have hcz174_1 : wc.cell? ⟨gb217, 1, none⟩ = some (.slice Ao49 t228.length co49) := (blk_cell BK217.out 1).trans rfl
                have hfz174_0 := blk_frozen BK217.out 0
                have hfz174_1 := blk_frozen BK217.out 1
                go_wp2_with (first | ((with_reducible refine gate_callee (f := 14) rfl ?_); refine goesL_ (some 103) rfl rfl Try.func14 (by kernel_rfl) rfl #[.agg #[.string t212, .slice Ao49 t228.length co49], .int .i64 1] rfl (by (try simp only [List.map_toArray, List.map_cons, List.map_nil]); first | done | rfl | (simp only [List.length_drop, List.length_take]; rfl)) ?_; (with_reducible refine (laws_heldTuning.calls kj119 t212 _ _ t228 1 t243 _ ?side1 ?side2 A166.out).mono ?_); (case side1 => repeat (first | exact (Kd.R_reads' HO_218001.out).2.2 | (with_reducible refine Kd.C_alloc ?_ _) | (with_reducible refine Kd.C_drewN ?_ _) | (with_reducible refine Kd.C_drew ?_))); (case side2 => exact (Kd.R_reads' HO_218001.out).2.1); rintro e w175 ⟨rfl, hb⟩; refine ⟨_, rfl, ?_⟩; have n0_ := Aside0.mk (Kd.R_below (by (with_reducible repeat (first | apply rA | apply rN | apply rD)); exact HO_205001.out) hb); have n1_ := Aside0.mk (Kd.R_below (by (with_reducible repeat (first | apply rA | apply rN | apply rD)); exact HO_210001.out) hb); have n2_ := Aside0.mk (Kd.R_below (by (with_reducible repeat (first | apply rA | apply rN | apply rD)); exact HO_218001.out) hb); have n3_ := Aside0.mk (Kd.R_below (by (with_reducible repeat (first | apply rA | apply rN | apply rD)); exact HO_242001.out) hb); have n4_ := Aside0.mk (bB hb BK190.out); have n5_ := Aside0.mk (bB hb BK191.out); have n6_ := Aside0.mk (bB hb BK204.out); have n7_ := Aside0.mk (bB hb BK209.out); have n8_ := Aside0.mk (bB hb BK217.out); have n9_ := Aside0.mk (bB hb BK241.out); have n10_ := Aside0.mk (below_step (by repeat (first | (with_reducible first | exact HB.out | apply bA | apply bN | apply bD | refine bS GE190.out ?_ | refine bS GE191.out ?_ | refine bS GE204.out ?_ | refine bS GE209.out ?_ | refine bS GE217.out ?_ | refine bS GE241.out ?_) | exact HB.out)) hb); clear HO_205001; clear HO_210001; clear HO_218001; clear HO_242001; clear BK190; clear BK191; clear BK204; clear BK209; clear BK217; clear BK241; clear HB; have HO_205001 := n0_; have HO_210001 := n1_; have HO_218001 := n2_; have HO_242001 := n3_; have BK190 := n4_; have BK191 := n5_; have BK204 := n6_; have BK209 := n7_; have BK217 := n8_; have BK241 := n9_; have HB := n10_; clear n0_ n1_ n2_ n3_ n4_ n5_ n6_ n7_ n8_ n9_ n10_; (try clear hb); (try clear hb2); (try clear hk); (try clear hi)))
                go_ret
                exact ⟨by first | rfl | (simp [errW_none, errW_some] <;> rfl) | (simp [*, errW_none, errW_some] <;> rfl), by repeat (first | (with_reducible first | exact HB.out | apply bA | apply bN | apply bD | refine bS GE190.out ?_ | refine bS GE191.out ?_ | refine bS GE204.out ?_ | refine bS GE209.out ?_ | refine bS GE217.out ?_ | refine bS GE241.out ?_) | exact HB.out)⟩
               ·
                rw [if_neg c168] at H
                have c168b0 : (t243 == t227) = false := beq_eq_false_iff_ne.mpr c168
                have c168b1 : (t243 != t227) = true := bne_iff_ne.mpr c168
                exact absurd H (by simp)
          ·
           rw [if_neg c116] at H
           have c116b0 : (t229 == t227) = false := beq_eq_false_iff_ne.mpr c116
           have c116b1 : (t229 != t227) = true := bne_iff_ne.mpr c116
           exact absurd H (by simp)
     ·
      replace c76 := Bool.eq_false_iff.mpr c76
      subst c76
      have H1 : (some false) = some true := by rw [if_neg (show ¬ (false = true) by decide)] at H; exact H
      clear H
      have H := H1
      clear H1
      exact absurd H (by simp)

end Go.Proofs.Ytigjcobannhdlaa.PFnExactTuneTone
