/- The law AddrsetEvaluates answers true for every input and leaves its arguments as they were. No condition. (Part 5 of 6: the kit's printed words and walks, hand-made contracts and plain laws, joined in build order, without what the theorem does not reach.) -/
import Derived.Deep.Slices
import Derived.ChangeArms
import Derived.WideShapes
import Derived.DataElems
import Derived.Laws.EntriesVeiled
import Derived.IntWalk
import Derived.Shelf.Abstract
import Derived.Test.YtcgfpffgiimgmaaGAddrsetEvaluates4
section
namespace Go.Proofs.Ytcgfpffgiimgmaa.Q
open Go.RowKit Go.Proofs.YtcgfpffgiimgmaaW.PrintWords Go.Proofs.YtcgfpffgiimgmaaW.PrintLast Go.Proofs.YtcgfpffgiimgmaaW.PrintMore
attribute [local go_sem] max2_int min2_int max_two min_two max_three min_three max_four min_four
set_option linter.unusedVariables false
set_option linter.unusedSimpArgs false
mutual
def intrusionref07_Intersect.l0 : Nat → List (S66) → List (S66) → List (S66) → Int → Option ((List (S66)))
  | 0, _, _, _, _ => none
  | k + 1, x0, x1, x5, x6 => if x6 < (x0.length : Int) then (intrusionref07_Intersect.l1 k x0 x1 x5 x6 0) else (some x5)
def intrusionref07_Intersect.l1 : Nat → List (S66) → List (S66) → List (S66) → Int → Int → Option ((List (S66)))
  | 0, _, _, _, _, _ => none
  | k + 1, x0, x1, x5, x6, x7 => if x7 < (x1.length : Int) then (if 0 ≤ x6 then (if x6 < (x0.length : Int) then (if 0 ≤ x7 then ((intrusionref07_Some.f ((rd_T66 x0 x6).f0.f0) ((rd_T66 x0 x6).f0.f1) ((rd_T66 x0 x6).f0.f2) ((rd_T66 x0 x6).f1.f0) ((rd_T66 x0 x6).f1.f1) ((rd_T66 x0 x6).f1.f2)).bind fun t844 => (if t844 = true then ((intrusionref07_Some.f ((rd_T66 x1 x7).f0.f0) ((rd_T66 x1 x7).f0.f1) ((rd_T66 x1 x7).f0.f2) ((rd_T66 x1 x7).f1.f0) ((rd_T66 x1 x7).f1.f1) ((rd_T66 x1 x7).f1.f2)).bind fun t845 => (if t845 = true then (intrusionref07_Intersect.j2 k x0 x1 x5 x6 x7 (((rd_T66 x0 x6).f0.f0) != ((rd_T66 x1 x7).f0.f0)) ((rd_T66 x0 x6).f0.f0) ((rd_T66 x0 x6).f0.f1) ((rd_T66 x0 x6).f0.f2) ((rd_T66 x0 x6).f1.f0) ((rd_T66 x0 x6).f1.f1) ((rd_T66 x0 x6).f1.f2) ((rd_T66 x1 x7).f0.f0) ((rd_T66 x1 x7).f0.f1) ((rd_T66 x1 x7).f0.f2) ((rd_T66 x1 x7).f1.f0) ((rd_T66 x1 x7).f1.f1) ((rd_T66 x1 x7).f1.f2)) else (intrusionref07_Intersect.j2 k x0 x1 x5 x6 x7 true ((rd_T66 x0 x6).f0.f0) ((rd_T66 x0 x6).f0.f1) ((rd_T66 x0 x6).f0.f2) ((rd_T66 x0 x6).f1.f0) ((rd_T66 x0 x6).f1.f1) ((rd_T66 x0 x6).f1.f2) ((rd_T66 x1 x7).f0.f0) ((rd_T66 x1 x7).f0.f1) ((rd_T66 x1 x7).f0.f2) ((rd_T66 x1 x7).f1.f0) ((rd_T66 x1 x7).f1.f1) ((rd_T66 x1 x7).f1.f2)))) else (intrusionref07_Intersect.j2 k x0 x1 x5 x6 x7 true ((rd_T66 x0 x6).f0.f0) ((rd_T66 x0 x6).f0.f1) ((rd_T66 x0 x6).f0.f2) ((rd_T66 x0 x6).f1.f0) ((rd_T66 x0 x6).f1.f1) ((rd_T66 x0 x6).f1.f2) ((rd_T66 x1 x7).f0.f0) ((rd_T66 x1 x7).f0.f1) ((rd_T66 x1 x7).f0.f2) ((rd_T66 x1 x7).f1.f0) ((rd_T66 x1 x7).f1.f1) ((rd_T66 x1 x7).f1.f2)))) else (none)) else (none)) else (none)) else (intrusionref07_Intersect.l0 k x0 x1 x5 (wrap64 (x6 + 1)))
def intrusionref07_Intersect.j2 : Nat → List (S66) → List (S66) → List (S66) → Int → Int → Bool → Bool → Int → Int → Bool → Int → Int → Bool → Int → Int → Bool → Int → Int → Option ((List (S66)))
  | 0, _, _, _, _, _, _, _, _, _, _, _, _, _, _, _, _, _, _ => none
  | k + 1, x0, x1, x5, x6, x7, x46, x843000, x843001, x843002, x843003, x843004, x843005, x844000, x844001, x844002, x844003, x844004, x844005 => if x46 = true then (intrusionref07_Intersect.l1 k x0 x1 x5 x6 (wrap64 (x7 + 1))) else ((intrusionref07_Before.f x843000 x843001 x843002 x844000 x844001 x844002).bind fun t846 => (if t846 = true then (intrusionref07_Intersect.j3 k x0 x1 x5 x6 x7 x844000 x844001 x844002 x843003 x843004 x843005 x844000 x844001 x844002 x844003 x844004 x844005) else (intrusionref07_Intersect.j3 k x0 x1 x5 x6 x7 x843000 x843001 x843002 x843003 x843004 x843005 x844000 x844001 x844002 x844003 x844004 x844005)))
def intrusionref07_Intersect.j3 : Nat → List (S66) → List (S66) → List (S66) → Int → Int → Bool → Int → Int → Bool → Int → Int → Bool → Int → Int → Bool → Int → Int → Option ((List (S66)))
  | 0, _, _, _, _, _, _, _, _, _, _, _, _, _, _, _, _, _ => none
  | k + 1, x0, x1, x5, x6, x7, x843000, x843001, x843002, x843003, x843004, x843005, x844000, x844001, x844002, x844003, x844004, x844005 => (intrusionref07_Before.f x844003 x844004 x844005 x843003 x843004 x843005).bind fun t847 => (if t847 = true then (intrusionref07_Intersect.j4 k x0 x1 x5 x6 x7 x843000 x843001 x843002 x844003 x844004 x844005) else (intrusionref07_Intersect.j4 k x0 x1 x5 x6 x7 x843000 x843001 x843002 x843003 x843004 x843005))
def intrusionref07_Intersect.j4 : Nat → List (S66) → List (S66) → List (S66) → Int → Int → Bool → Int → Int → Bool → Int → Int → Option ((List (S66)))
  | 0, _, _, _, _, _, _, _, _, _, _, _ => none
  | k + 1, x0, x1, x5, x6, x7, x843000, x843001, x843002, x843003, x843004, x843005 => (intrusionref07_Some.f x843000 x843001 x843002 x843003 x843004 x843005).bind fun t848 => (if t848 = true then ((intrusionref07_add.f k x5 x843000 x843001 x843002 x843003 x843004 x843005).bind fun t849 => (intrusionref07_Intersect.l1 k x0 x1 t849 x6 (wrap64 (x7 + 1)))) else (intrusionref07_Intersect.l1 k x0 x1 x5 x6 (wrap64 (x7 + 1))))
end
def intrusionref07_Intersect.f (k : Nat) (l0 : List (S66)) (l1 : List (S66)) : Option ((List (S66))) := intrusionref07_Intersect.l0 k l0 l1 ([] : List (S66)) 0
theorem intrusionref07_Intersect.mono_l : ∀ k, (∀ y0 y1 y2 y3, LeO (intrusionref07_Intersect.l0 k y0 y1 y2 y3) (intrusionref07_Intersect.l0 (k + 1) y0 y1 y2 y3)) ∧ (∀ y0 y1 y2 y3 y4, LeO (intrusionref07_Intersect.l1 k y0 y1 y2 y3 y4) (intrusionref07_Intersect.l1 (k + 1) y0 y1 y2 y3 y4)) ∧ (∀ y0 y1 y2 y3 y4 y5 y6 y7 y8 y9 y10 y11 y12 y13 y14 y15 y16 y17, LeO (intrusionref07_Intersect.j2 k y0 y1 y2 y3 y4 y5 y6 y7 y8 y9 y10 y11 y12 y13 y14 y15 y16 y17) (intrusionref07_Intersect.j2 (k + 1) y0 y1 y2 y3 y4 y5 y6 y7 y8 y9 y10 y11 y12 y13 y14 y15 y16 y17)) ∧ (∀ y0 y1 y2 y3 y4 y5 y6 y7 y8 y9 y10 y11 y12 y13 y14 y15 y16, LeO (intrusionref07_Intersect.j3 k y0 y1 y2 y3 y4 y5 y6 y7 y8 y9 y10 y11 y12 y13 y14 y15 y16) (intrusionref07_Intersect.j3 (k + 1) y0 y1 y2 y3 y4 y5 y6 y7 y8 y9 y10 y11 y12 y13 y14 y15 y16)) ∧ (∀ y0 y1 y2 y3 y4 y5 y6 y7 y8 y9 y10, LeO (intrusionref07_Intersect.j4 k y0 y1 y2 y3 y4 y5 y6 y7 y8 y9 y10) (intrusionref07_Intersect.j4 (k + 1) y0 y1 y2 y3 y4 y5 y6 y7 y8 y9 y10))
  | 0 => ⟨fun _ _ _ _ r h => by simp [intrusionref07_Intersect.l0] at h, fun _ _ _ _ _ r h => by simp [intrusionref07_Intersect.l1] at h, fun _ _ _ _ _ _ _ _ _ _ _ _ _ _ _ _ _ _ r h => by simp [intrusionref07_Intersect.j2] at h, fun _ _ _ _ _ _ _ _ _ _ _ _ _ _ _ _ _ r h => by simp [intrusionref07_Intersect.j3] at h, fun _ _ _ _ _ _ _ _ _ _ _ r h => by simp [intrusionref07_Intersect.j4] at h⟩
  | k + 1 => by
    obtain ⟨ih0, ih1, ih2, ih3, ih4⟩ := intrusionref07_Intersect.mono_l k
    refine ⟨?_, ?_, ?_, ?_, ?_⟩
    · intro y0 y1 y2 y3
      unfold intrusionref07_Intersect.l0
      repeat' first
      | (with_reducible exact ih0 _ _ _ _)
      | (with_reducible exact ih1 _ _ _ _ _)
      | (with_reducible exact ih2 _ _ _ _ _ _ _ _ _ _ _ _ _ _ _ _ _ _)
      | (with_reducible exact ih3 _ _ _ _ _ _ _ _ _ _ _ _ _ _ _ _ _)
      | (with_reducible exact ih4 _ _ _ _ _ _ _ _ _ _ _)
      | (with_reducible exact intrusionref07_add.mono _ _ _ _ _ _ _ _)
      | (with_reducible exact LeO.refl _)
      | (with_reducible exact LeO.none _)
      | (with_reducible refine LeO.ite ?_ ?_)
      | (with_reducible refine LeO.bind ?_ (fun _ => ?_))
      | exact ih0 _ _ _ _
      | exact ih1 _ _ _ _ _
      | exact ih2 _ _ _ _ _ _ _ _ _ _ _ _ _ _ _ _ _ _
      | exact ih3 _ _ _ _ _ _ _ _ _ _ _ _ _ _ _ _ _
      | exact ih4 _ _ _ _ _ _ _ _ _ _ _
      | exact intrusionref07_add.mono _ _ _ _ _ _ _ _
      | exact LeO.none _
      | refine LeO.ite ?_ ?_
      | refine LeO.bind ?_ (fun _ => ?_)
    · intro y0 y1 y2 y3 y4
      unfold intrusionref07_Intersect.l1
      repeat' first
      | (with_reducible exact ih0 _ _ _ _)
      | (with_reducible exact ih1 _ _ _ _ _)
      | (with_reducible exact ih2 _ _ _ _ _ _ _ _ _ _ _ _ _ _ _ _ _ _)
      | (with_reducible exact ih3 _ _ _ _ _ _ _ _ _ _ _ _ _ _ _ _ _)
      | (with_reducible exact ih4 _ _ _ _ _ _ _ _ _ _ _)
      | (with_reducible exact intrusionref07_add.mono _ _ _ _ _ _ _ _)
      | (with_reducible exact LeO.refl _)
      | (with_reducible exact LeO.none _)
      | (with_reducible refine LeO.ite ?_ ?_)
      | (with_reducible refine LeO.bind ?_ (fun _ => ?_))
      | exact ih0 _ _ _ _
      | exact ih1 _ _ _ _ _
      | exact ih2 _ _ _ _ _ _ _ _ _ _ _ _ _ _ _ _ _ _
      | exact ih3 _ _ _ _ _ _ _ _ _ _ _ _ _ _ _ _ _
      | exact ih4 _ _ _ _ _ _ _ _ _ _ _
      | exact intrusionref07_add.mono _ _ _ _ _ _ _ _
      | exact LeO.none _
      | refine LeO.ite ?_ ?_
      | refine LeO.bind ?_ (fun _ => ?_)
    · intro y0 y1 y2 y3 y4 y5 y6 y7 y8 y9 y10 y11 y12 y13 y14 y15 y16 y17
      unfold intrusionref07_Intersect.j2
      repeat' first
      | (with_reducible exact ih0 _ _ _ _)
      | (with_reducible exact ih1 _ _ _ _ _)
      | (with_reducible exact ih2 _ _ _ _ _ _ _ _ _ _ _ _ _ _ _ _ _ _)
      | (with_reducible exact ih3 _ _ _ _ _ _ _ _ _ _ _ _ _ _ _ _ _)
      | (with_reducible exact ih4 _ _ _ _ _ _ _ _ _ _ _)
      | (with_reducible exact intrusionref07_add.mono _ _ _ _ _ _ _ _)
      | (with_reducible exact LeO.refl _)
      | (with_reducible exact LeO.none _)
      | (with_reducible refine LeO.ite ?_ ?_)
      | (with_reducible refine LeO.bind ?_ (fun _ => ?_))
      | exact ih0 _ _ _ _
      | exact ih1 _ _ _ _ _
      | exact ih2 _ _ _ _ _ _ _ _ _ _ _ _ _ _ _ _ _ _
      | exact ih3 _ _ _ _ _ _ _ _ _ _ _ _ _ _ _ _ _
      | exact ih4 _ _ _ _ _ _ _ _ _ _ _
      | exact intrusionref07_add.mono _ _ _ _ _ _ _ _
      | exact LeO.none _
      | refine LeO.ite ?_ ?_
      | refine LeO.bind ?_ (fun _ => ?_)
    · intro y0 y1 y2 y3 y4 y5 y6 y7 y8 y9 y10 y11 y12 y13 y14 y15 y16
      unfold intrusionref07_Intersect.j3
      repeat' first
      | (with_reducible exact ih0 _ _ _ _)
      | (with_reducible exact ih1 _ _ _ _ _)
      | (with_reducible exact ih2 _ _ _ _ _ _ _ _ _ _ _ _ _ _ _ _ _ _)
      | (with_reducible exact ih3 _ _ _ _ _ _ _ _ _ _ _ _ _ _ _ _ _)
      | (with_reducible exact ih4 _ _ _ _ _ _ _ _ _ _ _)
      | (with_reducible exact intrusionref07_add.mono _ _ _ _ _ _ _ _)
      | (with_reducible exact LeO.refl _)
      | (with_reducible exact LeO.none _)
      | (with_reducible refine LeO.ite ?_ ?_)
      | (with_reducible refine LeO.bind ?_ (fun _ => ?_))
      | exact ih0 _ _ _ _
      | exact ih1 _ _ _ _ _
      | exact ih2 _ _ _ _ _ _ _ _ _ _ _ _ _ _ _ _ _ _
      | exact ih3 _ _ _ _ _ _ _ _ _ _ _ _ _ _ _ _ _
      | exact ih4 _ _ _ _ _ _ _ _ _ _ _
      | exact intrusionref07_add.mono _ _ _ _ _ _ _ _
      | exact LeO.none _
      | refine LeO.ite ?_ ?_
      | refine LeO.bind ?_ (fun _ => ?_)
    · intro y0 y1 y2 y3 y4 y5 y6 y7 y8 y9 y10
      unfold intrusionref07_Intersect.j4
      repeat' first
      | (with_reducible exact ih0 _ _ _ _)
      | (with_reducible exact ih1 _ _ _ _ _)
      | (with_reducible exact ih2 _ _ _ _ _ _ _ _ _ _ _ _ _ _ _ _ _ _)
      | (with_reducible exact ih3 _ _ _ _ _ _ _ _ _ _ _ _ _ _ _ _ _)
      | (with_reducible exact ih4 _ _ _ _ _ _ _ _ _ _ _)
      | (with_reducible exact intrusionref07_add.mono _ _ _ _ _ _ _ _)
      | (with_reducible exact LeO.refl _)
      | (with_reducible exact LeO.none _)
      | (with_reducible refine LeO.ite ?_ ?_)
      | (with_reducible refine LeO.bind ?_ (fun _ => ?_))
      | exact ih0 _ _ _ _
      | exact ih1 _ _ _ _ _
      | exact ih2 _ _ _ _ _ _ _ _ _ _ _ _ _ _ _ _ _ _
      | exact ih3 _ _ _ _ _ _ _ _ _ _ _ _ _ _ _ _ _
      | exact ih4 _ _ _ _ _ _ _ _ _ _ _
      | exact intrusionref07_add.mono _ _ _ _ _ _ _ _
      | exact LeO.none _
      | refine LeO.ite ?_ ?_
      | refine LeO.bind ?_ (fun _ => ?_)
theorem intrusionref07_Intersect.mono : ∀ a0 a1 k, LeO (intrusionref07_Intersect.f k a0 a1) (intrusionref07_Intersect.f (k + 1) a0 a1) := by
  intro a0 a1 k
  obtain ⟨ih0, ih1, ih2, ih3, ih4⟩ := intrusionref07_Intersect.mono_l k
  unfold intrusionref07_Intersect.f
  repeat' first
      | (with_reducible exact ih0 _ _ _ _)
      | (with_reducible exact ih1 _ _ _ _ _)
      | (with_reducible exact ih2 _ _ _ _ _ _ _ _ _ _ _ _ _ _ _ _ _ _)
      | (with_reducible exact ih3 _ _ _ _ _ _ _ _ _ _ _ _ _ _ _ _ _)
      | (with_reducible exact ih4 _ _ _ _ _ _ _ _ _ _ _)
      | (with_reducible exact intrusionref07_add.mono _ _ _ _ _ _ _ _)
      | (with_reducible exact LeO.refl _)
      | (with_reducible exact LeO.none _)
      | (with_reducible refine LeO.ite ?_ ?_)
      | (with_reducible refine LeO.bind ?_ (fun _ => ?_))
      | exact ih0 _ _ _ _
      | exact ih1 _ _ _ _ _
      | exact ih2 _ _ _ _ _ _ _ _ _ _ _ _ _ _ _ _ _ _
      | exact ih3 _ _ _ _ _ _ _ _ _ _ _ _ _ _ _ _ _
      | exact ih4 _ _ _ _ _ _ _ _ _ _ _
      | exact intrusionref07_add.mono _ _ _ _ _ _ _ _
      | exact LeO.none _
      | refine LeO.ite ?_ ?_
      | refine LeO.bind ?_ (fun _ => ?_)
def intrusionref07_Intersect.T8 : Bool × List (List Nat × List Nat) := (true, [([], []), ([], []), ([0, 1], [0, 1]), ([2], [2]), ([], []), ([], []), ([4, 5], [4, 5]), ([6], [6]), ([], []), ([], []), ([8, 3, 0, 1, 2, 3, 8, 9], [3, 8]), ([9, 7, 10, 0, 1, 2, 3, 4, 5, 6, 7, 8, 9, 10], [7, 9])])
def intrusionref07_Intersect.B8 : List Nat := [0, 0, 3, 7, 0, 0, 48, 112, 0, 0, 783, 2047]
theorem intrusionref07_Intersect.tab8 : rtab .any (opsOf Try.f55 8) = intrusionref07_Intersect.T8 := by kernel_rfl
theorem intrusionref07_Intersect.bits8 : waitsOk intrusionref07_Intersect.T8.2 intrusionref07_Intersect.B8 = true := by kernel_rfl
set_option maxHeartbeats 8000000 in
set_option maxRecDepth 100000 in
theorem intrusionref07_Intersect.calls (k : Nat) (A0 : Option Addr) (c0 : Nat) (l0 : List (S66)) (A1 : Option Addr) (c1 : Nat) (l1 : List (S66)) (r : List (S66)) (w : World) (hr0 : Kd.C k66 w A0 l0.length l0) (hc0 : l0.length ≤ c0) (hr1 : Kd.C k66 w A1 l1.length l1) (hc1 : l1.length ≤ c1) (h : intrusionref07_Intersect.f k l0 l1 = some r) :
 Calls Try.prog 55 #[.slice A0 l0.length c0, .slice A1 l1.length c1] w fun e w' => ∃ v0_ : Value, e = .returned (v0_) ∧ Kd.R k66 66 w' w.heap.size (fun _ => True) v0_ r ∧ Below w.heap.size w w' := by
 have hu66 := Try.underlying66
 have hu36 := Try.underlying36
 have HR0 := Aside0.mk hr0
 have HC0 := Aside0.mk hc0
 clear hr0 hc0
 have HR1 := Aside0.mk hr1
 have HC1 := Aside0.mk hc1
 clear hr1 hc1
 have HB := Aside0.mk (Below.refl w.heap.size w)
 unfold intrusionref07_Intersect.f at h; have H := h
 clear h
 have H' := Aside0.mk H
 clear H
 go_enter Try.func55, Try.ntmps55
 go_wp2
 go_loopg [5, 6] k (fun kq v5 v6 w' => ∃ (x5_1 : List (S66)) (x6_1 : Int), v6 = .int .i64 x6_1 ∧ Aside0 (intrusionref07_Intersect.l0 kq l0 l1 x5_1 x6_1 = some r) ∧ Aside0 (kq ≤ k) ∧ Aside0 (Kd.R k66 66 w' w.heap.size (fun _ => True) v5 x5_1) ∧ Aside0 (Below w.heap.size w w'))
 case atStart => exact ⟨(([] : List (S66))), (0), (by first | rfl | (simp; done) | (simp [*]; done)), H', ⟨Nat.le_refl _⟩, ⟨by first | exact Kd.R_nil _ _ _ _ _ | exact Kd.N_nil _ _ _ _ _ | exact Kd.V_nil _ _ _ _ _ | exact Kd.Q_nil _ _ _ _ _ | exact Kd.S_nil _ _ _ _ _⟩, ⟨zB HB⟩⟩
 case round =>
  clear H'
  try clear c1
  try clear p2
  obtain ⟨x5_1, x6_1, rfl, HA, HK1, HO_5, HB⟩ := hrel
  cases gk with
  | zero => exact absurd HA.out (by simp [intrusionref07_Intersect.l0])
  | succ k1 =>
   have H := HA.out
   clear HA
   simp only [intrusionref07_Intersect.l0] at H
   by_cases c3 : x6_1 < (l0.length : Int)
   · rw [if_pos c3] at H
     have c3b0 : decide (x6_1 < (l0.length : Int)) = true := decide_eq_true c3
     clear c3
     have H' := Aside0.mk H
     clear H
     go_wp2
     go_loopg [5, 7] k1 (fun kq v5 v7 w' => ∃ (x5_2 : List (S66)) (x7_2 : Int), v7 = .int .i64 x7_2 ∧ Aside0 (intrusionref07_Intersect.l1 kq l0 l1 x5_2 x6_1 x7_2 = some r) ∧ Aside0 (kq ≤ k1) ∧ Aside0 (Kd.R k66 66 w' w.heap.size (fun _ => True) v5 x5_2) ∧ Aside0 (Below w.heap.size w w'))
     case atStart => exact ⟨(x5_1), (0), (by first | rfl | (simp; done) | (simp [*]; done)), H', ⟨Nat.le_refl _⟩, ⟨zR HO_5⟩, ⟨zB HB⟩⟩
     case round =>
      clear H'
      try clear c1
      try clear p2
      try clear c3
      try clear c3b0
      try clear p2
      obtain ⟨x5_2, x7_2, rfl, HA, HK2, HO_5, HB⟩ := hrel
      cases gk with
      | zero => exact absurd HA.out (by simp [intrusionref07_Intersect.l1])
      | succ k2 =>
       have H := HA.out
       clear HA
       simp only [intrusionref07_Intersect.l1] at H
       by_cases c4 : x7_2 < (l1.length : Int)
       · rw [if_pos c4] at H
         have c4b0 : decide (x7_2 < (l1.length : Int)) = true := decide_eq_true c4
         clear c4
         by_cases c5 : 0 ≤ x6_1
         · rw [if_pos c5] at H
           have c5b0 : decide (0 ≤ x6_1) = true := decide_eq_true c5
           clear c5
           by_cases c6 : x6_1 < (l0.length : Int)
           · rw [if_pos c6] at H
             have c6b0 : decide (x6_1 < (l0.length : Int)) = true := decide_eq_true c6
             clear c6
             by_cases c7 : 0 ≤ x7_2
             · rw [if_pos c7] at H
               have c7b0 : decide (0 ≤ x7_2) = true := decide_eq_true c7
               clear c7
               have HC8 := Aside0.mk H
               clear H
               try go_wp2
               replace HO_5 := Aside0.mk (Kd.R_drew HO_5.out)
               replace HB := Aside0.mk (below_drew1 HB.out)
               have p840 : 0 ≤ (x6_1 : Int) := za
               have q840 : x6_1 < (l0.length : Int) := za
               obtain ⟨ad840, e840, hx840_0, hx840_1, hx840_2, hx840_3, hx840_4, hx840_5⟩ := at_T66 HR0.out x6_1 p840 q840
               have hw840_5 := hx840_5
               have hw840_4 := hx840_4
               have hw840_3 := hx840_3
               have hw840_2 := hx840_2
               have hw840_1 := hx840_1
               have hw840_0 := hx840_0
               cases e840
               replace hx840_0 := zh HB hx840_0
               replace hx840_1 := zh HB hx840_1
               replace hx840_2 := zh HB hx840_2
               replace hx840_3 := zh HB hx840_3
               replace hx840_4 := zh HB hx840_4
               replace hx840_5 := zh HB hx840_5
               replace p840 := eq_true p840
               replace q840 := eq_true q840
               have p841 : 0 ≤ (x7_2 : Int) := za
               have q841 : x7_2 < (l1.length : Int) := za
               obtain ⟨ad841, e841, hx841_0, hx841_1, hx841_2, hx841_3, hx841_4, hx841_5⟩ := at_T66 HR1.out x7_2 p841 q841
               have hw841_5 := hx841_5
               have hw841_4 := hx841_4
               have hw841_3 := hx841_3
               have hw841_2 := hx841_2
               have hw841_1 := hx841_1
               have hw841_0 := hx841_0
               cases e841
               replace hx841_0 := zh HB hx841_0
               replace hx841_1 := zh HB hx841_1
               replace hx841_2 := zh HB hx841_2
               replace hx841_3 := zh HB hx841_3
               replace hx841_4 := zh HB hx841_4
               replace hx841_5 := zh HB hx841_5
               replace p841 := eq_true p841
               replace q841 := eq_true q841
               refine start_ (n := 12) (S := fun w' => w'.cell? (ad840.add ((x6_1).toNat * 6)) = some (.bool ((rd_T66 l0 x6_1).f0.f0)) ∧ w'.cell? ⟨(ad840.add ((x6_1).toNat * 6)).block, (ad840.add ((x6_1).toNat * 6)).off + 1, none⟩ = some (.int .u64 ((rd_T66 l0 x6_1).f0.f1)) ∧ w'.cell? ⟨(ad840.add ((x6_1).toNat * 6)).block, (ad840.add ((x6_1).toNat * 6)).off + 2, none⟩ = some (.int .u64 ((rd_T66 l0 x6_1).f0.f2)) ∧ w'.cell? ⟨(ad840.add ((x6_1).toNat * 6)).block, (ad840.add ((x6_1).toNat * 6)).off + 3, none⟩ = some (.bool ((rd_T66 l0 x6_1).f1.f0)) ∧ w'.cell? ⟨(ad840.add ((x6_1).toNat * 6)).block, (ad840.add ((x6_1).toNat * 6)).off + 4, none⟩ = some (.int .u64 ((rd_T66 l0 x6_1).f1.f1)) ∧ w'.cell? ⟨(ad840.add ((x6_1).toNat * 6)).block, (ad840.add ((x6_1).toNat * 6)).off + 5, none⟩ = some (.int .u64 ((rd_T66 l0 x6_1).f1.f2)) ∧ w'.cell? (ad841.add ((x7_2).toNat * 6)) = some (.bool ((rd_T66 l1 x7_2).f0.f0)) ∧ w'.cell? ⟨(ad841.add ((x7_2).toNat * 6)).block, (ad841.add ((x7_2).toNat * 6)).off + 1, none⟩ = some (.int .u64 ((rd_T66 l1 x7_2).f0.f1)) ∧ w'.cell? ⟨(ad841.add ((x7_2).toNat * 6)).block, (ad841.add ((x7_2).toNat * 6)).off + 2, none⟩ = some (.int .u64 ((rd_T66 l1 x7_2).f0.f2)) ∧ w'.cell? ⟨(ad841.add ((x7_2).toNat * 6)).block, (ad841.add ((x7_2).toNat * 6)).off + 3, none⟩ = some (.bool ((rd_T66 l1 x7_2).f1.f0)) ∧ w'.cell? ⟨(ad841.add ((x7_2).toNat * 6)).block, (ad841.add ((x7_2).toNat * 6)).off + 4, none⟩ = some (.int .u64 ((rd_T66 l1 x7_2).f1.f1)) ∧ w'.cell? ⟨(ad841.add ((x7_2).toNat * 6)).block, (ad841.add ((x7_2).toNat * 6)).off + 5, none⟩ = some (.int .u64 ((rd_T66 l1 x7_2).f1.f2))) (ds := []) #[false, false, false, false, false, false, false, false, false, false, false, false] (by kernel_rfl) rfl rfl ⟨(zh HB hw840_0), (zh HB hw840_1), (zh HB hw840_2), (zh HB hw840_3), (zh HB hw840_4), (zh HB hw840_5), (zh HB hw841_0), (zh HB hw841_1), (zh HB hw841_2), (zh HB hw841_3), (zh HB hw841_4), (zh HB hw841_5)⟩ (fun hHeld => ?_); refine with_tabW intrusionref07_Intersect.tab8 intrusionref07_Intersect.bits8 (fun HT_ HW_ => ?_)
               generalize wr.drew = w9 at HO_5 HB hx840_0 hx840_1 hx840_2 hx840_3 hx840_4 hx840_5 hx841_0 hx841_1 hx841_2 hx841_3 hx841_4 hx841_5 hHeld ⊢
               refine zp 0 22 HT_ ?_; refine zp 1 23 HT_ ?_; refine zp 2 24 HT_ ?_; refine zp 4 26 HT_ ?_; refine zp 5 27 HT_ ?_; refine zp 6 28 HT_ ?_; refine zt 3 25 HT_ HW_ hHeld ?_; refine zt 7 29 HT_ HW_ hHeld ?_
               refine join_ (σ := Nat × Nat) 2 #[true, true, true, true, true, true, true, true, true, true, false, false] (fun s_ => [(8, .pointer (some ⟨s_.1, 0, none⟩)), (9, .pointer (some ⟨s_.2, 0, none⟩))]) (fun s_ w' => (w'.cell? (ad840.add ((x6_1).toNat * 6)) = some (.bool ((rd_T66 l0 x6_1).f0.f0)) ∧ w'.cell? ⟨(ad840.add ((x6_1).toNat * 6)).block, (ad840.add ((x6_1).toNat * 6)).off + 1, none⟩ = some (.int .u64 ((rd_T66 l0 x6_1).f0.f1)) ∧ w'.cell? ⟨(ad840.add ((x6_1).toNat * 6)).block, (ad840.add ((x6_1).toNat * 6)).off + 2, none⟩ = some (.int .u64 ((rd_T66 l0 x6_1).f0.f2)) ∧ w'.cell? ⟨(ad840.add ((x6_1).toNat * 6)).block, (ad840.add ((x6_1).toNat * 6)).off + 3, none⟩ = some (.bool ((rd_T66 l0 x6_1).f1.f0)) ∧ w'.cell? ⟨(ad840.add ((x6_1).toNat * 6)).block, (ad840.add ((x6_1).toNat * 6)).off + 4, none⟩ = some (.int .u64 ((rd_T66 l0 x6_1).f1.f1)) ∧ w'.cell? ⟨(ad840.add ((x6_1).toNat * 6)).block, (ad840.add ((x6_1).toNat * 6)).off + 5, none⟩ = some (.int .u64 ((rd_T66 l0 x6_1).f1.f2)) ∧ w'.cell? (ad841.add ((x7_2).toNat * 6)) = some (.bool ((rd_T66 l1 x7_2).f0.f0)) ∧ w'.cell? ⟨(ad841.add ((x7_2).toNat * 6)).block, (ad841.add ((x7_2).toNat * 6)).off + 1, none⟩ = some (.int .u64 ((rd_T66 l1 x7_2).f0.f1)) ∧ w'.cell? ⟨(ad841.add ((x7_2).toNat * 6)).block, (ad841.add ((x7_2).toNat * 6)).off + 2, none⟩ = some (.int .u64 ((rd_T66 l1 x7_2).f0.f2)) ∧ w'.cell? ⟨(ad841.add ((x7_2).toNat * 6)).block, (ad841.add ((x7_2).toNat * 6)).off + 3, none⟩ = some (.bool ((rd_T66 l1 x7_2).f1.f0)) ∧ w'.cell? ⟨(ad841.add ((x7_2).toNat * 6)).block, (ad841.add ((x7_2).toNat * 6)).off + 4, none⟩ = some (.int .u64 ((rd_T66 l1 x7_2).f1.f1)) ∧ w'.cell? ⟨(ad841.add ((x7_2).toNat * 6)).block, (ad841.add ((x7_2).toNat * 6)).off + 5, none⟩ = some (.int .u64 ((rd_T66 l1 x7_2).f1.f2))) ∧ (Kd.R k66 66 w' w.heap.size (fun k_ => k_ ≠ s_.1 ∧ k_ ≠ s_.2) u5 x5_2) ∧ (w'.heap[s_.1]? = some (.cells #[.bool false, .int .u64 0, .int .u64 0, .bool false, .int .u64 0, .int .u64 0] 66 (0, 0))) ∧ (w'.heap[s_.2]? = some (.cells #[.bool false, .int .u64 0, .int .u64 0, .bool false, .int .u64 0, .int .u64 0] 66 (0, 0))) ∧ (w.heap.size ≤ s_.1) ∧ (w.heap.size ≤ s_.1) ∧ (s_.2 ≠ s_.1) ∧ (s_.1 ≠ s_.2) ∧ (w.heap.size ≤ s_.2) ∧ (w.heap.size ≤ s_.2) ∧ (Below w.heap.size w w')) ?_ ?_
               rotate_left
               · intro hCont
                 refine two_ (i := 8) (j := 9) (Ni := some 8) (Nj := some 9) #[true, true, true, true, true, true, true, true, true, false, false, false] #[true, true, true, true, true, true, true, true, false, true, false, false] rfl rfl rfl rfl (two_of HT_.out (by kernel_rfl)) (by decide) (by decide) (fun K hK => ?_) (fun K hK => ?_)
                 · skip
                   refine box_step ?hg (N := 8) ?hd (cs := #[.bool false, .int .u64 0, .int .u64 0, .bool false, .int .u64 0, .int .u64 0]) (t := 66) ?hr ?_; (case hd => rfl); (case hg => rfl); (case hr => first | (go_simp; done) | (go_simp; rfl))
                   intro gb842 hg w10 hbox hb
                   replace HO_5 := Aside0.mk (Kd.R_below (Kd.R_elderB (zR HO_5) gb842 (Nat.le_of_eq hg.symm)) hb)
                   have BK842 := Aside0.mk (hbox)
                   have GW842 := Aside0.mk ((by rw [hg]; exact (below_size (zB HB)) : w.heap.size ≤ gb842))
                   have GE842 := Aside0.mk ((by rw [hg]; exact (below_size (zB HB)) : w.heap.size ≤ gb842))
                   replace HB := Aside0.mk (below_step (zB HB) hb)
                   clear hb hbox hg
                   refine hK.out _ _ ⟨(zh HB hw840_0), (zh HB hw840_1), (zh HB hw840_2), (zh HB hw840_3), (zh HB hw840_4), (zh HB hw840_5), (zh HB hw841_0), (zh HB hw841_1), (zh HB hw841_2), (zh HB hw841_3), (zh HB hw841_4), (zh HB hw841_5)⟩ (fun hHeld => ?_)
                   clear hK K
                   refine zn 8 ?_; refine zo 9 9 HT_ (fun K hK => ?_)
                   refine box_step ?hg (N := 9) ?hd (cs := #[.bool false, .int .u64 0, .int .u64 0, .bool false, .int .u64 0, .int .u64 0]) (t := 66) ?hr ?_; (case hd => rfl); (case hg => rfl); (case hr => first | (go_simp; done) | (go_simp; rfl))
                   intro gb843 hg w11 hbox hb
                   replace HO_5 := Aside0.mk (Kd.R_below (Kd.R_elderB (zR HO_5) gb843 (Nat.le_of_eq hg.symm)) hb)
                   have BK843 := Aside0.mk (hbox)
                   have GW843 := Aside0.mk ((by rw [hg]; exact (below_size (zB HB)) : w.heap.size ≤ gb843))
                   have GE843 := Aside0.mk ((by rw [hg]; exact (below_size (zB HB)) : w.heap.size ≤ gb843))
                   replace HB := Aside0.mk (below_step (zB HB) hb)
                   have NB842_843 := Aside0.mk ((by rw [hg]; exact Nat.ne_of_lt (blk_lt (g := gb842) (o := .cells #[.bool false, .int .u64 0, .int .u64 0, .bool false, .int .u64 0, .int .u64 0] 66 (0, 0)) (zK BK842)) : gb842 ≠ gb843))
                   have NB843_842 := Aside0.mk ((by rw [hg]; exact Nat.ne_of_gt (blk_lt (g := gb842) (o := .cells #[.bool false, .int .u64 0, .int .u64 0, .bool false, .int .u64 0, .int .u64 0] 66 (0, 0)) (zK BK842)) : gb843 ≠ gb842))
                   replace BK842 := Aside0.mk (blk_below (g := gb842) (o := .cells #[.bool false, .int .u64 0, .int .u64 0, .bool false, .int .u64 0, .int .u64 0] 66 (0, 0)) (zK BK842) hb)
                   clear hb hbox hg
                   refine hK.out _ _ ⟨(zh HB hw840_0), (zh HB hw840_1), (zh HB hw840_2), (zh HB hw840_3), (zh HB hw840_4), (zh HB hw840_5), (zh HB hw841_0), (zh HB hw841_1), (zh HB hw841_2), (zh HB hw841_3), (zh HB hw841_4), (zh HB hw841_5)⟩ (fun hHeld => ?_)
                   clear hK K
                   refine zn 9 ?_
                   exact norm_ (by simp only [putAll, Act.put, List.setIfInBounds_toArray, List.set_cons_zero, List.set_cons_succ]) (hCont (gb842, gb843) _ ⟨hHeld, (by (with_reducible repeat (first | apply Kd.R_alloc | apply Kd.R_drewN | apply Kd.R_drew)); exact Kd.R_mono HO_5.out (fun _ hk => ⟨hk.1.2, hk.2⟩)), (zK BK842), (zK BK843), GW842.out, GE842.out, NB843_842.out, NB842_843.out, GW843.out, GE843.out, (zB HB)⟩)
                 · skip
                   refine box_step ?hg (N := 9) ?hd (cs := #[.bool false, .int .u64 0, .int .u64 0, .bool false, .int .u64 0, .int .u64 0]) (t := 66) ?hr ?_; (case hd => rfl); (case hg => rfl); (case hr => first | (go_simp; done) | (go_simp; rfl))
                   intro gb843 hg w10 hbox hb
                   replace HO_5 := Aside0.mk (Kd.R_below (Kd.R_elderB (zR HO_5) gb843 (Nat.le_of_eq hg.symm)) hb)
                   have BK843 := Aside0.mk (hbox)
                   have GW843 := Aside0.mk ((by rw [hg]; exact (below_size (zB HB)) : w.heap.size ≤ gb843))
                   have GE843 := Aside0.mk ((by rw [hg]; exact (below_size (zB HB)) : w.heap.size ≤ gb843))
                   replace HB := Aside0.mk (below_step (zB HB) hb)
                   clear hb hbox hg
                   refine hK.out _ _ ⟨(zh HB hw840_0), (zh HB hw840_1), (zh HB hw840_2), (zh HB hw840_3), (zh HB hw840_4), (zh HB hw840_5), (zh HB hw841_0), (zh HB hw841_1), (zh HB hw841_2), (zh HB hw841_3), (zh HB hw841_4), (zh HB hw841_5)⟩ (fun hHeld => ?_)
                   clear hK K
                   refine zn 9 ?_; refine zo 8 8 HT_ (fun K hK => ?_)
                   refine box_step ?hg (N := 8) ?hd (cs := #[.bool false, .int .u64 0, .int .u64 0, .bool false, .int .u64 0, .int .u64 0]) (t := 66) ?hr ?_; (case hd => rfl); (case hg => rfl); (case hr => first | (go_simp; done) | (go_simp; rfl))
                   intro gb842 hg w11 hbox hb
                   replace HO_5 := Aside0.mk (Kd.R_below (Kd.R_elderB (zR HO_5) gb842 (Nat.le_of_eq hg.symm)) hb)
                   have BK842 := Aside0.mk (hbox)
                   have GW842 := Aside0.mk ((by rw [hg]; exact (below_size (zB HB)) : w.heap.size ≤ gb842))
                   have GE842 := Aside0.mk ((by rw [hg]; exact (below_size (zB HB)) : w.heap.size ≤ gb842))
                   replace HB := Aside0.mk (below_step (zB HB) hb)
                   have NB843_842 := Aside0.mk ((by rw [hg]; exact Nat.ne_of_lt (blk_lt (g := gb843) (o := .cells #[.bool false, .int .u64 0, .int .u64 0, .bool false, .int .u64 0, .int .u64 0] 66 (0, 0)) (zK BK843)) : gb843 ≠ gb842))
                   have NB842_843 := Aside0.mk ((by rw [hg]; exact Nat.ne_of_gt (blk_lt (g := gb843) (o := .cells #[.bool false, .int .u64 0, .int .u64 0, .bool false, .int .u64 0, .int .u64 0] 66 (0, 0)) (zK BK843)) : gb842 ≠ gb843))
                   replace BK843 := Aside0.mk (blk_below (g := gb843) (o := .cells #[.bool false, .int .u64 0, .int .u64 0, .bool false, .int .u64 0, .int .u64 0] 66 (0, 0)) (zK BK843) hb)
                   clear hb hbox hg
                   refine hK.out _ _ ⟨(zh HB hw840_0), (zh HB hw840_1), (zh HB hw840_2), (zh HB hw840_3), (zh HB hw840_4), (zh HB hw840_5), (zh HB hw841_0), (zh HB hw841_1), (zh HB hw841_2), (zh HB hw841_3), (zh HB hw841_4), (zh HB hw841_5)⟩ (fun hHeld => ?_)
                   clear hK K
                   refine zn 8 ?_
                   exact norm_ (by simp only [putAll, Act.put, List.setIfInBounds_toArray, List.set_cons_zero, List.set_cons_succ]) (hCont (gb842, gb843) _ ⟨hHeld, (by (with_reducible repeat (first | apply Kd.R_alloc | apply Kd.R_drewN | apply Kd.R_drew)); exact Kd.R_mono HO_5.out (fun _ hk => ⟨hk.2, hk.1.2⟩)), (zK BK842), (zK BK843), GW842.out, GE842.out, NB843_842.out, NB842_843.out, GW843.out, GE843.out, (zB HB)⟩)
               rintro ⟨gb842, gb843⟩ w12 ⟨hS_, h0_, h1_, h2_, h3_, h4_, h5_, h6_, h7_, h8_, h9_⟩
               have n0_ : Aside0 (Kd.R k66 66 w12 w.heap.size (fun k_ => k_ ≠ gb842 ∧ k_ ≠ gb843) u5 x5_2) := ⟨h0_⟩
               have n1_ : Aside0 (w12.heap[gb842]? = some (.cells #[.bool false, .int .u64 0, .int .u64 0, .bool false, .int .u64 0, .int .u64 0] 66 (0, 0))) := ⟨h1_⟩
               have n2_ : Aside0 (w12.heap[gb843]? = some (.cells #[.bool false, .int .u64 0, .int .u64 0, .bool false, .int .u64 0, .int .u64 0] 66 (0, 0))) := ⟨h2_⟩
               have n3_ : Aside0 (w.heap.size ≤ gb842) := ⟨h3_⟩
               have n4_ : Aside0 (w.heap.size ≤ gb842) := ⟨h4_⟩
               have n5_ : Aside0 (gb843 ≠ gb842) := ⟨h5_⟩
               have n6_ : Aside0 (gb842 ≠ gb843) := ⟨h6_⟩
               have n7_ : Aside0 (w.heap.size ≤ gb843) := ⟨h7_⟩
               have n8_ : Aside0 (w.heap.size ≤ gb843) := ⟨h8_⟩
               have n9_ : Aside0 (Below w.heap.size w w12) := ⟨h9_⟩
               clear HO_5
               clear HB
               clear h0_ h1_ h2_ h3_ h4_ h5_ h6_ h7_ h8_ h9_
               have HO_5 := n0_
               have BK842 := n1_
               have BK843 := n2_
               have GW842 := n3_
               have GE842 := n4_
               have NB843_842 := n5_
               have NB842_843 := n6_
               have GW843 := n7_
               have GE843 := n8_
               have HB := n9_
               clear n0_ n1_ n2_ n3_ n4_ n5_ n6_ n7_ n8_ n9_
               have hHeld : w12.cell? (ad840.add ((x6_1).toNat * 6)) = some (.bool ((rd_T66 l0 x6_1).f0.f0)) ∧ w12.cell? ⟨(ad840.add ((x6_1).toNat * 6)).block, (ad840.add ((x6_1).toNat * 6)).off + 1, none⟩ = some (.int .u64 ((rd_T66 l0 x6_1).f0.f1)) ∧ w12.cell? ⟨(ad840.add ((x6_1).toNat * 6)).block, (ad840.add ((x6_1).toNat * 6)).off + 2, none⟩ = some (.int .u64 ((rd_T66 l0 x6_1).f0.f2)) ∧ w12.cell? ⟨(ad840.add ((x6_1).toNat * 6)).block, (ad840.add ((x6_1).toNat * 6)).off + 3, none⟩ = some (.bool ((rd_T66 l0 x6_1).f1.f0)) ∧ w12.cell? ⟨(ad840.add ((x6_1).toNat * 6)).block, (ad840.add ((x6_1).toNat * 6)).off + 4, none⟩ = some (.int .u64 ((rd_T66 l0 x6_1).f1.f1)) ∧ w12.cell? ⟨(ad840.add ((x6_1).toNat * 6)).block, (ad840.add ((x6_1).toNat * 6)).off + 5, none⟩ = some (.int .u64 ((rd_T66 l0 x6_1).f1.f2)) ∧ w12.cell? (ad841.add ((x7_2).toNat * 6)) = some (.bool ((rd_T66 l1 x7_2).f0.f0)) ∧ w12.cell? ⟨(ad841.add ((x7_2).toNat * 6)).block, (ad841.add ((x7_2).toNat * 6)).off + 1, none⟩ = some (.int .u64 ((rd_T66 l1 x7_2).f0.f1)) ∧ w12.cell? ⟨(ad841.add ((x7_2).toNat * 6)).block, (ad841.add ((x7_2).toNat * 6)).off + 2, none⟩ = some (.int .u64 ((rd_T66 l1 x7_2).f0.f2)) ∧ w12.cell? ⟨(ad841.add ((x7_2).toNat * 6)).block, (ad841.add ((x7_2).toNat * 6)).off + 3, none⟩ = some (.bool ((rd_T66 l1 x7_2).f1.f0)) ∧ w12.cell? ⟨(ad841.add ((x7_2).toNat * 6)).block, (ad841.add ((x7_2).toNat * 6)).off + 4, none⟩ = some (.int .u64 ((rd_T66 l1 x7_2).f1.f1)) ∧ w12.cell? ⟨(ad841.add ((x7_2).toNat * 6)).block, (ad841.add ((x7_2).toNat * 6)).off + 5, none⟩ = some (.int .u64 ((rd_T66 l1 x7_2).f1.f2)) := hS_
               refine norm_ (a' := ?_) ?_ ?_
               rotate_left
               · simp only [putAll, Act.put, List.setIfInBounds_toArray, List.set_cons_zero, List.set_cons_succ]
                 rfl
               refine one_ (i := 10) (N := none) #[true, true, true, true, true, true, true, true, true, true, true, false] rfl rfl (one_of HT_.out (by kernel_rfl)) (by decide) (fun K hK => ?_)
               have hs13 : w12.cell? ⟨gb842, 0, none⟩ = some (.bool false) := zc BK842 0
               have hfs13 := blk_frozen BK842.out 0
               have hns13_1 := NB843_842.out
               have hms13_1 := NB842_843.out
               have hs14 : w12.cell? ⟨gb842, 1, none⟩ = some (.int .u64 0) := zc BK842 1
               have hfs14 := blk_frozen BK842.out 1
               have hns14_1 := NB843_842.out
               have hms14_1 := NB842_843.out
               have hs15 : w12.cell? ⟨gb842, 2, none⟩ = some (.int .u64 0) := zc BK842 2
               have hfs15 := blk_frozen BK842.out 2
               have hns15_1 := NB843_842.out
               have hms15_1 := NB842_843.out
               have hs16 : w12.cell? ⟨gb842, 3, none⟩ = some (.bool false) := zc BK842 3
               have hfs16 := blk_frozen BK842.out 3
               have hns16_1 := NB843_842.out
               have hms16_1 := NB842_843.out
               have hs17 : w12.cell? ⟨gb842, 4, none⟩ = some (.int .u64 0) := zc BK842 4
               have hfs17 := blk_frozen BK842.out 4
               have hns17_1 := NB843_842.out
               have hms17_1 := NB842_843.out
               have hs18 : w12.cell? ⟨gb842, 5, none⟩ = some (.int .u64 0) := zc BK842 5
               have hfs18 := blk_frozen BK842.out 5
               have hns18_1 := NB843_842.out
               have hms18_1 := NB842_843.out
               refine skip_ (w1 := ?_) (by rfl) rfl ?_ ?_
               rotate_left
               · go_simp
                 rfl
               refine hK.out _ _ ⟨((cell_far (p := ⟨gb842, _, none⟩) (zw hw840_0 GW842) _).trans (((cell_far (p := ⟨gb842, _, none⟩) (zw hw840_0 GW842) _).trans (((cell_far (p := ⟨gb842, _, none⟩) (zw hw840_0 GW842) _).trans (((cell_far (p := ⟨gb842, _, none⟩) (zw hw840_0 GW842) _).trans (((cell_far (p := ⟨gb842, _, none⟩) (zw hw840_0 GW842) _).trans (((cell_far (p := ⟨gb842, _, none⟩) (zw hw840_0 GW842) _).trans (hHeld.1)))))))))))), ((cell_far (p := ⟨gb842, _, none⟩) (zw hw840_1 GW842) _).trans (((cell_far (p := ⟨gb842, _, none⟩) (zw hw840_1 GW842) _).trans (((cell_far (p := ⟨gb842, _, none⟩) (zw hw840_1 GW842) _).trans (((cell_far (p := ⟨gb842, _, none⟩) (zw hw840_1 GW842) _).trans (((cell_far (p := ⟨gb842, _, none⟩) (zw hw840_1 GW842) _).trans (((cell_far (p := ⟨gb842, _, none⟩) (zw hw840_1 GW842) _).trans (hHeld.2.1)))))))))))), ((cell_far (p := ⟨gb842, _, none⟩) (zw hw840_2 GW842) _).trans (((cell_far (p := ⟨gb842, _, none⟩) (zw hw840_2 GW842) _).trans (((cell_far (p := ⟨gb842, _, none⟩) (zw hw840_2 GW842) _).trans (((cell_far (p := ⟨gb842, _, none⟩) (zw hw840_2 GW842) _).trans (((cell_far (p := ⟨gb842, _, none⟩) (zw hw840_2 GW842) _).trans (((cell_far (p := ⟨gb842, _, none⟩) (zw hw840_2 GW842) _).trans (hHeld.2.2.1)))))))))))), ((cell_far (p := ⟨gb842, _, none⟩) (zw hw840_3 GW842) _).trans (((cell_far (p := ⟨gb842, _, none⟩) (zw hw840_3 GW842) _).trans (((cell_far (p := ⟨gb842, _, none⟩) (zw hw840_3 GW842) _).trans (((cell_far (p := ⟨gb842, _, none⟩) (zw hw840_3 GW842) _).trans (((cell_far (p := ⟨gb842, _, none⟩) (zw hw840_3 GW842) _).trans (((cell_far (p := ⟨gb842, _, none⟩) (zw hw840_3 GW842) _).trans (hHeld.2.2.2.1)))))))))))), ((cell_far (p := ⟨gb842, _, none⟩) (zw hw840_4 GW842) _).trans (((cell_far (p := ⟨gb842, _, none⟩) (zw hw840_4 GW842) _).trans (((cell_far (p := ⟨gb842, _, none⟩) (zw hw840_4 GW842) _).trans (((cell_far (p := ⟨gb842, _, none⟩) (zw hw840_4 GW842) _).trans (((cell_far (p := ⟨gb842, _, none⟩) (zw hw840_4 GW842) _).trans (((cell_far (p := ⟨gb842, _, none⟩) (zw hw840_4 GW842) _).trans (hHeld.2.2.2.2.1)))))))))))), ((cell_far (p := ⟨gb842, _, none⟩) (zw hw840_5 GW842) _).trans (((cell_far (p := ⟨gb842, _, none⟩) (zw hw840_5 GW842) _).trans (((cell_far (p := ⟨gb842, _, none⟩) (zw hw840_5 GW842) _).trans (((cell_far (p := ⟨gb842, _, none⟩) (zw hw840_5 GW842) _).trans (((cell_far (p := ⟨gb842, _, none⟩) (zw hw840_5 GW842) _).trans (((cell_far (p := ⟨gb842, _, none⟩) (zw hw840_5 GW842) _).trans (hHeld.2.2.2.2.2.1)))))))))))), ((cell_far (p := ⟨gb842, _, none⟩) (zw hw841_0 GW842) _).trans (((cell_far (p := ⟨gb842, _, none⟩) (zw hw841_0 GW842) _).trans (((cell_far (p := ⟨gb842, _, none⟩) (zw hw841_0 GW842) _).trans (((cell_far (p := ⟨gb842, _, none⟩) (zw hw841_0 GW842) _).trans (((cell_far (p := ⟨gb842, _, none⟩) (zw hw841_0 GW842) _).trans (((cell_far (p := ⟨gb842, _, none⟩) (zw hw841_0 GW842) _).trans (hHeld.2.2.2.2.2.2.1)))))))))))), ((cell_far (p := ⟨gb842, _, none⟩) (zw hw841_1 GW842) _).trans (((cell_far (p := ⟨gb842, _, none⟩) (zw hw841_1 GW842) _).trans (((cell_far (p := ⟨gb842, _, none⟩) (zw hw841_1 GW842) _).trans (((cell_far (p := ⟨gb842, _, none⟩) (zw hw841_1 GW842) _).trans (((cell_far (p := ⟨gb842, _, none⟩) (zw hw841_1 GW842) _).trans (((cell_far (p := ⟨gb842, _, none⟩) (zw hw841_1 GW842) _).trans (hHeld.2.2.2.2.2.2.2.1)))))))))))), ((cell_far (p := ⟨gb842, _, none⟩) (zw hw841_2 GW842) _).trans (((cell_far (p := ⟨gb842, _, none⟩) (zw hw841_2 GW842) _).trans (((cell_far (p := ⟨gb842, _, none⟩) (zw hw841_2 GW842) _).trans (((cell_far (p := ⟨gb842, _, none⟩) (zw hw841_2 GW842) _).trans (((cell_far (p := ⟨gb842, _, none⟩) (zw hw841_2 GW842) _).trans (((cell_far (p := ⟨gb842, _, none⟩) (zw hw841_2 GW842) _).trans (hHeld.2.2.2.2.2.2.2.2.1)))))))))))), ((cell_far (p := ⟨gb842, _, none⟩) (zw hw841_3 GW842) _).trans (((cell_far (p := ⟨gb842, _, none⟩) (zw hw841_3 GW842) _).trans (((cell_far (p := ⟨gb842, _, none⟩) (zw hw841_3 GW842) _).trans (((cell_far (p := ⟨gb842, _, none⟩) (zw hw841_3 GW842) _).trans (((cell_far (p := ⟨gb842, _, none⟩) (zw hw841_3 GW842) _).trans (((cell_far (p := ⟨gb842, _, none⟩) (zw hw841_3 GW842) _).trans (hHeld.2.2.2.2.2.2.2.2.2.1)))))))))))), ((cell_far (p := ⟨gb842, _, none⟩) (zw hw841_4 GW842) _).trans (((cell_far (p := ⟨gb842, _, none⟩) (zw hw841_4 GW842) _).trans (((cell_far (p := ⟨gb842, _, none⟩) (zw hw841_4 GW842) _).trans (((cell_far (p := ⟨gb842, _, none⟩) (zw hw841_4 GW842) _).trans (((cell_far (p := ⟨gb842, _, none⟩) (zw hw841_4 GW842) _).trans (((cell_far (p := ⟨gb842, _, none⟩) (zw hw841_4 GW842) _).trans (hHeld.2.2.2.2.2.2.2.2.2.2.1)))))))))))), ((cell_far (p := ⟨gb842, _, none⟩) (zw hw841_5 GW842) _).trans (((cell_far (p := ⟨gb842, _, none⟩) (zw hw841_5 GW842) _).trans (((cell_far (p := ⟨gb842, _, none⟩) (zw hw841_5 GW842) _).trans (((cell_far (p := ⟨gb842, _, none⟩) (zw hw841_5 GW842) _).trans (((cell_far (p := ⟨gb842, _, none⟩) (zw hw841_5 GW842) _).trans (((cell_far (p := ⟨gb842, _, none⟩) (zw hw841_5 GW842) _).trans (hHeld.2.2.2.2.2.2.2.2.2.2.2))))))))))))⟩ (fun hHeld => ?_)
               clear hK K
               refine one_ (i := 11) (N := none) #[true, true, true, true, true, true, true, true, true, true, true, true] rfl rfl (one_of HT_.out (by kernel_rfl)) (by decide) (fun K hK => ?_)
               have hs19 : w12.cell? ⟨gb843, 0, none⟩ = some (.bool false) := zc BK843 0
               have hfs19 := blk_frozen BK843.out 0
               have hns19_0 := NB842_843.out
               have hms19_0 := NB843_842.out
               have hs20 : w12.cell? ⟨gb843, 1, none⟩ = some (.int .u64 0) := zc BK843 1
               have hfs20 := blk_frozen BK843.out 1
               have hns20_0 := NB842_843.out
               have hms20_0 := NB843_842.out
               have hs21 : w12.cell? ⟨gb843, 2, none⟩ = some (.int .u64 0) := zc BK843 2
               have hfs21 := blk_frozen BK843.out 2
               have hns21_0 := NB842_843.out
               have hms21_0 := NB843_842.out
               have hs22 : w12.cell? ⟨gb843, 3, none⟩ = some (.bool false) := zc BK843 3
               have hfs22 := blk_frozen BK843.out 3
               have hns22_0 := NB842_843.out
               have hms22_0 := NB843_842.out
               have hs23 : w12.cell? ⟨gb843, 4, none⟩ = some (.int .u64 0) := zc BK843 4
               have hfs23 := blk_frozen BK843.out 4
               have hns23_0 := NB842_843.out
               have hms23_0 := NB843_842.out
               have hs24 : w12.cell? ⟨gb843, 5, none⟩ = some (.int .u64 0) := zc BK843 5
               have hfs24 := blk_frozen BK843.out 5
               have hns24_0 := NB842_843.out
               have hms24_0 := NB843_842.out
               refine skip_ (w1 := ?_) (by rfl) rfl ?_ ?_
               rotate_left
               · go_simp
                 rfl
               refine hK.out _ _ ⟨((cell_far (p := ⟨gb843, _, none⟩) (zw hw840_0 GW843) _).trans (((cell_far (p := ⟨gb843, _, none⟩) (zw hw840_0 GW843) _).trans (((cell_far (p := ⟨gb843, _, none⟩) (zw hw840_0 GW843) _).trans (((cell_far (p := ⟨gb843, _, none⟩) (zw hw840_0 GW843) _).trans (((cell_far (p := ⟨gb843, _, none⟩) (zw hw840_0 GW843) _).trans (((cell_far (p := ⟨gb843, _, none⟩) (zw hw840_0 GW843) _).trans (hHeld.1)))))))))))), ((cell_far (p := ⟨gb843, _, none⟩) (zw hw840_1 GW843) _).trans (((cell_far (p := ⟨gb843, _, none⟩) (zw hw840_1 GW843) _).trans (((cell_far (p := ⟨gb843, _, none⟩) (zw hw840_1 GW843) _).trans (((cell_far (p := ⟨gb843, _, none⟩) (zw hw840_1 GW843) _).trans (((cell_far (p := ⟨gb843, _, none⟩) (zw hw840_1 GW843) _).trans (((cell_far (p := ⟨gb843, _, none⟩) (zw hw840_1 GW843) _).trans (hHeld.2.1)))))))))))), ((cell_far (p := ⟨gb843, _, none⟩) (zw hw840_2 GW843) _).trans (((cell_far (p := ⟨gb843, _, none⟩) (zw hw840_2 GW843) _).trans (((cell_far (p := ⟨gb843, _, none⟩) (zw hw840_2 GW843) _).trans (((cell_far (p := ⟨gb843, _, none⟩) (zw hw840_2 GW843) _).trans (((cell_far (p := ⟨gb843, _, none⟩) (zw hw840_2 GW843) _).trans (((cell_far (p := ⟨gb843, _, none⟩) (zw hw840_2 GW843) _).trans (hHeld.2.2.1)))))))))))), ((cell_far (p := ⟨gb843, _, none⟩) (zw hw840_3 GW843) _).trans (((cell_far (p := ⟨gb843, _, none⟩) (zw hw840_3 GW843) _).trans (((cell_far (p := ⟨gb843, _, none⟩) (zw hw840_3 GW843) _).trans (((cell_far (p := ⟨gb843, _, none⟩) (zw hw840_3 GW843) _).trans (((cell_far (p := ⟨gb843, _, none⟩) (zw hw840_3 GW843) _).trans (((cell_far (p := ⟨gb843, _, none⟩) (zw hw840_3 GW843) _).trans (hHeld.2.2.2.1)))))))))))), ((cell_far (p := ⟨gb843, _, none⟩) (zw hw840_4 GW843) _).trans (((cell_far (p := ⟨gb843, _, none⟩) (zw hw840_4 GW843) _).trans (((cell_far (p := ⟨gb843, _, none⟩) (zw hw840_4 GW843) _).trans (((cell_far (p := ⟨gb843, _, none⟩) (zw hw840_4 GW843) _).trans (((cell_far (p := ⟨gb843, _, none⟩) (zw hw840_4 GW843) _).trans (((cell_far (p := ⟨gb843, _, none⟩) (zw hw840_4 GW843) _).trans (hHeld.2.2.2.2.1)))))))))))), ((cell_far (p := ⟨gb843, _, none⟩) (zw hw840_5 GW843) _).trans (((cell_far (p := ⟨gb843, _, none⟩) (zw hw840_5 GW843) _).trans (((cell_far (p := ⟨gb843, _, none⟩) (zw hw840_5 GW843) _).trans (((cell_far (p := ⟨gb843, _, none⟩) (zw hw840_5 GW843) _).trans (((cell_far (p := ⟨gb843, _, none⟩) (zw hw840_5 GW843) _).trans (((cell_far (p := ⟨gb843, _, none⟩) (zw hw840_5 GW843) _).trans (hHeld.2.2.2.2.2.1)))))))))))), ((cell_far (p := ⟨gb843, _, none⟩) (zw hw841_0 GW843) _).trans (((cell_far (p := ⟨gb843, _, none⟩) (zw hw841_0 GW843) _).trans (((cell_far (p := ⟨gb843, _, none⟩) (zw hw841_0 GW843) _).trans (((cell_far (p := ⟨gb843, _, none⟩) (zw hw841_0 GW843) _).trans (((cell_far (p := ⟨gb843, _, none⟩) (zw hw841_0 GW843) _).trans (((cell_far (p := ⟨gb843, _, none⟩) (zw hw841_0 GW843) _).trans (hHeld.2.2.2.2.2.2.1)))))))))))), ((cell_far (p := ⟨gb843, _, none⟩) (zw hw841_1 GW843) _).trans (((cell_far (p := ⟨gb843, _, none⟩) (zw hw841_1 GW843) _).trans (((cell_far (p := ⟨gb843, _, none⟩) (zw hw841_1 GW843) _).trans (((cell_far (p := ⟨gb843, _, none⟩) (zw hw841_1 GW843) _).trans (((cell_far (p := ⟨gb843, _, none⟩) (zw hw841_1 GW843) _).trans (((cell_far (p := ⟨gb843, _, none⟩) (zw hw841_1 GW843) _).trans (hHeld.2.2.2.2.2.2.2.1)))))))))))), ((cell_far (p := ⟨gb843, _, none⟩) (zw hw841_2 GW843) _).trans (((cell_far (p := ⟨gb843, _, none⟩) (zw hw841_2 GW843) _).trans (((cell_far (p := ⟨gb843, _, none⟩) (zw hw841_2 GW843) _).trans (((cell_far (p := ⟨gb843, _, none⟩) (zw hw841_2 GW843) _).trans (((cell_far (p := ⟨gb843, _, none⟩) (zw hw841_2 GW843) _).trans (((cell_far (p := ⟨gb843, _, none⟩) (zw hw841_2 GW843) _).trans (hHeld.2.2.2.2.2.2.2.2.1)))))))))))), ((cell_far (p := ⟨gb843, _, none⟩) (zw hw841_3 GW843) _).trans (((cell_far (p := ⟨gb843, _, none⟩) (zw hw841_3 GW843) _).trans (((cell_far (p := ⟨gb843, _, none⟩) (zw hw841_3 GW843) _).trans (((cell_far (p := ⟨gb843, _, none⟩) (zw hw841_3 GW843) _).trans (((cell_far (p := ⟨gb843, _, none⟩) (zw hw841_3 GW843) _).trans (((cell_far (p := ⟨gb843, _, none⟩) (zw hw841_3 GW843) _).trans (hHeld.2.2.2.2.2.2.2.2.2.1)))))))))))), ((cell_far (p := ⟨gb843, _, none⟩) (zw hw841_4 GW843) _).trans (((cell_far (p := ⟨gb843, _, none⟩) (zw hw841_4 GW843) _).trans (((cell_far (p := ⟨gb843, _, none⟩) (zw hw841_4 GW843) _).trans (((cell_far (p := ⟨gb843, _, none⟩) (zw hw841_4 GW843) _).trans (((cell_far (p := ⟨gb843, _, none⟩) (zw hw841_4 GW843) _).trans (((cell_far (p := ⟨gb843, _, none⟩) (zw hw841_4 GW843) _).trans (hHeld.2.2.2.2.2.2.2.2.2.2.1)))))))))))), ((cell_far (p := ⟨gb843, _, none⟩) (zw hw841_5 GW843) _).trans (((cell_far (p := ⟨gb843, _, none⟩) (zw hw841_5 GW843) _).trans (((cell_far (p := ⟨gb843, _, none⟩) (zw hw841_5 GW843) _).trans (((cell_far (p := ⟨gb843, _, none⟩) (zw hw841_5 GW843) _).trans (((cell_far (p := ⟨gb843, _, none⟩) (zw hw841_5 GW843) _).trans (((cell_far (p := ⟨gb843, _, none⟩) (zw hw841_5 GW843) _).trans (hHeld.2.2.2.2.2.2.2.2.2.2.2))))))))))))⟩ (fun hHeld => ?_)
               clear hK K
               refine zd HT_ ?_
               go_upto_region 9 with (fail)
               go_cut [46] (fun v46 wc => ∃ (kq : Nat) (x46_7 : Bool), v46 = .bool x46_7 ∧ Aside0 (intrusionref07_Intersect.j2 kq l0 l1 x5_2 x6_1 x7_2 x46_7 ((rd_T66 l0 x6_1).f0.f0) ((rd_T66 l0 x6_1).f0.f1) ((rd_T66 l0 x6_1).f0.f2) ((rd_T66 l0 x6_1).f1.f0) ((rd_T66 l0 x6_1).f1.f1) ((rd_T66 l0 x6_1).f1.f2) ((rd_T66 l1 x7_2).f0.f0) ((rd_T66 l1 x7_2).f0.f1) ((rd_T66 l1 x7_2).f0.f2) ((rd_T66 l1 x7_2).f1.f0) ((rd_T66 l1 x7_2).f1.f1) ((rd_T66 l1 x7_2).f1.f2) = some r) ∧ Aside0 (kq ≤ k2) ∧ Aside0 (Kd.R k66 66 wc w.heap.size (fun k_ => k_ ≠ gb842 ∧ k_ ≠ gb843) u5 x5_2) ∧ Aside0 (wc.heap[gb842]? = some (.cells #[.bool ((rd_T66 l0 x6_1).f0.f0), .int .u64 ((rd_T66 l0 x6_1).f0.f1), .int .u64 ((rd_T66 l0 x6_1).f0.f2), .bool ((rd_T66 l0 x6_1).f1.f0), .int .u64 ((rd_T66 l0 x6_1).f1.f1), .int .u64 ((rd_T66 l0 x6_1).f1.f2)] 66 (0, 0))) ∧ Aside0 (wc.heap[gb843]? = some (.cells #[.bool ((rd_T66 l1 x7_2).f0.f0), .int .u64 ((rd_T66 l1 x7_2).f0.f1), .int .u64 ((rd_T66 l1 x7_2).f0.f2), .bool ((rd_T66 l1 x7_2).f1.f0), .int .u64 ((rd_T66 l1 x7_2).f1.f1), .int .u64 ((rd_T66 l1 x7_2).f1.f2)] 66 (0, 0))) ∧ Aside0 (Below w.heap.size w wc))
               case first =>
                have H := HC8.out
                clear HC8
                replace H := Option.bind_eq_some_iff.mp H
                obtain ⟨t844, A250, H⟩ := H
                try dsimp only at H
                have A25 := Aside0.mk A250
                clear A250
                by_cases c26 : t844 = true
                · subst c26
                  rw [if_pos rfl] at H
                  replace H := Option.bind_eq_some_iff.mp H
                  obtain ⟨t845, A270, H⟩ := H
                  try dsimp only at H
                  have A27 := Aside0.mk A270
                  clear A270
                  by_cases c28 : t845 = true
                  · subst c28
                    rw [if_pos rfl] at H
                    have H' := Aside0.mk H
                    clear H
                    have hnb29 := NB842_843.out
                    have hnc29 := NB843_842.out
                    obtain ⟨hcz30_0, hcz30_1, hcz30_2, hcz30_3, hcz30_4, hcz30_5⟩ := zc6 BK842
                    obtain ⟨hfz30_0, hfz30_1, hfz30_2, hfz30_3, hfz30_4, hfz30_5⟩ := zf6 BK842
                    go_wp2_with (first | ((with_reducible refine gate_callee (f := 78) rfl ?_); refine goesL_ (some 31) rfl rfl Try.func78 (by kernel_rfl) rfl #[.agg #[.bool ((rd_T66 l0 x6_1).f0.f0), .int .u64 ((rd_T66 l0 x6_1).f0.f1), .int .u64 ((rd_T66 l0 x6_1).f0.f2), .bool ((rd_T66 l0 x6_1).f1.f0), .int .u64 ((rd_T66 l0 x6_1).f1.f1), .int .u64 ((rd_T66 l0 x6_1).f1.f2)]] rfl (by (try simp only [List.map_toArray, List.map_cons, List.map_nil]); first | done | rfl | (simp only [List.length_drop, List.length_take]; rfl)) ?_; (with_reducible refine (intrusionref07_Some.calls ((rd_T66 l0 x6_1).f0.f0) ((rd_T66 l0 x6_1).f0.f1) ((rd_T66 l0 x6_1).f0.f2) ((rd_T66 l0 x6_1).f1.f0) ((rd_T66 l0 x6_1).f1.f1) ((rd_T66 l0 x6_1).f1.f2) true _ A25.out).mono ?_); rintro e w31 ⟨rfl, hb⟩; refine ⟨_, rfl, ?_⟩; replace HO_5 := Aside0.mk (Kd.R_below (zQ (Kd.R_mono (Kd.R_mono (Kd.R_far (p := ⟨gb843, 5, none⟩) (Kd.R_far (p := ⟨gb843, 4, none⟩) (Kd.R_far (p := ⟨gb843, 3, none⟩) (Kd.R_far (p := ⟨gb843, 2, none⟩) (Kd.R_far (p := ⟨gb843, 1, none⟩) (Kd.R_far (p := ⟨gb843, 0, none⟩) (Kd.R_far (p := ⟨gb842, 5, none⟩) (Kd.R_far (p := ⟨gb842, 4, none⟩) (Kd.R_far (p := ⟨gb842, 3, none⟩) (Kd.R_far (p := ⟨gb842, 2, none⟩) (Kd.R_far (p := ⟨gb842, 1, none⟩) (Kd.R_far (p := ⟨gb842, 0, none⟩) (Kd.R_mono (Kd.R_mono HO_5.out (fun k_ hk => (⟨hk, hk.1⟩ : _ ∧ k_ ≠ gb842))) (fun k_ hk => (⟨hk, hk.1.2⟩ : _ ∧ k_ ≠ gb843))) (fun _ hk => hk.1.2) (.bool ((rd_T66 l0 x6_1).f0.f0))) (fun _ hk => hk.1.2) (.int .u64 ((rd_T66 l0 x6_1).f0.f1))) (fun _ hk => hk.1.2) (.int .u64 ((rd_T66 l0 x6_1).f0.f2))) (fun _ hk => hk.1.2) (.bool ((rd_T66 l0 x6_1).f1.f0))) (fun _ hk => hk.1.2) (.int .u64 ((rd_T66 l0 x6_1).f1.f1))) (fun _ hk => hk.1.2) (.int .u64 ((rd_T66 l0 x6_1).f1.f2))) (fun _ hk => hk.2) (.bool ((rd_T66 l1 x7_2).f0.f0))) (fun _ hk => hk.2) (.int .u64 ((rd_T66 l1 x7_2).f0.f1))) (fun _ hk => hk.2) (.int .u64 ((rd_T66 l1 x7_2).f0.f2))) (fun _ hk => hk.2) (.bool ((rd_T66 l1 x7_2).f1.f0))) (fun _ hk => hk.2) (.int .u64 ((rd_T66 l1 x7_2).f1.f1))) (fun _ hk => hk.2) (.int .u64 ((rd_T66 l1 x7_2).f1.f2))) (fun _ h_ => h_.1)) (fun _ h_ => h_.1))) hb); replace BK842 := Aside0.mk (blk_below (g := gb842) (o := .cells #[.bool ((rd_T66 l0 x6_1).f0.f0), .int .u64 ((rd_T66 l0 x6_1).f0.f1), .int .u64 ((rd_T66 l0 x6_1).f0.f2), .bool ((rd_T66 l0 x6_1).f1.f0), .int .u64 ((rd_T66 l0 x6_1).f1.f1), .int .u64 ((rd_T66 l0 x6_1).f1.f2)] 66 (0, 0)) (by refine zL ?_; refine blk_far ?_ NB842_843.out _; refine zL ?_; refine blk_far ?_ NB842_843.out _; refine zL ?_; refine blk_far ?_ NB842_843.out _; refine zL ?_; refine blk_far ?_ NB842_843.out _; refine zL ?_; refine blk_far ?_ NB842_843.out _; refine zL ?_; refine blk_far ?_ NB842_843.out _; refine zL ?_; refine blk_put (cs := #[.bool ((rd_T66 l0 x6_1).f0.f0), .int .u64 ((rd_T66 l0 x6_1).f0.f1), .int .u64 ((rd_T66 l0 x6_1).f0.f2), .bool ((rd_T66 l0 x6_1).f1.f0), .int .u64 ((rd_T66 l0 x6_1).f1.f1), .int .u64 0]) ?_ 5 _ rfl; refine zL ?_; refine blk_put (cs := #[.bool ((rd_T66 l0 x6_1).f0.f0), .int .u64 ((rd_T66 l0 x6_1).f0.f1), .int .u64 ((rd_T66 l0 x6_1).f0.f2), .bool ((rd_T66 l0 x6_1).f1.f0), .int .u64 0, .int .u64 0]) ?_ 4 _ rfl; refine zL ?_; refine blk_put (cs := #[.bool ((rd_T66 l0 x6_1).f0.f0), .int .u64 ((rd_T66 l0 x6_1).f0.f1), .int .u64 ((rd_T66 l0 x6_1).f0.f2), .bool false, .int .u64 0, .int .u64 0]) ?_ 3 _ rfl; refine zL ?_; refine blk_put (cs := #[.bool ((rd_T66 l0 x6_1).f0.f0), .int .u64 ((rd_T66 l0 x6_1).f0.f1), .int .u64 0, .bool false, .int .u64 0, .int .u64 0]) ?_ 2 _ rfl; refine zL ?_; refine blk_put (cs := #[.bool ((rd_T66 l0 x6_1).f0.f0), .int .u64 0, .int .u64 0, .bool false, .int .u64 0, .int .u64 0]) ?_ 1 _ rfl; refine zL ?_; refine blk_put (cs := #[.bool false, .int .u64 0, .int .u64 0, .bool false, .int .u64 0, .int .u64 0]) ?_ 0 _ rfl; refine zL ?_; exact BK842.out) hb); replace BK843 := Aside0.mk (blk_below (g := gb843) (o := .cells #[.bool ((rd_T66 l1 x7_2).f0.f0), .int .u64 ((rd_T66 l1 x7_2).f0.f1), .int .u64 ((rd_T66 l1 x7_2).f0.f2), .bool ((rd_T66 l1 x7_2).f1.f0), .int .u64 ((rd_T66 l1 x7_2).f1.f1), .int .u64 ((rd_T66 l1 x7_2).f1.f2)] 66 (0, 0)) (by refine zL ?_; refine blk_put (cs := #[.bool ((rd_T66 l1 x7_2).f0.f0), .int .u64 ((rd_T66 l1 x7_2).f0.f1), .int .u64 ((rd_T66 l1 x7_2).f0.f2), .bool ((rd_T66 l1 x7_2).f1.f0), .int .u64 ((rd_T66 l1 x7_2).f1.f1), .int .u64 0]) ?_ 5 _ rfl; refine zL ?_; refine blk_put (cs := #[.bool ((rd_T66 l1 x7_2).f0.f0), .int .u64 ((rd_T66 l1 x7_2).f0.f1), .int .u64 ((rd_T66 l1 x7_2).f0.f2), .bool ((rd_T66 l1 x7_2).f1.f0), .int .u64 0, .int .u64 0]) ?_ 4 _ rfl; refine zL ?_; refine blk_put (cs := #[.bool ((rd_T66 l1 x7_2).f0.f0), .int .u64 ((rd_T66 l1 x7_2).f0.f1), .int .u64 ((rd_T66 l1 x7_2).f0.f2), .bool false, .int .u64 0, .int .u64 0]) ?_ 3 _ rfl; refine zL ?_; refine blk_put (cs := #[.bool ((rd_T66 l1 x7_2).f0.f0), .int .u64 ((rd_T66 l1 x7_2).f0.f1), .int .u64 0, .bool false, .int .u64 0, .int .u64 0]) ?_ 2 _ rfl; refine zL ?_; refine blk_put (cs := #[.bool ((rd_T66 l1 x7_2).f0.f0), .int .u64 0, .int .u64 0, .bool false, .int .u64 0, .int .u64 0]) ?_ 1 _ rfl; refine zL ?_; refine blk_put (cs := #[.bool false, .int .u64 0, .int .u64 0, .bool false, .int .u64 0, .int .u64 0]) ?_ 0 _ rfl; refine zL ?_; refine blk_far ?_ NB843_842.out _; refine zL ?_; refine blk_far ?_ NB843_842.out _; refine zL ?_; refine blk_far ?_ NB843_842.out _; refine zL ?_; refine blk_far ?_ NB843_842.out _; refine zL ?_; refine blk_far ?_ NB843_842.out _; refine zL ?_; refine blk_far ?_ NB843_842.out _; refine zL ?_; exact BK843.out) hb); replace HB := Aside0.mk (below_step (zB HB) hb); (try clear hb); obtain ⟨hcz32_0, hcz32_1, hcz32_2, hcz32_3, hcz32_4, hcz32_5⟩ := zc6 BK843; obtain ⟨hfz32_0, hfz32_1, hfz32_2, hfz32_3, hfz32_4, hfz32_5⟩ := zf6 BK843) | (go_at_call 78; (with_reducible refine (intrusionref07_Some.calls ((rd_T66 l1 x7_2).f0.f0) ((rd_T66 l1 x7_2).f0.f1) ((rd_T66 l1 x7_2).f0.f2) ((rd_T66 l1 x7_2).f1.f0) ((rd_T66 l1 x7_2).f1.f1) ((rd_T66 l1 x7_2).f1.f2) true _ A27.out).mono ?_); rintro e w33 ⟨rfl, hb⟩; replace HO_5 := Aside0.mk (Kd.R_below (zR HO_5) hb); replace BK842 := Aside0.mk (blk_below (g := gb842) (o := .cells #[.bool ((rd_T66 l0 x6_1).f0.f0), .int .u64 ((rd_T66 l0 x6_1).f0.f1), .int .u64 ((rd_T66 l0 x6_1).f0.f2), .bool ((rd_T66 l0 x6_1).f1.f0), .int .u64 ((rd_T66 l0 x6_1).f1.f1), .int .u64 ((rd_T66 l0 x6_1).f1.f2)] 66 (0, 0)) (zK BK842) hb); replace BK843 := Aside0.mk (blk_below (g := gb843) (o := .cells #[.bool ((rd_T66 l1 x7_2).f0.f0), .int .u64 ((rd_T66 l1 x7_2).f0.f1), .int .u64 ((rd_T66 l1 x7_2).f0.f2), .bool ((rd_T66 l1 x7_2).f1.f0), .int .u64 ((rd_T66 l1 x7_2).f1.f1), .int .u64 ((rd_T66 l1 x7_2).f1.f2)] 66 (0, 0)) (zK BK843) hb); replace HB := Aside0.mk (below_step (zB HB) hb); (try clear hb); obtain ⟨hcz34_0, hcz34_1, hcz34_2, hcz34_3, hcz34_4, hcz34_5⟩ := zc6 BK842; obtain ⟨hfz34_0, hfz34_1, hfz34_2, hfz34_3, hfz34_4, hfz34_5⟩ := zf6 BK842; obtain ⟨hcz35_0, hcz35_1, hcz35_2, hcz35_3, hcz35_4, hcz35_5⟩ := zc6 BK843; obtain ⟨hfz35_0, hfz35_1, hfz35_2, hfz35_3, hfz35_4, hfz35_5⟩ := zf6 BK843))
                    go_meet
                    case rel => exact ⟨_, ((((rd_T66 l0 x6_1).f0.f0) != ((rd_T66 l1 x7_2).f0.f0))), (by first | rfl | (simp; done) | (simp [*]; done)), H', ⟨by have := HK1.out; have := HK2.out; first | omega | exact Nat.le_refl _⟩, ⟨zR HO_5⟩, ⟨zK BK842⟩, ⟨zK BK843⟩, ⟨zB HB⟩⟩
                  · replace c28 := Bool.eq_false_iff.mpr c28
                    subst c28
                    rw [if_neg zF] at H
                    have H' := Aside0.mk H
                    clear H
                    have hnb36 := NB842_843.out
                    have hnc36 := NB843_842.out
                    obtain ⟨hcz37_0, hcz37_1, hcz37_2, hcz37_3, hcz37_4, hcz37_5⟩ := zc6 BK842
                    obtain ⟨hfz37_0, hfz37_1, hfz37_2, hfz37_3, hfz37_4, hfz37_5⟩ := zf6 BK842
                    go_wp2_with (first | ((with_reducible refine gate_callee (f := 78) rfl ?_); refine goesL_ (some 31) rfl rfl Try.func78 (by kernel_rfl) rfl #[.agg #[.bool ((rd_T66 l0 x6_1).f0.f0), .int .u64 ((rd_T66 l0 x6_1).f0.f1), .int .u64 ((rd_T66 l0 x6_1).f0.f2), .bool ((rd_T66 l0 x6_1).f1.f0), .int .u64 ((rd_T66 l0 x6_1).f1.f1), .int .u64 ((rd_T66 l0 x6_1).f1.f2)]] rfl (by (try simp only [List.map_toArray, List.map_cons, List.map_nil]); first | done | rfl | (simp only [List.length_drop, List.length_take]; rfl)) ?_; (with_reducible refine (intrusionref07_Some.calls ((rd_T66 l0 x6_1).f0.f0) ((rd_T66 l0 x6_1).f0.f1) ((rd_T66 l0 x6_1).f0.f2) ((rd_T66 l0 x6_1).f1.f0) ((rd_T66 l0 x6_1).f1.f1) ((rd_T66 l0 x6_1).f1.f2) true _ A25.out).mono ?_); rintro e w38 ⟨rfl, hb⟩; refine ⟨_, rfl, ?_⟩; replace HO_5 := Aside0.mk (Kd.R_below (zQ (Kd.R_mono (Kd.R_mono (Kd.R_far (p := ⟨gb843, 5, none⟩) (Kd.R_far (p := ⟨gb843, 4, none⟩) (Kd.R_far (p := ⟨gb843, 3, none⟩) (Kd.R_far (p := ⟨gb843, 2, none⟩) (Kd.R_far (p := ⟨gb843, 1, none⟩) (Kd.R_far (p := ⟨gb843, 0, none⟩) (Kd.R_far (p := ⟨gb842, 5, none⟩) (Kd.R_far (p := ⟨gb842, 4, none⟩) (Kd.R_far (p := ⟨gb842, 3, none⟩) (Kd.R_far (p := ⟨gb842, 2, none⟩) (Kd.R_far (p := ⟨gb842, 1, none⟩) (Kd.R_far (p := ⟨gb842, 0, none⟩) (Kd.R_mono (Kd.R_mono HO_5.out (fun k_ hk => (⟨hk, hk.1⟩ : _ ∧ k_ ≠ gb842))) (fun k_ hk => (⟨hk, hk.1.2⟩ : _ ∧ k_ ≠ gb843))) (fun _ hk => hk.1.2) (.bool ((rd_T66 l0 x6_1).f0.f0))) (fun _ hk => hk.1.2) (.int .u64 ((rd_T66 l0 x6_1).f0.f1))) (fun _ hk => hk.1.2) (.int .u64 ((rd_T66 l0 x6_1).f0.f2))) (fun _ hk => hk.1.2) (.bool ((rd_T66 l0 x6_1).f1.f0))) (fun _ hk => hk.1.2) (.int .u64 ((rd_T66 l0 x6_1).f1.f1))) (fun _ hk => hk.1.2) (.int .u64 ((rd_T66 l0 x6_1).f1.f2))) (fun _ hk => hk.2) (.bool ((rd_T66 l1 x7_2).f0.f0))) (fun _ hk => hk.2) (.int .u64 ((rd_T66 l1 x7_2).f0.f1))) (fun _ hk => hk.2) (.int .u64 ((rd_T66 l1 x7_2).f0.f2))) (fun _ hk => hk.2) (.bool ((rd_T66 l1 x7_2).f1.f0))) (fun _ hk => hk.2) (.int .u64 ((rd_T66 l1 x7_2).f1.f1))) (fun _ hk => hk.2) (.int .u64 ((rd_T66 l1 x7_2).f1.f2))) (fun _ h_ => h_.1)) (fun _ h_ => h_.1))) hb); replace BK842 := Aside0.mk (blk_below (g := gb842) (o := .cells #[.bool ((rd_T66 l0 x6_1).f0.f0), .int .u64 ((rd_T66 l0 x6_1).f0.f1), .int .u64 ((rd_T66 l0 x6_1).f0.f2), .bool ((rd_T66 l0 x6_1).f1.f0), .int .u64 ((rd_T66 l0 x6_1).f1.f1), .int .u64 ((rd_T66 l0 x6_1).f1.f2)] 66 (0, 0)) (by refine zL ?_; refine blk_far ?_ NB842_843.out _; refine zL ?_; refine blk_far ?_ NB842_843.out _; refine zL ?_; refine blk_far ?_ NB842_843.out _; refine zL ?_; refine blk_far ?_ NB842_843.out _; refine zL ?_; refine blk_far ?_ NB842_843.out _; refine zL ?_; refine blk_far ?_ NB842_843.out _; refine zL ?_; refine blk_put (cs := #[.bool ((rd_T66 l0 x6_1).f0.f0), .int .u64 ((rd_T66 l0 x6_1).f0.f1), .int .u64 ((rd_T66 l0 x6_1).f0.f2), .bool ((rd_T66 l0 x6_1).f1.f0), .int .u64 ((rd_T66 l0 x6_1).f1.f1), .int .u64 0]) ?_ 5 _ rfl; refine zL ?_; refine blk_put (cs := #[.bool ((rd_T66 l0 x6_1).f0.f0), .int .u64 ((rd_T66 l0 x6_1).f0.f1), .int .u64 ((rd_T66 l0 x6_1).f0.f2), .bool ((rd_T66 l0 x6_1).f1.f0), .int .u64 0, .int .u64 0]) ?_ 4 _ rfl; refine zL ?_; refine blk_put (cs := #[.bool ((rd_T66 l0 x6_1).f0.f0), .int .u64 ((rd_T66 l0 x6_1).f0.f1), .int .u64 ((rd_T66 l0 x6_1).f0.f2), .bool false, .int .u64 0, .int .u64 0]) ?_ 3 _ rfl; refine zL ?_; refine blk_put (cs := #[.bool ((rd_T66 l0 x6_1).f0.f0), .int .u64 ((rd_T66 l0 x6_1).f0.f1), .int .u64 0, .bool false, .int .u64 0, .int .u64 0]) ?_ 2 _ rfl; refine zL ?_; refine blk_put (cs := #[.bool ((rd_T66 l0 x6_1).f0.f0), .int .u64 0, .int .u64 0, .bool false, .int .u64 0, .int .u64 0]) ?_ 1 _ rfl; refine zL ?_; refine blk_put (cs := #[.bool false, .int .u64 0, .int .u64 0, .bool false, .int .u64 0, .int .u64 0]) ?_ 0 _ rfl; refine zL ?_; exact BK842.out) hb); replace BK843 := Aside0.mk (blk_below (g := gb843) (o := .cells #[.bool ((rd_T66 l1 x7_2).f0.f0), .int .u64 ((rd_T66 l1 x7_2).f0.f1), .int .u64 ((rd_T66 l1 x7_2).f0.f2), .bool ((rd_T66 l1 x7_2).f1.f0), .int .u64 ((rd_T66 l1 x7_2).f1.f1), .int .u64 ((rd_T66 l1 x7_2).f1.f2)] 66 (0, 0)) (by refine zL ?_; refine blk_put (cs := #[.bool ((rd_T66 l1 x7_2).f0.f0), .int .u64 ((rd_T66 l1 x7_2).f0.f1), .int .u64 ((rd_T66 l1 x7_2).f0.f2), .bool ((rd_T66 l1 x7_2).f1.f0), .int .u64 ((rd_T66 l1 x7_2).f1.f1), .int .u64 0]) ?_ 5 _ rfl; refine zL ?_; refine blk_put (cs := #[.bool ((rd_T66 l1 x7_2).f0.f0), .int .u64 ((rd_T66 l1 x7_2).f0.f1), .int .u64 ((rd_T66 l1 x7_2).f0.f2), .bool ((rd_T66 l1 x7_2).f1.f0), .int .u64 0, .int .u64 0]) ?_ 4 _ rfl; refine zL ?_; refine blk_put (cs := #[.bool ((rd_T66 l1 x7_2).f0.f0), .int .u64 ((rd_T66 l1 x7_2).f0.f1), .int .u64 ((rd_T66 l1 x7_2).f0.f2), .bool false, .int .u64 0, .int .u64 0]) ?_ 3 _ rfl; refine zL ?_; refine blk_put (cs := #[.bool ((rd_T66 l1 x7_2).f0.f0), .int .u64 ((rd_T66 l1 x7_2).f0.f1), .int .u64 0, .bool false, .int .u64 0, .int .u64 0]) ?_ 2 _ rfl; refine zL ?_; refine blk_put (cs := #[.bool ((rd_T66 l1 x7_2).f0.f0), .int .u64 0, .int .u64 0, .bool false, .int .u64 0, .int .u64 0]) ?_ 1 _ rfl; refine zL ?_; refine blk_put (cs := #[.bool false, .int .u64 0, .int .u64 0, .bool false, .int .u64 0, .int .u64 0]) ?_ 0 _ rfl; refine zL ?_; refine blk_far ?_ NB843_842.out _; refine zL ?_; refine blk_far ?_ NB843_842.out _; refine zL ?_; refine blk_far ?_ NB843_842.out _; refine zL ?_; refine blk_far ?_ NB843_842.out _; refine zL ?_; refine blk_far ?_ NB843_842.out _; refine zL ?_; refine blk_far ?_ NB843_842.out _; refine zL ?_; exact BK843.out) hb); replace HB := Aside0.mk (below_step (zB HB) hb); (try clear hb); obtain ⟨hcz39_0, hcz39_1, hcz39_2, hcz39_3, hcz39_4, hcz39_5⟩ := zc6 BK843; obtain ⟨hfz39_0, hfz39_1, hfz39_2, hfz39_3, hfz39_4, hfz39_5⟩ := zf6 BK843) | (go_at_call 78; (with_reducible refine (intrusionref07_Some.calls ((rd_T66 l1 x7_2).f0.f0) ((rd_T66 l1 x7_2).f0.f1) ((rd_T66 l1 x7_2).f0.f2) ((rd_T66 l1 x7_2).f1.f0) ((rd_T66 l1 x7_2).f1.f1) ((rd_T66 l1 x7_2).f1.f2) false _ A27.out).mono ?_); rintro e w40 ⟨rfl, hb⟩; replace HO_5 := Aside0.mk (Kd.R_below (zR HO_5) hb); replace BK842 := Aside0.mk (blk_below (g := gb842) (o := .cells #[.bool ((rd_T66 l0 x6_1).f0.f0), .int .u64 ((rd_T66 l0 x6_1).f0.f1), .int .u64 ((rd_T66 l0 x6_1).f0.f2), .bool ((rd_T66 l0 x6_1).f1.f0), .int .u64 ((rd_T66 l0 x6_1).f1.f1), .int .u64 ((rd_T66 l0 x6_1).f1.f2)] 66 (0, 0)) (zK BK842) hb); replace BK843 := Aside0.mk (blk_below (g := gb843) (o := .cells #[.bool ((rd_T66 l1 x7_2).f0.f0), .int .u64 ((rd_T66 l1 x7_2).f0.f1), .int .u64 ((rd_T66 l1 x7_2).f0.f2), .bool ((rd_T66 l1 x7_2).f1.f0), .int .u64 ((rd_T66 l1 x7_2).f1.f1), .int .u64 ((rd_T66 l1 x7_2).f1.f2)] 66 (0, 0)) (zK BK843) hb); replace HB := Aside0.mk (below_step (zB HB) hb); (try clear hb)))
                    go_meet
                    case rel => exact ⟨_, (true), (by first | rfl | (simp; done) | (simp [*]; done)), H', ⟨by have := HK1.out; have := HK2.out; first | omega | exact Nat.le_refl _⟩, ⟨zR HO_5⟩, ⟨zK BK842⟩, ⟨zK BK843⟩, ⟨zB HB⟩⟩
                · replace c26 := Bool.eq_false_iff.mpr c26
                  subst c26
                  rw [if_neg zF] at H
                  have H' := Aside0.mk H
                  clear H
                  have hnb41 := NB842_843.out
                  have hnc41 := NB843_842.out
                  obtain ⟨hcz42_0, hcz42_1, hcz42_2, hcz42_3, hcz42_4, hcz42_5⟩ := zc6 BK842
                  obtain ⟨hfz42_0, hfz42_1, hfz42_2, hfz42_3, hfz42_4, hfz42_5⟩ := zf6 BK842
                  go_wp2_with (first | ((with_reducible refine gate_callee (f := 78) rfl ?_); refine goesL_ (some 31) rfl rfl Try.func78 (by kernel_rfl) rfl #[.agg #[.bool ((rd_T66 l0 x6_1).f0.f0), .int .u64 ((rd_T66 l0 x6_1).f0.f1), .int .u64 ((rd_T66 l0 x6_1).f0.f2), .bool ((rd_T66 l0 x6_1).f1.f0), .int .u64 ((rd_T66 l0 x6_1).f1.f1), .int .u64 ((rd_T66 l0 x6_1).f1.f2)]] rfl (by (try simp only [List.map_toArray, List.map_cons, List.map_nil]); first | done | rfl | (simp only [List.length_drop, List.length_take]; rfl)) ?_; (with_reducible refine (intrusionref07_Some.calls ((rd_T66 l0 x6_1).f0.f0) ((rd_T66 l0 x6_1).f0.f1) ((rd_T66 l0 x6_1).f0.f2) ((rd_T66 l0 x6_1).f1.f0) ((rd_T66 l0 x6_1).f1.f1) ((rd_T66 l0 x6_1).f1.f2) false _ A25.out).mono ?_); rintro e w43 ⟨rfl, hb⟩; refine ⟨_, rfl, ?_⟩; replace HO_5 := Aside0.mk (Kd.R_below (zQ (Kd.R_mono (Kd.R_mono (Kd.R_far (p := ⟨gb843, 5, none⟩) (Kd.R_far (p := ⟨gb843, 4, none⟩) (Kd.R_far (p := ⟨gb843, 3, none⟩) (Kd.R_far (p := ⟨gb843, 2, none⟩) (Kd.R_far (p := ⟨gb843, 1, none⟩) (Kd.R_far (p := ⟨gb843, 0, none⟩) (Kd.R_far (p := ⟨gb842, 5, none⟩) (Kd.R_far (p := ⟨gb842, 4, none⟩) (Kd.R_far (p := ⟨gb842, 3, none⟩) (Kd.R_far (p := ⟨gb842, 2, none⟩) (Kd.R_far (p := ⟨gb842, 1, none⟩) (Kd.R_far (p := ⟨gb842, 0, none⟩) (Kd.R_mono (Kd.R_mono HO_5.out (fun k_ hk => (⟨hk, hk.1⟩ : _ ∧ k_ ≠ gb842))) (fun k_ hk => (⟨hk, hk.1.2⟩ : _ ∧ k_ ≠ gb843))) (fun _ hk => hk.1.2) (.bool ((rd_T66 l0 x6_1).f0.f0))) (fun _ hk => hk.1.2) (.int .u64 ((rd_T66 l0 x6_1).f0.f1))) (fun _ hk => hk.1.2) (.int .u64 ((rd_T66 l0 x6_1).f0.f2))) (fun _ hk => hk.1.2) (.bool ((rd_T66 l0 x6_1).f1.f0))) (fun _ hk => hk.1.2) (.int .u64 ((rd_T66 l0 x6_1).f1.f1))) (fun _ hk => hk.1.2) (.int .u64 ((rd_T66 l0 x6_1).f1.f2))) (fun _ hk => hk.2) (.bool ((rd_T66 l1 x7_2).f0.f0))) (fun _ hk => hk.2) (.int .u64 ((rd_T66 l1 x7_2).f0.f1))) (fun _ hk => hk.2) (.int .u64 ((rd_T66 l1 x7_2).f0.f2))) (fun _ hk => hk.2) (.bool ((rd_T66 l1 x7_2).f1.f0))) (fun _ hk => hk.2) (.int .u64 ((rd_T66 l1 x7_2).f1.f1))) (fun _ hk => hk.2) (.int .u64 ((rd_T66 l1 x7_2).f1.f2))) (fun _ h_ => h_.1)) (fun _ h_ => h_.1))) hb); replace BK842 := Aside0.mk (blk_below (g := gb842) (o := .cells #[.bool ((rd_T66 l0 x6_1).f0.f0), .int .u64 ((rd_T66 l0 x6_1).f0.f1), .int .u64 ((rd_T66 l0 x6_1).f0.f2), .bool ((rd_T66 l0 x6_1).f1.f0), .int .u64 ((rd_T66 l0 x6_1).f1.f1), .int .u64 ((rd_T66 l0 x6_1).f1.f2)] 66 (0, 0)) (by refine zL ?_; refine blk_far ?_ NB842_843.out _; refine zL ?_; refine blk_far ?_ NB842_843.out _; refine zL ?_; refine blk_far ?_ NB842_843.out _; refine zL ?_; refine blk_far ?_ NB842_843.out _; refine zL ?_; refine blk_far ?_ NB842_843.out _; refine zL ?_; refine blk_far ?_ NB842_843.out _; refine zL ?_; refine blk_put (cs := #[.bool ((rd_T66 l0 x6_1).f0.f0), .int .u64 ((rd_T66 l0 x6_1).f0.f1), .int .u64 ((rd_T66 l0 x6_1).f0.f2), .bool ((rd_T66 l0 x6_1).f1.f0), .int .u64 ((rd_T66 l0 x6_1).f1.f1), .int .u64 0]) ?_ 5 _ rfl; refine zL ?_; refine blk_put (cs := #[.bool ((rd_T66 l0 x6_1).f0.f0), .int .u64 ((rd_T66 l0 x6_1).f0.f1), .int .u64 ((rd_T66 l0 x6_1).f0.f2), .bool ((rd_T66 l0 x6_1).f1.f0), .int .u64 0, .int .u64 0]) ?_ 4 _ rfl; refine zL ?_; refine blk_put (cs := #[.bool ((rd_T66 l0 x6_1).f0.f0), .int .u64 ((rd_T66 l0 x6_1).f0.f1), .int .u64 ((rd_T66 l0 x6_1).f0.f2), .bool false, .int .u64 0, .int .u64 0]) ?_ 3 _ rfl; refine zL ?_; refine blk_put (cs := #[.bool ((rd_T66 l0 x6_1).f0.f0), .int .u64 ((rd_T66 l0 x6_1).f0.f1), .int .u64 0, .bool false, .int .u64 0, .int .u64 0]) ?_ 2 _ rfl; refine zL ?_; refine blk_put (cs := #[.bool ((rd_T66 l0 x6_1).f0.f0), .int .u64 0, .int .u64 0, .bool false, .int .u64 0, .int .u64 0]) ?_ 1 _ rfl; refine zL ?_; refine blk_put (cs := #[.bool false, .int .u64 0, .int .u64 0, .bool false, .int .u64 0, .int .u64 0]) ?_ 0 _ rfl; refine zL ?_; exact BK842.out) hb); replace BK843 := Aside0.mk (blk_below (g := gb843) (o := .cells #[.bool ((rd_T66 l1 x7_2).f0.f0), .int .u64 ((rd_T66 l1 x7_2).f0.f1), .int .u64 ((rd_T66 l1 x7_2).f0.f2), .bool ((rd_T66 l1 x7_2).f1.f0), .int .u64 ((rd_T66 l1 x7_2).f1.f1), .int .u64 ((rd_T66 l1 x7_2).f1.f2)] 66 (0, 0)) (by refine zL ?_; refine blk_put (cs := #[.bool ((rd_T66 l1 x7_2).f0.f0), .int .u64 ((rd_T66 l1 x7_2).f0.f1), .int .u64 ((rd_T66 l1 x7_2).f0.f2), .bool ((rd_T66 l1 x7_2).f1.f0), .int .u64 ((rd_T66 l1 x7_2).f1.f1), .int .u64 0]) ?_ 5 _ rfl; refine zL ?_; refine blk_put (cs := #[.bool ((rd_T66 l1 x7_2).f0.f0), .int .u64 ((rd_T66 l1 x7_2).f0.f1), .int .u64 ((rd_T66 l1 x7_2).f0.f2), .bool ((rd_T66 l1 x7_2).f1.f0), .int .u64 0, .int .u64 0]) ?_ 4 _ rfl; refine zL ?_; refine blk_put (cs := #[.bool ((rd_T66 l1 x7_2).f0.f0), .int .u64 ((rd_T66 l1 x7_2).f0.f1), .int .u64 ((rd_T66 l1 x7_2).f0.f2), .bool false, .int .u64 0, .int .u64 0]) ?_ 3 _ rfl; refine zL ?_; refine blk_put (cs := #[.bool ((rd_T66 l1 x7_2).f0.f0), .int .u64 ((rd_T66 l1 x7_2).f0.f1), .int .u64 0, .bool false, .int .u64 0, .int .u64 0]) ?_ 2 _ rfl; refine zL ?_; refine blk_put (cs := #[.bool ((rd_T66 l1 x7_2).f0.f0), .int .u64 0, .int .u64 0, .bool false, .int .u64 0, .int .u64 0]) ?_ 1 _ rfl; refine zL ?_; refine blk_put (cs := #[.bool false, .int .u64 0, .int .u64 0, .bool false, .int .u64 0, .int .u64 0]) ?_ 0 _ rfl; refine zL ?_; refine blk_far ?_ NB843_842.out _; refine zL ?_; refine blk_far ?_ NB843_842.out _; refine zL ?_; refine blk_far ?_ NB843_842.out _; refine zL ?_; refine blk_far ?_ NB843_842.out _; refine zL ?_; refine blk_far ?_ NB843_842.out _; refine zL ?_; refine blk_far ?_ NB843_842.out _; refine zL ?_; exact BK843.out) hb); replace HB := Aside0.mk (below_step (zB HB) hb); (try clear hb)))
                  go_meet
                  case rel => exact ⟨_, (true), (by first | rfl | (simp; done) | (simp [*]; done)), H', ⟨by have := HK1.out; have := HK2.out; first | omega | exact Nat.le_refl _⟩, ⟨zR HO_5⟩, ⟨zK BK842⟩, ⟨zK BK843⟩, ⟨zB HB⟩⟩
               case rest =>
                clear HC8
                try clear c1
                try clear c2
                try clear p2
                try clear c3
                try clear c3b0
                try clear c4
                try clear c4b0
                try clear c5
                try clear c5b0
                try clear c6
                try clear c6b0
                try clear c7
                try clear c7b0
                try clear p8
                try clear q8
                try clear hx8
                try clear c26
                try clear c28
                try clear c29
                try clear c36
                try clear c41
                try clear hcz30_0
                try clear hcz30_1
                try clear hcz30_2
                try clear hcz30_3
                try clear hcz30_4
                try clear hcz30_5
                try clear hcz32_0
                try clear hcz32_1
                try clear hcz32_2
                try clear hcz32_3
                try clear hcz32_4
                try clear hcz32_5
                try clear hcz34_0
                try clear hcz34_1
                try clear hcz34_2
                try clear hcz34_3
                try clear hcz34_4
                try clear hcz34_5
                try clear hcz35_0
                try clear hcz35_1
                try clear hcz35_2
                try clear hcz35_3
                try clear hcz35_4
                try clear hcz35_5
                try clear hcz37_0
                try clear hcz37_1
                try clear hcz37_2
                try clear hcz37_3
                try clear hcz37_4
                try clear hcz37_5
                try clear hcz39_0
                try clear hcz39_1
                try clear hcz39_2
                try clear hcz39_3
                try clear hcz39_4
                try clear hcz39_5
                try clear hcz42_0
                try clear hcz42_1
                try clear hcz42_2
                try clear hcz42_3
                try clear hcz42_4
                try clear hcz42_5
                try clear hfz30_0
                try clear hfz30_1
                try clear hfz30_2
                try clear hfz30_3
                try clear hfz30_4
                try clear hfz30_5
                try clear hfz32_0
                try clear hfz32_1
                try clear hfz32_2
                try clear hfz32_3
                try clear hfz32_4
                try clear hfz32_5
                try clear hfz34_0
                try clear hfz34_1
                try clear hfz34_2
                try clear hfz34_3
                try clear hfz34_4
                try clear hfz34_5
                try clear hfz35_0
                try clear hfz35_1
                try clear hfz35_2
                try clear hfz35_3
                try clear hfz35_4
                try clear hfz35_5
                try clear hfz37_0
                try clear hfz37_1
                try clear hfz37_2
                try clear hfz37_3
                try clear hfz37_4
                try clear hfz37_5
                try clear hfz39_0
                try clear hfz39_1
                try clear hfz39_2
                try clear hfz39_3
                try clear hfz39_4
                try clear hfz39_5
                try clear hfz42_0
                try clear hfz42_1
                try clear hfz42_2
                try clear hfz42_3
                try clear hfz42_4
                try clear hfz42_5
                try clear hx840_0
                try clear hx840_1
                try clear hx840_2
                try clear hx840_3
                try clear hx840_4
                try clear hx840_5
                try clear hx841_0
                try clear hx841_1
                try clear hx841_2
                try clear hx841_3
                try clear hx841_4
                try clear hx841_5
                try clear p2
                try clear p840
                try clear p841
                try clear q840
                try clear q841
                obtain ⟨kq, x46_7, rfl, HA, HJ7, HO_5, BK842, BK843, HB⟩ := hcut
                cases kq with
                | zero => exact absurd HA.out (by simp [intrusionref07_Intersect.j2])
                | succ kj7 =>
                 have H := HA.out
                 clear HA
                 simp only [intrusionref07_Intersect.j2] at H
                 by_cases c44 : x46_7 = true
                 · subst c44
                   rw [if_pos rfl] at H
                   have H' := Aside0.mk H
                   clear H
                   go_wp2
                   go_roundg kj7
                   case measure => have := HK1.out; have := HK2.out; have := HJ7.out; omega
                   case rel => exact ⟨(x5_2), (wrap64 (x7_2 + 1)), (by first | rfl | (simp; done) | (simp [*]; done)), H', ⟨by have := HK1.out; have := HK2.out; have := HJ7.out; omega⟩, ⟨by (with_reducible repeat (first | apply Kd.R_alloc | apply Kd.R_drewN | apply Kd.R_drew)); exact Kd.R_mono HO_5.out (fun _ hk => trivial)⟩, ⟨zB HB⟩⟩
                 · replace c44 := Bool.eq_false_iff.mpr c44
                   subst c44
                   rw [if_neg zF] at H
                   replace H := Option.bind_eq_some_iff.mp H
                   obtain ⟨t846, A450, H⟩ := H
                   try dsimp only at H
                   have A45 := Aside0.mk A450
                   clear A450
                   have HC46 := Aside0.mk H
                   clear H
                   have hnb47 := NB842_843.out
                   have hnc47 := NB843_842.out
                   obtain ⟨hcz48_0, hcz48_1, hcz48_2, hcz48_3, hcz48_4, hcz48_5⟩ := zc6 BK842
                   obtain ⟨hfz48_0, hfz48_1, hfz48_2, hfz48_3, hfz48_4, hfz48_5⟩ := zf6 BK842
                   obtain ⟨hcz49_0, hcz49_1, hcz49_2, hcz49_3, hcz49_4, hcz49_5⟩ := zc6 BK843
                   obtain ⟨hfz49_0, hfz49_1, hfz49_2, hfz49_3, hfz49_4, hfz49_5⟩ := zf6 BK843
                   go_upto_if 51 with (first | ((with_reducible refine gate_callee (f := 80) rfl ?_); refine goesL_ (some 51) rfl rfl Try.func80 (by kernel_rfl) rfl #[.agg #[.bool ((rd_T66 l0 x6_1).f0.f0), .int .u64 ((rd_T66 l0 x6_1).f0.f1), .int .u64 ((rd_T66 l0 x6_1).f0.f2)], .agg #[.bool ((rd_T66 l1 x7_2).f0.f0), .int .u64 ((rd_T66 l1 x7_2).f0.f1), .int .u64 ((rd_T66 l1 x7_2).f0.f2)]] rfl (by (try simp only [List.map_toArray, List.map_cons, List.map_nil]); first | done | rfl | (simp only [List.length_drop, List.length_take]; rfl)) ?_; (with_reducible refine (intrusionref07_Before.calls ((rd_T66 l0 x6_1).f0.f0) ((rd_T66 l0 x6_1).f0.f1) ((rd_T66 l0 x6_1).f0.f2) ((rd_T66 l1 x7_2).f0.f0) ((rd_T66 l1 x7_2).f0.f1) ((rd_T66 l1 x7_2).f0.f2) t846 _ A45.out).mono ?_); rintro e w50 ⟨rfl, hb⟩; refine ⟨_, rfl, ?_⟩; replace HO_5 := Aside0.mk (Kd.R_below (zR HO_5) hb); replace BK842 := Aside0.mk (blk_below (g := gb842) (o := .cells #[.bool ((rd_T66 l0 x6_1).f0.f0), .int .u64 ((rd_T66 l0 x6_1).f0.f1), .int .u64 ((rd_T66 l0 x6_1).f0.f2), .bool ((rd_T66 l0 x6_1).f1.f0), .int .u64 ((rd_T66 l0 x6_1).f1.f1), .int .u64 ((rd_T66 l0 x6_1).f1.f2)] 66 (0, 0)) (zK BK842) hb); replace BK843 := Aside0.mk (blk_below (g := gb843) (o := .cells #[.bool ((rd_T66 l1 x7_2).f0.f0), .int .u64 ((rd_T66 l1 x7_2).f0.f1), .int .u64 ((rd_T66 l1 x7_2).f0.f2), .bool ((rd_T66 l1 x7_2).f1.f0), .int .u64 ((rd_T66 l1 x7_2).f1.f1), .int .u64 ((rd_T66 l1 x7_2).f1.f2)] 66 (0, 0)) (zK BK843) hb); replace HB := Aside0.mk (below_step (zB HB) hb); (try clear hb)))
                   (try simp only [Act.put, List.setIfInBounds_toArray, List.set_cons_zero, List.set_cons_succ])
                   go_cut [] (fun wc => ∃ (kq : Nat) (x843000_45 : Bool) (x843001_45 : Int) (x843002_45 : Int), Aside0 (intrusionref07_Intersect.j3 kq l0 l1 x5_2 x6_1 x7_2 x843000_45 x843001_45 x843002_45 ((rd_T66 l0 x6_1).f1.f0) ((rd_T66 l0 x6_1).f1.f1) ((rd_T66 l0 x6_1).f1.f2) ((rd_T66 l1 x7_2).f0.f0) ((rd_T66 l1 x7_2).f0.f1) ((rd_T66 l1 x7_2).f0.f2) ((rd_T66 l1 x7_2).f1.f0) ((rd_T66 l1 x7_2).f1.f1) ((rd_T66 l1 x7_2).f1.f2) = some r) ∧ Aside0 (kq ≤ kj7) ∧ Aside0 (Kd.R k66 66 wc w.heap.size (fun k_ => k_ ≠ gb842 ∧ k_ ≠ gb843) u5 x5_2) ∧ Aside0 (wc.heap[gb842]? = some (.cells #[.bool x843000_45, .int .u64 x843001_45, .int .u64 x843002_45, .bool ((rd_T66 l0 x6_1).f1.f0), .int .u64 ((rd_T66 l0 x6_1).f1.f1), .int .u64 ((rd_T66 l0 x6_1).f1.f2)] 66 (0, 0))) ∧ Aside0 (wc.heap[gb843]? = some (.cells #[.bool ((rd_T66 l1 x7_2).f0.f0), .int .u64 ((rd_T66 l1 x7_2).f0.f1), .int .u64 ((rd_T66 l1 x7_2).f0.f2), .bool ((rd_T66 l1 x7_2).f1.f0), .int .u64 ((rd_T66 l1 x7_2).f1.f1), .int .u64 ((rd_T66 l1 x7_2).f1.f2)] 66 (0, 0))) ∧ Aside0 (Below w.heap.size w wc))
                   case first =>
                    have H := HC46.out
                    clear HC46
                    by_cases c51 : t846 = true
                    · subst c51
                      rw [if_pos rfl] at H
                      have H' := Aside0.mk H
                      clear H
                      have hnb52 := NB843_842.out
                      have hnc52 := NB842_843.out
                      obtain ⟨hcz53_0, hcz53_1, hcz53_2, hcz53_3, hcz53_4, hcz53_5⟩ := zc6 BK843
                      obtain ⟨hfz53_0, hfz53_1, hfz53_2, hfz53_3, hfz53_4, hfz53_5⟩ := zf6 BK843
                      obtain ⟨hcz54_0, hcz54_1, hcz54_2, hcz54_3, hcz54_4, hcz54_5⟩ := zc6 BK842
                      obtain ⟨hfz54_0, hfz54_1, hfz54_2, hfz54_3, hfz54_4, hfz54_5⟩ := zf6 BK842
                      go_wp2
                      go_meet
                      case rel => exact ⟨_, (((rd_T66 l1 x7_2).f0.f0)), (((rd_T66 l1 x7_2).f0.f1)), (((rd_T66 l1 x7_2).f0.f2)), H', ⟨by have := HK1.out; have := HK2.out; have := HJ7.out; first | omega | exact Nat.le_refl _⟩, ⟨by (with_reducible repeat (first | apply Kd.R_alloc | apply Kd.R_drewN | apply Kd.R_drew)); exact Kd.R_mono (Kd.R_far (p := ⟨gb842, 2, none⟩) (Kd.R_far (p := ⟨gb842, 1, none⟩) (Kd.R_far (p := ⟨gb842, 0, none⟩) (Kd.R_mono HO_5.out (fun k_ hk => (⟨hk, hk.1⟩ : _ ∧ k_ ≠ gb842))) (fun _ hk => hk.2) (.bool ((rd_T66 l1 x7_2).f0.f0))) (fun _ hk => hk.2) (.int .u64 ((rd_T66 l1 x7_2).f0.f1))) (fun _ hk => hk.2) (.int .u64 ((rd_T66 l1 x7_2).f0.f2))) (fun _ hk => ⟨hk.1.1, hk.1.2⟩)⟩, ⟨by refine zL ?_; refine blk_put (cs := #[.bool ((rd_T66 l1 x7_2).f0.f0), .int .u64 ((rd_T66 l1 x7_2).f0.f1), .int .u64 ((rd_T66 l0 x6_1).f0.f2), .bool ((rd_T66 l0 x6_1).f1.f0), .int .u64 ((rd_T66 l0 x6_1).f1.f1), .int .u64 ((rd_T66 l0 x6_1).f1.f2)]) ?_ 2 _ rfl; refine zL ?_; refine blk_put (cs := #[.bool ((rd_T66 l1 x7_2).f0.f0), .int .u64 ((rd_T66 l0 x6_1).f0.f1), .int .u64 ((rd_T66 l0 x6_1).f0.f2), .bool ((rd_T66 l0 x6_1).f1.f0), .int .u64 ((rd_T66 l0 x6_1).f1.f1), .int .u64 ((rd_T66 l0 x6_1).f1.f2)]) ?_ 1 _ rfl; refine zL ?_; refine blk_put (cs := #[.bool ((rd_T66 l0 x6_1).f0.f0), .int .u64 ((rd_T66 l0 x6_1).f0.f1), .int .u64 ((rd_T66 l0 x6_1).f0.f2), .bool ((rd_T66 l0 x6_1).f1.f0), .int .u64 ((rd_T66 l0 x6_1).f1.f1), .int .u64 ((rd_T66 l0 x6_1).f1.f2)]) ?_ 0 _ rfl; refine zL ?_; exact BK842.out⟩, ⟨by refine zL ?_; refine blk_far ?_ NB843_842.out _; refine zL ?_; refine blk_far ?_ NB843_842.out _; refine zL ?_; refine blk_far ?_ NB843_842.out _; refine zL ?_; exact BK843.out⟩, ⟨zB HB⟩⟩
                    · replace c51 := Bool.eq_false_iff.mpr c51
                      subst c51
                      rw [if_neg zF] at H
                      have H' := Aside0.mk H
                      clear H
                      go_wp2
                      go_meet
                      case rel => exact ⟨_, (((rd_T66 l0 x6_1).f0.f0)), (((rd_T66 l0 x6_1).f0.f1)), (((rd_T66 l0 x6_1).f0.f2)), H', ⟨by have := HK1.out; have := HK2.out; have := HJ7.out; first | omega | exact Nat.le_refl _⟩, ⟨zR HO_5⟩, ⟨zK BK842⟩, ⟨zK BK843⟩, ⟨zB HB⟩⟩
                   case rest =>
                    clear HC46
                    try clear c1
                    try clear c2
                    try clear p2
                    try clear c3
                    try clear c3b0
                    try clear c4
                    try clear c4b0
                    try clear c5
                    try clear c5b0
                    try clear c6
                    try clear c6b0
                    try clear p6
                    try clear c7
                    try clear c7b0
                    try clear c8
                    try clear p8
                    try clear q8
                    try clear hx8
                    try clear c26
                    try clear c28
                    try clear c29
                    try clear c36
                    try clear c41
                    try clear c44
                    try clear c47
                    try clear c51
                    try clear c52
                    try clear hcz30_0
                    try clear hcz30_1
                    try clear hcz30_2
                    try clear hcz30_3
                    try clear hcz30_4
                    try clear hcz30_5
                    try clear hcz32_0
                    try clear hcz32_1
                    try clear hcz32_2
                    try clear hcz32_3
                    try clear hcz32_4
                    try clear hcz32_5
                    try clear hcz34_0
                    try clear hcz34_1
                    try clear hcz34_2
                    try clear hcz34_3
                    try clear hcz34_4
                    try clear hcz34_5
                    try clear hcz35_0
                    try clear hcz35_1
                    try clear hcz35_2
                    try clear hcz35_3
                    try clear hcz35_4
                    try clear hcz35_5
                    try clear hcz37_0
                    try clear hcz37_1
                    try clear hcz37_2
                    try clear hcz37_3
                    try clear hcz37_4
                    try clear hcz37_5
                    try clear hcz39_0
                    try clear hcz39_1
                    try clear hcz39_2
                    try clear hcz39_3
                    try clear hcz39_4
                    try clear hcz39_5
                    try clear hcz42_0
                    try clear hcz42_1
                    try clear hcz42_2
                    try clear hcz42_3
                    try clear hcz42_4
                    try clear hcz42_5
                    try clear hcz48_0
                    try clear hcz48_1
                    try clear hcz48_2
                    try clear hcz48_3
                    try clear hcz48_4
                    try clear hcz48_5
                    try clear hcz49_0
                    try clear hcz49_1
                    try clear hcz49_2
                    try clear hcz49_3
                    try clear hcz49_4
                    try clear hcz49_5
                    try clear hcz53_0
                    try clear hcz53_1
                    try clear hcz53_2
                    try clear hcz53_3
                    try clear hcz53_4
                    try clear hcz53_5
                    try clear hcz54_0
                    try clear hcz54_1
                    try clear hcz54_2
                    try clear hcz54_3
                    try clear hcz54_4
                    try clear hcz54_5
                    try clear hfz30_0
                    try clear hfz30_1
                    try clear hfz30_2
                    try clear hfz30_3
                    try clear hfz30_4
                    try clear hfz30_5
                    try clear hfz32_0
                    try clear hfz32_1
                    try clear hfz32_2
                    try clear hfz32_3
                    try clear hfz32_4
                    try clear hfz32_5
                    try clear hfz34_0
                    try clear hfz34_1
                    try clear hfz34_2
                    try clear hfz34_3
                    try clear hfz34_4
                    try clear hfz34_5
                    try clear hfz35_0
                    try clear hfz35_1
                    try clear hfz35_2
                    try clear hfz35_3
                    try clear hfz35_4
                    try clear hfz35_5
                    try clear hfz37_0
                    try clear hfz37_1
                    try clear hfz37_2
                    try clear hfz37_3
                    try clear hfz37_4
                    try clear hfz37_5
                    try clear hfz39_0
                    try clear hfz39_1
                    try clear hfz39_2
                    try clear hfz39_3
                    try clear hfz39_4
                    try clear hfz39_5
                    try clear hfz42_0
                    try clear hfz42_1
                    try clear hfz42_2
                    try clear hfz42_3
                    try clear hfz42_4
                    try clear hfz42_5
                    try clear hfz48_0
                    try clear hfz48_1
                    try clear hfz48_2
                    try clear hfz48_3
                    try clear hfz48_4
                    try clear hfz48_5
                    try clear hfz49_0
                    try clear hfz49_1
                    try clear hfz49_2
                    try clear hfz49_3
                    try clear hfz49_4
                    try clear hfz49_5
                    try clear hfz53_0
                    try clear hfz53_1
                    try clear hfz53_2
                    try clear hfz53_3
                    try clear hfz53_4
                    try clear hfz53_5
                    try clear hfz54_0
                    try clear hfz54_1
                    try clear hfz54_2
                    try clear hfz54_3
                    try clear hfz54_4
                    try clear hfz54_5
                    try clear hx840_0
                    try clear hx840_1
                    try clear hx840_2
                    try clear hx840_3
                    try clear hx840_4
                    try clear hx840_5
                    try clear hx841_0
                    try clear hx841_1
                    try clear hx841_2
                    try clear hx841_3
                    try clear hx841_4
                    try clear hx841_5
                    try clear p2
                    try clear p8
                    try clear p840
                    try clear p841
                    try clear q8
                    try clear q840
                    try clear q841
                    obtain ⟨kq, x843000_45, x843001_45, x843002_45, HA, HJ45, HO_5, BK842, BK843, HB⟩ := hcut
                    cases kq with
                    | zero => exact absurd HA.out (by simp [intrusionref07_Intersect.j3])
                    | succ kj45 =>
                     have H := HA.out
                     clear HA
                     simp only [intrusionref07_Intersect.j3] at H
                     replace H := Option.bind_eq_some_iff.mp H
                     obtain ⟨t847, A550, H⟩ := H
                     try dsimp only at H
                     have A55 := Aside0.mk A550
                     clear A550
                     have HC56 := Aside0.mk H
                     clear H
                     have hnb57 := NB843_842.out
                     have hnc57 := NB842_843.out
                     obtain ⟨hcz58_0, hcz58_1, hcz58_2, hcz58_3, hcz58_4, hcz58_5⟩ := zc6 BK843
                     obtain ⟨hfz58_0, hfz58_1, hfz58_2, hfz58_3, hfz58_4, hfz58_5⟩ := zf6 BK843
                     obtain ⟨hcz59_0, hcz59_1, hcz59_2, hcz59_3, hcz59_4, hcz59_5⟩ := zc6 BK842
                     obtain ⟨hfz59_0, hfz59_1, hfz59_2, hfz59_3, hfz59_4, hfz59_5⟩ := zf6 BK842
                     go_upto_if 59 with (first | ((with_reducible refine gate_callee (f := 80) rfl ?_); refine goesL_ (some 59) rfl rfl Try.func80 (by kernel_rfl) rfl #[.agg #[.bool ((rd_T66 l1 x7_2).f1.f0), .int .u64 ((rd_T66 l1 x7_2).f1.f1), .int .u64 ((rd_T66 l1 x7_2).f1.f2)], .agg #[.bool ((rd_T66 l0 x6_1).f1.f0), .int .u64 ((rd_T66 l0 x6_1).f1.f1), .int .u64 ((rd_T66 l0 x6_1).f1.f2)]] rfl (by (try simp only [List.map_toArray, List.map_cons, List.map_nil]); first | done | rfl | (simp only [List.length_drop, List.length_take]; rfl)) ?_; (with_reducible refine (intrusionref07_Before.calls ((rd_T66 l1 x7_2).f1.f0) ((rd_T66 l1 x7_2).f1.f1) ((rd_T66 l1 x7_2).f1.f2) ((rd_T66 l0 x6_1).f1.f0) ((rd_T66 l0 x6_1).f1.f1) ((rd_T66 l0 x6_1).f1.f2) t847 _ A55.out).mono ?_); rintro e w60 ⟨rfl, hb⟩; refine ⟨_, rfl, ?_⟩; replace HO_5 := Aside0.mk (Kd.R_below (zR HO_5) hb); replace BK842 := Aside0.mk (blk_below (g := gb842) (o := .cells #[.bool x843000_45, .int .u64 x843001_45, .int .u64 x843002_45, .bool ((rd_T66 l0 x6_1).f1.f0), .int .u64 ((rd_T66 l0 x6_1).f1.f1), .int .u64 ((rd_T66 l0 x6_1).f1.f2)] 66 (0, 0)) (zK BK842) hb); replace BK843 := Aside0.mk (blk_below (g := gb843) (o := .cells #[.bool ((rd_T66 l1 x7_2).f0.f0), .int .u64 ((rd_T66 l1 x7_2).f0.f1), .int .u64 ((rd_T66 l1 x7_2).f0.f2), .bool ((rd_T66 l1 x7_2).f1.f0), .int .u64 ((rd_T66 l1 x7_2).f1.f1), .int .u64 ((rd_T66 l1 x7_2).f1.f2)] 66 (0, 0)) (zK BK843) hb); replace HB := Aside0.mk (below_step (zB HB) hb); (try clear hb)))
                     (try simp only [Act.put, List.setIfInBounds_toArray, List.set_cons_zero, List.set_cons_succ])
                     go_cut [] (fun wc => ∃ (kq : Nat) (x843003_55 : Bool) (x843004_55 : Int) (x843005_55 : Int), Aside0 (intrusionref07_Intersect.j4 kq l0 l1 x5_2 x6_1 x7_2 x843000_45 x843001_45 x843002_45 x843003_55 x843004_55 x843005_55 = some r) ∧ Aside0 (kq ≤ kj45) ∧ Aside0 (Kd.R k66 66 wc w.heap.size (fun k_ => k_ ≠ gb842 ∧ k_ ≠ gb843) u5 x5_2) ∧ Aside0 (wc.heap[gb842]? = some (.cells #[.bool x843000_45, .int .u64 x843001_45, .int .u64 x843002_45, .bool x843003_55, .int .u64 x843004_55, .int .u64 x843005_55] 66 (0, 0))) ∧ Aside0 (wc.heap[gb843]? = some (.cells #[.bool ((rd_T66 l1 x7_2).f0.f0), .int .u64 ((rd_T66 l1 x7_2).f0.f1), .int .u64 ((rd_T66 l1 x7_2).f0.f2), .bool ((rd_T66 l1 x7_2).f1.f0), .int .u64 ((rd_T66 l1 x7_2).f1.f1), .int .u64 ((rd_T66 l1 x7_2).f1.f2)] 66 (0, 0))) ∧ Aside0 (Below w.heap.size w wc))
                     case first =>
                      have H := HC56.out
                      clear HC56
                      by_cases c61 : t847 = true
                      · subst c61
                        rw [if_pos rfl] at H
                        have H' := Aside0.mk H
                        clear H
                        have hnb62 := NB843_842.out
                        have hnc62 := NB842_843.out
                        obtain ⟨hcz63_0, hcz63_1, hcz63_2, hcz63_3, hcz63_4, hcz63_5⟩ := zc6 BK843
                        obtain ⟨hfz63_0, hfz63_1, hfz63_2, hfz63_3, hfz63_4, hfz63_5⟩ := zf6 BK843
                        obtain ⟨hcz64_0, hcz64_1, hcz64_2, hcz64_3, hcz64_4, hcz64_5⟩ := zc6 BK842
                        obtain ⟨hfz64_0, hfz64_1, hfz64_2, hfz64_3, hfz64_4, hfz64_5⟩ := zf6 BK842
                        go_wp2
                        go_meet
                        case rel => exact ⟨_, (((rd_T66 l1 x7_2).f1.f0)), (((rd_T66 l1 x7_2).f1.f1)), (((rd_T66 l1 x7_2).f1.f2)), H', ⟨by have := HK1.out; have := HK2.out; have := HJ7.out; have := HJ45.out; first | omega | exact Nat.le_refl _⟩, ⟨by (with_reducible repeat (first | apply Kd.R_alloc | apply Kd.R_drewN | apply Kd.R_drew)); exact Kd.R_mono (Kd.R_far (p := ⟨gb842, 5, none⟩) (Kd.R_far (p := ⟨gb842, 4, none⟩) (Kd.R_far (p := ⟨gb842, 3, none⟩) (Kd.R_mono HO_5.out (fun k_ hk => (⟨hk, hk.1⟩ : _ ∧ k_ ≠ gb842))) (fun _ hk => hk.2) (.bool ((rd_T66 l1 x7_2).f1.f0))) (fun _ hk => hk.2) (.int .u64 ((rd_T66 l1 x7_2).f1.f1))) (fun _ hk => hk.2) (.int .u64 ((rd_T66 l1 x7_2).f1.f2))) (fun _ hk => ⟨hk.1.1, hk.1.2⟩)⟩, ⟨by refine zL ?_; refine blk_put (cs := #[.bool x843000_45, .int .u64 x843001_45, .int .u64 x843002_45, .bool ((rd_T66 l1 x7_2).f1.f0), .int .u64 ((rd_T66 l1 x7_2).f1.f1), .int .u64 ((rd_T66 l0 x6_1).f1.f2)]) ?_ 5 _ rfl; refine zL ?_; refine blk_put (cs := #[.bool x843000_45, .int .u64 x843001_45, .int .u64 x843002_45, .bool ((rd_T66 l1 x7_2).f1.f0), .int .u64 ((rd_T66 l0 x6_1).f1.f1), .int .u64 ((rd_T66 l0 x6_1).f1.f2)]) ?_ 4 _ rfl; refine zL ?_; refine blk_put (cs := #[.bool x843000_45, .int .u64 x843001_45, .int .u64 x843002_45, .bool ((rd_T66 l0 x6_1).f1.f0), .int .u64 ((rd_T66 l0 x6_1).f1.f1), .int .u64 ((rd_T66 l0 x6_1).f1.f2)]) ?_ 3 _ rfl; refine zL ?_; exact BK842.out⟩, ⟨by refine zL ?_; refine blk_far ?_ NB843_842.out _; refine zL ?_; refine blk_far ?_ NB843_842.out _; refine zL ?_; refine blk_far ?_ NB843_842.out _; refine zL ?_; exact BK843.out⟩, ⟨zB HB⟩⟩
                      · replace c61 := Bool.eq_false_iff.mpr c61
                        subst c61
                        rw [if_neg zF] at H
                        have H' := Aside0.mk H
                        clear H
                        go_wp2
                        go_meet
                        case rel => exact ⟨_, (((rd_T66 l0 x6_1).f1.f0)), (((rd_T66 l0 x6_1).f1.f1)), (((rd_T66 l0 x6_1).f1.f2)), H', ⟨by have := HK1.out; have := HK2.out; have := HJ7.out; have := HJ45.out; first | omega | exact Nat.le_refl _⟩, ⟨zR HO_5⟩, ⟨zK BK842⟩, ⟨zK BK843⟩, ⟨zB HB⟩⟩
                     case rest =>
                      clear HC56
                      try clear c1
                      try clear c2
                      try clear p2
                      try clear c3
                      try clear c3b0
                      try clear c4
                      try clear c4b0
                      try clear c5
                      try clear c5b0
                      try clear c6
                      try clear c6b0
                      try clear p6
                      try clear c7
                      try clear c7b0
                      try clear c8
                      try clear p8
                      try clear q8
                      try clear hx8
                      try clear c26
                      try clear c28
                      try clear c29
                      try clear c36
                      try clear c41
                      try clear c44
                      try clear c47
                      try clear c51
                      try clear c52
                      try clear c57
                      try clear c61
                      try clear c62
                      try clear p64
                      try clear hcz30_0
                      try clear hcz30_1
                      try clear hcz30_2
                      try clear hcz30_3
                      try clear hcz30_4
                      try clear hcz30_5
                      try clear hcz32_0
                      try clear hcz32_1
                      try clear hcz32_2
                      try clear hcz32_3
                      try clear hcz32_4
                      try clear hcz32_5
                      try clear hcz34_0
                      try clear hcz34_1
                      try clear hcz34_2
                      try clear hcz34_3
                      try clear hcz34_4
                      try clear hcz34_5
                      try clear hcz35_0
                      try clear hcz35_1
                      try clear hcz35_2
                      try clear hcz35_3
                      try clear hcz35_4
                      try clear hcz35_5
                      try clear hcz37_0
                      try clear hcz37_1
                      try clear hcz37_2
                      try clear hcz37_3
                      try clear hcz37_4
                      try clear hcz37_5
                      try clear hcz39_0
                      try clear hcz39_1
                      try clear hcz39_2
                      try clear hcz39_3
                      try clear hcz39_4
                      try clear hcz39_5
                      try clear hcz42_0
                      try clear hcz42_1
                      try clear hcz42_2
                      try clear hcz42_3
                      try clear hcz42_4
                      try clear hcz42_5
                      try clear hcz48_0
                      try clear hcz48_1
                      try clear hcz48_2
                      try clear hcz48_3
                      try clear hcz48_4
                      try clear hcz48_5
                      try clear hcz49_0
                      try clear hcz49_1
                      try clear hcz49_2
                      try clear hcz49_3
                      try clear hcz49_4
                      try clear hcz49_5
                      try clear hcz53_0
                      try clear hcz53_1
                      try clear hcz53_2
                      try clear hcz53_3
                      try clear hcz53_4
                      try clear hcz53_5
                      try clear hcz54_0
                      try clear hcz54_1
                      try clear hcz54_2
                      try clear hcz54_3
                      try clear hcz54_4
                      try clear hcz54_5
                      try clear hcz58_0
                      try clear hcz58_1
                      try clear hcz58_2
                      try clear hcz58_3
                      try clear hcz58_4
                      try clear hcz58_5
                      try clear hcz59_0
                      try clear hcz59_1
                      try clear hcz59_2
                      try clear hcz59_3
                      try clear hcz59_4
                      try clear hcz59_5
                      try clear hcz63_0
                      try clear hcz63_1
                      try clear hcz63_2
                      try clear hcz63_3
                      try clear hcz63_4
                      try clear hcz63_5
                      try clear hcz64_0
                      try clear hcz64_1
                      try clear hcz64_2
                      try clear hcz64_3
                      try clear hcz64_4
                      try clear hcz64_5
                      try clear hfz30_0
                      try clear hfz30_1
                      try clear hfz30_2
                      try clear hfz30_3
                      try clear hfz30_4
                      try clear hfz30_5
                      try clear hfz32_0
                      try clear hfz32_1
                      try clear hfz32_2
                      try clear hfz32_3
                      try clear hfz32_4
                      try clear hfz32_5
                      try clear hfz34_0
                      try clear hfz34_1
                      try clear hfz34_2
                      try clear hfz34_3
                      try clear hfz34_4
                      try clear hfz34_5
                      try clear hfz35_0
                      try clear hfz35_1
                      try clear hfz35_2
                      try clear hfz35_3
                      try clear hfz35_4
                      try clear hfz35_5
                      try clear hfz37_0
                      try clear hfz37_1
                      try clear hfz37_2
                      try clear hfz37_3
                      try clear hfz37_4
                      try clear hfz37_5
                      try clear hfz39_0
                      try clear hfz39_1
                      try clear hfz39_2
                      try clear hfz39_3
                      try clear hfz39_4
                      try clear hfz39_5
                      try clear hfz42_0
                      try clear hfz42_1
                      try clear hfz42_2
                      try clear hfz42_3
                      try clear hfz42_4
                      try clear hfz42_5
                      try clear hfz48_0
                      try clear hfz48_1
                      try clear hfz48_2
                      try clear hfz48_3
                      try clear hfz48_4
                      try clear hfz48_5
                      try clear hfz49_0
                      try clear hfz49_1
                      try clear hfz49_2
                      try clear hfz49_3
                      try clear hfz49_4
                      try clear hfz49_5
                      try clear hfz53_0
                      try clear hfz53_1
                      try clear hfz53_2
                      try clear hfz53_3
                      try clear hfz53_4
                      try clear hfz53_5
                      try clear hfz54_0
                      try clear hfz54_1
                      try clear hfz54_2
                      try clear hfz54_3
                      try clear hfz54_4
                      try clear hfz54_5
                      try clear hfz58_0
                      try clear hfz58_1
                      try clear hfz58_2
                      try clear hfz58_3
                      try clear hfz58_4
                      try clear hfz58_5
                      try clear hfz59_0
                      try clear hfz59_1
                      try clear hfz59_2
                      try clear hfz59_3
                      try clear hfz59_4
                      try clear hfz59_5
                      try clear hfz63_0
                      try clear hfz63_1
                      try clear hfz63_2
                      try clear hfz63_3
                      try clear hfz63_4
                      try clear hfz63_5
                      try clear hfz64_0
                      try clear hfz64_1
                      try clear hfz64_2
                      try clear hfz64_3
                      try clear hfz64_4
                      try clear hfz64_5
                      try clear hx840_0
                      try clear hx840_1
                      try clear hx840_2
                      try clear hx840_3
                      try clear hx840_4
                      try clear hx840_5
                      try clear hx841_0
                      try clear hx841_1
                      try clear hx841_2
                      try clear hx841_3
                      try clear hx841_4
                      try clear hx841_5
                      try clear p2
                      try clear p6
                      try clear p8
                      try clear p840
                      try clear p841
                      try clear q8
                      try clear q840
                      try clear q841
                      obtain ⟨kq, x843003_55, x843004_55, x843005_55, HA, HJ55, HO_5, BK842, BK843, HB⟩ := hcut
                      cases kq with
                      | zero => exact absurd HA.out (by simp [intrusionref07_Intersect.j4])
                      | succ kj55 =>
                       have H := HA.out
                       clear HA
                       simp only [intrusionref07_Intersect.j4] at H
                       replace H := Option.bind_eq_some_iff.mp H
                       obtain ⟨t848, A650, H⟩ := H
                       try dsimp only at H
                       have A65 := Aside0.mk A650
                       clear A650
                       by_cases c66 : t848 = true
                       · subst c66
                         rw [if_pos rfl] at H
                         replace H := Option.bind_eq_some_iff.mp H
                         obtain ⟨t849, A670, H⟩ := H
                         try dsimp only at H
                         have A67 := Aside0.mk A670
                         clear A670
                         have H' := Aside0.mk H
                         clear H
                         have hnb68 := NB842_843.out
                         have hnc68 := NB843_842.out
                         obtain ⟨hcz69_0, hcz69_1, hcz69_2, hcz69_3, hcz69_4, hcz69_5⟩ := zc6 BK842
                         obtain ⟨hfz69_0, hfz69_1, hfz69_2, hfz69_3, hfz69_4, hfz69_5⟩ := zf6 BK842
                         go_wp2_with (first | ((with_reducible refine gate_callee (f := 78) rfl ?_); refine goesL_ (some 64) rfl rfl Try.func78 (by kernel_rfl) rfl #[.agg #[.bool x843000_45, .int .u64 x843001_45, .int .u64 x843002_45, .bool x843003_55, .int .u64 x843004_55, .int .u64 x843005_55]] rfl (by (try simp only [List.map_toArray, List.map_cons, List.map_nil]); first | done | rfl | (simp only [List.length_drop, List.length_take]; rfl)) ?_; (with_reducible refine (intrusionref07_Some.calls x843000_45 x843001_45 x843002_45 x843003_55 x843004_55 x843005_55 true _ A65.out).mono ?_); rintro e w70 ⟨rfl, hb⟩; refine ⟨_, rfl, ?_⟩; replace HO_5 := Aside0.mk (Kd.R_below (zR HO_5) hb); replace BK842 := Aside0.mk (blk_below (g := gb842) (o := .cells #[.bool x843000_45, .int .u64 x843001_45, .int .u64 x843002_45, .bool x843003_55, .int .u64 x843004_55, .int .u64 x843005_55] 66 (0, 0)) (zK BK842) hb); replace BK843 := Aside0.mk (blk_below (g := gb843) (o := .cells #[.bool ((rd_T66 l1 x7_2).f0.f0), .int .u64 ((rd_T66 l1 x7_2).f0.f1), .int .u64 ((rd_T66 l1 x7_2).f0.f2), .bool ((rd_T66 l1 x7_2).f1.f0), .int .u64 ((rd_T66 l1 x7_2).f1.f1), .int .u64 ((rd_T66 l1 x7_2).f1.f2)] 66 (0, 0)) (zK BK843) hb); replace HB := Aside0.mk (below_step (zB HB) hb); (try clear hb); obtain ⟨hcz71_0, hcz71_1, hcz71_2, hcz71_3, hcz71_4, hcz71_5⟩ := zc6 BK842; obtain ⟨hfz71_0, hfz71_1, hfz71_2, hfz71_3, hfz71_4, hfz71_5⟩ := zf6 BK842; obtain ⟨Ao72, co72, eo72⟩ := Kd.R_slice HO_5.out; subst eo72) | ((with_reducible refine gate_callee (f := 79) rfl ?_); refine goesL_ (some 67) rfl rfl Try.func79 (by kernel_rfl) rfl #[.slice Ao72 x5_2.length co72, .agg #[.bool x843000_45, .int .u64 x843001_45, .int .u64 x843002_45, .bool x843003_55, .int .u64 x843004_55, .int .u64 x843005_55]] rfl (by (try simp only [List.map_toArray, List.map_cons, List.map_nil]); first | done | rfl | (simp only [List.length_drop, List.length_take]; rfl)) ?_; (with_reducible refine (intrusionref07_add.calls kj55 _ _ x5_2 x843000_45 x843001_45 x843002_45 x843003_55 x843004_55 x843005_55 t849 _ ?side1 ?side2 A67.out).mono ?_); (case side1 => repeat (first | exact (Kd.R_reads' HO_5.out).2.2 | (with_reducible refine Kd.C_alloc ?_ _) | (with_reducible refine Kd.C_drewN ?_ _) | (with_reducible refine Kd.C_drew ?_))); (case side2 => exact (Kd.R_reads' HO_5.out).2.1); rintro e w73 ⟨v850, rfl, ho0, hb⟩; refine ⟨_, rfl, ?_⟩; have HO851 := Aside0.mk (Kd.R_lower (Kd.R_newB (Kd.R_newB (Kd.R_new' ho0 (Kd.R_lt (zR HO_5))) (g := gb842) (o := .cells #[.bool x843000_45, .int .u64 x843001_45, .int .u64 x843002_45, .bool x843003_55, .int .u64 x843004_55, .int .u64 x843005_55] 66 (0, 0)) (zK BK842)) (g := gb843) (o := .cells #[.bool ((rd_T66 l1 x7_2).f0.f0), .int .u64 ((rd_T66 l1 x7_2).f0.f1), .int .u64 ((rd_T66 l1 x7_2).f0.f2), .bool ((rd_T66 l1 x7_2).f1.f0), .int .u64 ((rd_T66 l1 x7_2).f1.f1), .int .u64 ((rd_T66 l1 x7_2).f1.f2)] 66 (0, 0)) (zK BK843)) (below_size (zB HB))); replace HO_5 := Aside0.mk (Kd.R_elder' (zR HO_5) (Kd.R_base ho0) hb); replace BK842 := Aside0.mk (blk_below (g := gb842) (o := .cells #[.bool x843000_45, .int .u64 x843001_45, .int .u64 x843002_45, .bool x843003_55, .int .u64 x843004_55, .int .u64 x843005_55] 66 (0, 0)) (zK BK842) hb); replace BK843 := Aside0.mk (blk_below (g := gb843) (o := .cells #[.bool ((rd_T66 l1 x7_2).f0.f0), .int .u64 ((rd_T66 l1 x7_2).f0.f1), .int .u64 ((rd_T66 l1 x7_2).f0.f2), .bool ((rd_T66 l1 x7_2).f1.f0), .int .u64 ((rd_T66 l1 x7_2).f1.f1), .int .u64 ((rd_T66 l1 x7_2).f1.f2)] 66 (0, 0)) (zK BK843) hb); replace HB := Aside0.mk (below_step (zB HB) hb); (try clear hb); (try clear ho0)))
                         go_roundg kj55
                         case measure => have := HK1.out; have := HK2.out; have := HJ7.out; have := HJ45.out; have := HJ55.out; omega
                         case rel => exact ⟨(t849), (wrap64 (x7_2 + 1)), (by first | rfl | (simp; done) | (simp [*]; done)), H', ⟨by have := HK1.out; have := HK2.out; have := HJ7.out; have := HJ45.out; have := HJ55.out; omega⟩, ⟨by (with_reducible repeat (first | apply Kd.R_alloc | apply Kd.R_drewN | apply Kd.R_drew)); exact Kd.R_mono HO851.out (fun _ hk => trivial)⟩, ⟨zB HB⟩⟩
                       · replace c66 := Bool.eq_false_iff.mpr c66
                         subst c66
                         rw [if_neg zF] at H
                         have H' := Aside0.mk H
                         clear H
                         have hnb74 := NB842_843.out
                         have hnc74 := NB843_842.out
                         obtain ⟨hcz75_0, hcz75_1, hcz75_2, hcz75_3, hcz75_4, hcz75_5⟩ := zc6 BK842
                         obtain ⟨hfz75_0, hfz75_1, hfz75_2, hfz75_3, hfz75_4, hfz75_5⟩ := zf6 BK842
                         go_wp2_with (first | ((with_reducible refine gate_callee (f := 78) rfl ?_); refine goesL_ (some 64) rfl rfl Try.func78 (by kernel_rfl) rfl #[.agg #[.bool x843000_45, .int .u64 x843001_45, .int .u64 x843002_45, .bool x843003_55, .int .u64 x843004_55, .int .u64 x843005_55]] rfl (by (try simp only [List.map_toArray, List.map_cons, List.map_nil]); first | done | rfl | (simp only [List.length_drop, List.length_take]; rfl)) ?_; (with_reducible refine (intrusionref07_Some.calls x843000_45 x843001_45 x843002_45 x843003_55 x843004_55 x843005_55 false _ A65.out).mono ?_); rintro e w76 ⟨rfl, hb⟩; refine ⟨_, rfl, ?_⟩; replace HO_5 := Aside0.mk (Kd.R_below (zR HO_5) hb); replace BK842 := Aside0.mk (blk_below (g := gb842) (o := .cells #[.bool x843000_45, .int .u64 x843001_45, .int .u64 x843002_45, .bool x843003_55, .int .u64 x843004_55, .int .u64 x843005_55] 66 (0, 0)) (zK BK842) hb); replace BK843 := Aside0.mk (blk_below (g := gb843) (o := .cells #[.bool ((rd_T66 l1 x7_2).f0.f0), .int .u64 ((rd_T66 l1 x7_2).f0.f1), .int .u64 ((rd_T66 l1 x7_2).f0.f2), .bool ((rd_T66 l1 x7_2).f1.f0), .int .u64 ((rd_T66 l1 x7_2).f1.f1), .int .u64 ((rd_T66 l1 x7_2).f1.f2)] 66 (0, 0)) (zK BK843) hb); replace HB := Aside0.mk (below_step (zB HB) hb); (try clear hb)))
                         go_roundg kj55
                         case measure => have := HK1.out; have := HK2.out; have := HJ7.out; have := HJ45.out; have := HJ55.out; omega
                         case rel => exact ⟨(x5_2), (wrap64 (x7_2 + 1)), (by first | rfl | (simp; done) | (simp [*]; done)), H', ⟨by have := HK1.out; have := HK2.out; have := HJ7.out; have := HJ45.out; have := HJ55.out; omega⟩, ⟨by (with_reducible repeat (first | apply Kd.R_alloc | apply Kd.R_drewN | apply Kd.R_drew)); exact Kd.R_mono HO_5.out (fun _ hk => trivial)⟩, ⟨zB HB⟩⟩
             · rw [if_neg c7] at H
               exact absurd H (by simp)
           · rw [if_neg c6] at H
             exact absurd H (by simp)
         · rw [if_neg c5] at H
           exact absurd H (by simp)
       · rw [if_neg c4] at H
         have c4b0 : decide (x7_2 < (l1.length : Int)) = false := decide_eq_false c4
         clear c4
         have H' := Aside0.mk H
         clear H
         go_wp2
         go_roundg k2
         case measure => have := HK1.out; have := HK2.out; omega
         case rel => exact ⟨(x5_2), (wrap64 (x6_1 + 1)), (by first | rfl | (simp; done) | (simp [*]; done)), H', ⟨by have := HK1.out; have := HK2.out; omega⟩, ⟨zR HO_5⟩, ⟨zB HB⟩⟩
   · rw [if_neg c3] at H
     have c3b0 : decide (x6_1 < (l0.length : Int)) = false := decide_eq_false c3
     clear c3
     obtain rfl := Option.some.inj H
     go_wp2
     go_ret
     exact ⟨_, by first | rfl | (simp [errW_none, errW_some] <;> rfl) | (simp [*, errW_none, errW_some] <;> rfl), by (with_reducible repeat (first | apply Kd.R_alloc | apply Kd.R_drewN | apply Kd.R_drew)); exact HO_5.out, by repeat (first | (with_reducible first | exact HB.out | apply below_alloc | apply pw_below_drewN | apply below_drew1) | exact HB.out)⟩
end Go.Proofs.Ytcgfpffgiimgmaa.Q
end

section
namespace Go.Proofs.Ytcgfpffgiimgmaa.Q
open Go.RowKit Go.Proofs.YtcgfpffgiimgmaaW.PrintWords Go.Proofs.YtcgfpffgiimgmaaW.PrintLast Go.Proofs.YtcgfpffgiimgmaaW.PrintMore
attribute [local go_sem] max2_int min2_int max_two min_two max_three min_three max_four min_four
set_option linter.unusedVariables false
set_option linter.unusedSimpArgs false
def intrusionref07_Normal.l0 : Nat → List (S66) → List (S66) → Int → Option ((List (S66)))
  | 0, _, _, _ => none
  | k + 1, x0, x3, x4 => if x4 < (x0.length : Int) then (if 0 ≤ x4 then ((intrusionref07_Some.f ((rd_T66 x0 x4).f0.f0) ((rd_T66 x0 x4).f0.f1) ((rd_T66 x0 x4).f0.f2) ((rd_T66 x0 x4).f1.f0) ((rd_T66 x0 x4).f1.f1) ((rd_T66 x0 x4).f1.f2)).bind fun t634 => (if t634 = true then ((intrusionref07_add.f k x3 ((rd_T66 x0 x4).f0.f0) ((rd_T66 x0 x4).f0.f1) ((rd_T66 x0 x4).f0.f2) ((rd_T66 x0 x4).f1.f0) ((rd_T66 x0 x4).f1.f1) ((rd_T66 x0 x4).f1.f2)).bind fun t636 => (intrusionref07_Normal.l0 k x0 t636 (wrap64 (x4 + 1)))) else (intrusionref07_Normal.l0 k x0 x3 (wrap64 (x4 + 1))))) else (none)) else (some x3)
def intrusionref07_Normal.f (k : Nat) (l0 : List (S66)) : Option ((List (S66))) := intrusionref07_Normal.l0 k l0 ([] : List (S66)) 0
theorem intrusionref07_Normal.mono_l : ∀ k, (∀ y0 y1 y2, LeO (intrusionref07_Normal.l0 k y0 y1 y2) (intrusionref07_Normal.l0 (k + 1) y0 y1 y2))
  | 0 => fun _ _ _ r h => by simp [intrusionref07_Normal.l0] at h
  | k + 1 => by
    have ih0 := intrusionref07_Normal.mono_l k
    · intro y0 y1 y2
      unfold intrusionref07_Normal.l0
      repeat' first
      | (with_reducible exact ih0 _ _ _)
      | (with_reducible exact intrusionref07_add.mono _ _ _ _ _ _ _ _)
      | (with_reducible exact LeO.refl _)
      | (with_reducible exact LeO.none _)
      | (with_reducible refine LeO.ite ?_ ?_)
      | (with_reducible refine LeO.bind ?_ (fun _ => ?_))
      | exact ih0 _ _ _
      | exact intrusionref07_add.mono _ _ _ _ _ _ _ _
      | exact LeO.none _
      | refine LeO.ite ?_ ?_
      | refine LeO.bind ?_ (fun _ => ?_)
theorem intrusionref07_Normal.mono : ∀ a0 k, LeO (intrusionref07_Normal.f k a0) (intrusionref07_Normal.f (k + 1) a0) := by
  intro a0 k
  have ih0 := intrusionref07_Normal.mono_l k
  unfold intrusionref07_Normal.f
  repeat' first
      | (with_reducible exact ih0 _ _ _)
      | (with_reducible exact intrusionref07_add.mono _ _ _ _ _ _ _ _)
      | (with_reducible exact LeO.refl _)
      | (with_reducible exact LeO.none _)
      | (with_reducible refine LeO.ite ?_ ?_)
      | (with_reducible refine LeO.bind ?_ (fun _ => ?_))
      | exact ih0 _ _ _
      | exact intrusionref07_add.mono _ _ _ _ _ _ _ _
      | exact LeO.none _
      | refine LeO.ite ?_ ?_
      | refine LeO.bind ?_ (fun _ => ?_)
set_option maxHeartbeats 8000000 in
set_option maxRecDepth 100000 in
theorem intrusionref07_Normal.calls (k : Nat) (A0 : Option Addr) (c0 : Nat) (l0 : List (S66)) (r : List (S66)) (w : World) (hr0 : Kd.C k66 w A0 l0.length l0) (hc0 : l0.length ≤ c0) (h : intrusionref07_Normal.f k l0 = some r) :
 Calls Try.prog 39 #[.slice A0 l0.length c0] w fun e w' => ∃ v0_ : Value, e = .returned (v0_) ∧ Kd.R k66 66 w' w.heap.size (fun _ => True) v0_ r ∧ Below w.heap.size w w' := by
 have hu66 := Try.underlying66
 have HR0 := Aside0.mk hr0
 have HC0 := Aside0.mk hc0
 clear hr0 hc0
 have HB := Aside0.mk (Below.refl w.heap.size w)
 unfold intrusionref07_Normal.f at h; have H := h
 clear h
 have H' := Aside0.mk H
 clear H
 go_enter Try.func39, Try.ntmps39
 go_wp2
 go_loopg [3, 4] k (fun kq v3 v4 w' => ∃ (x3_1 : List (S66)) (x4_1 : Int), v4 = .int .i64 x4_1 ∧ Aside0 (intrusionref07_Normal.l0 kq l0 x3_1 x4_1 = some r) ∧ Aside0 (kq ≤ k) ∧ Aside0 (Kd.R k66 66 w' w.heap.size (fun _ => True) v3 x3_1) ∧ Aside0 (Below w.heap.size w w'))
 case atStart => exact ⟨(([] : List (S66))), (0), (by first | rfl | (simp; done) | (simp [*]; done)), H', ⟨Nat.le_refl _⟩, ⟨by first | exact Kd.R_nil _ _ _ _ _ | exact Kd.N_nil _ _ _ _ _ | exact Kd.V_nil _ _ _ _ _ | exact Kd.Q_nil _ _ _ _ _ | exact Kd.S_nil _ _ _ _ _⟩, ⟨zB HB⟩⟩
 case round =>
  clear H'
  obtain ⟨x3_1, x4_1, rfl, HA, HK1, HO_3, HB⟩ := hrel
  cases gk with
  | zero => exact absurd HA.out (by simp [intrusionref07_Normal.l0])
  | succ k1 =>
   have H := HA.out
   clear HA
   simp only [intrusionref07_Normal.l0] at H
   by_cases c2 : x4_1 < (l0.length : Int)
   · rw [if_pos c2] at H
     have c2b0 : decide (x4_1 < (l0.length : Int)) = true := decide_eq_true c2
     clear c2
     by_cases c3 : 0 ≤ x4_1
     · rw [if_pos c3] at H
       have c3b0 : decide (0 ≤ x4_1) = true := decide_eq_true c3
       clear c3
       replace H := Option.bind_eq_some_iff.mp H
       obtain ⟨t634, A40, H⟩ := H
       try dsimp only at H
       have A4 := Aside0.mk A40
       clear A40
       by_cases c5 : t634 = true
       · subst c5
         rw [if_pos rfl] at H
         replace H := Option.bind_eq_some_iff.mp H
         obtain ⟨t636, A60, H⟩ := H
         try dsimp only at H
         have A6 := Aside0.mk A60
         clear A60
         have H' := Aside0.mk H
         clear H
         have p633 : 0 ≤ (x4_1 : Int) := za
         have q633 : x4_1 < (l0.length : Int) := za
         obtain ⟨ad633, e633, hx633_0, hx633_1, hx633_2, hx633_3, hx633_4, hx633_5⟩ := at_T66 HR0.out x4_1 p633 q633
         cases e633
         replace hx633_0 := zh HB hx633_0
         replace hx633_1 := zh HB hx633_1
         replace hx633_2 := zh HB hx633_2
         replace hx633_3 := zh HB hx633_3
         replace hx633_4 := zh HB hx633_4
         replace hx633_5 := zh HB hx633_5
         replace p633 := eq_true p633
         replace q633 := eq_true q633
         go_wp2_with (first | ((with_reducible refine gate_callee (f := 78) rfl ?_); refine goesL_ (some 15) rfl rfl Try.func78 (by kernel_rfl) rfl #[.agg #[.bool ((rd_T66 l0 x4_1).f0.f0), .int .u64 ((rd_T66 l0 x4_1).f0.f1), .int .u64 ((rd_T66 l0 x4_1).f0.f2), .bool ((rd_T66 l0 x4_1).f1.f0), .int .u64 ((rd_T66 l0 x4_1).f1.f1), .int .u64 ((rd_T66 l0 x4_1).f1.f2)]] rfl (by (try simp only [List.map_toArray, List.map_cons, List.map_nil]); first | done | rfl | (simp only [List.length_drop, List.length_take]; rfl)) ?_; (with_reducible refine (intrusionref07_Some.calls ((rd_T66 l0 x4_1).f0.f0) ((rd_T66 l0 x4_1).f0.f1) ((rd_T66 l0 x4_1).f0.f2) ((rd_T66 l0 x4_1).f1.f0) ((rd_T66 l0 x4_1).f1.f1) ((rd_T66 l0 x4_1).f1.f2) true _ A4.out).mono ?_); rintro e w7 ⟨rfl, hb⟩; refine ⟨_, rfl, ?_⟩; replace HO_3 := Aside0.mk (Kd.R_below (zR HO_3) hb); replace HB := Aside0.mk (below_step (zB HB) hb); (try clear hb); have p635 : 0 ≤ (x4_1 : Int) := za; have q635 : x4_1 < (l0.length : Int) := za; obtain ⟨ad635, e635, hx635_0, hx635_1, hx635_2, hx635_3, hx635_4, hx635_5⟩ := at_T66 HR0.out x4_1 p635 q635; obtain rfl : ad633 = ad635 := (by injection e635); replace hx635_0 := zh HB hx635_0; replace hx635_1 := zh HB hx635_1; replace hx635_2 := zh HB hx635_2; replace hx635_3 := zh HB hx635_3; replace hx635_4 := zh HB hx635_4; replace hx635_5 := zh HB hx635_5; replace p635 := eq_true p635; replace q635 := eq_true q635; obtain ⟨Ao8, co8, eo8⟩ := Kd.R_slice HO_3.out; subst eo8) | ((with_reducible refine gate_callee (f := 79) rfl ?_); refine goesL_ (some 21) rfl rfl Try.func79 (by kernel_rfl) rfl #[.slice Ao8 x3_1.length co8, .agg #[.bool ((rd_T66 l0 x4_1).f0.f0), .int .u64 ((rd_T66 l0 x4_1).f0.f1), .int .u64 ((rd_T66 l0 x4_1).f0.f2), .bool ((rd_T66 l0 x4_1).f1.f0), .int .u64 ((rd_T66 l0 x4_1).f1.f1), .int .u64 ((rd_T66 l0 x4_1).f1.f2)]] rfl (by (try simp only [List.map_toArray, List.map_cons, List.map_nil]); first | done | rfl | (simp only [List.length_drop, List.length_take]; rfl)) ?_; (with_reducible refine (intrusionref07_add.calls k1 _ _ x3_1 ((rd_T66 l0 x4_1).f0.f0) ((rd_T66 l0 x4_1).f0.f1) ((rd_T66 l0 x4_1).f0.f2) ((rd_T66 l0 x4_1).f1.f0) ((rd_T66 l0 x4_1).f1.f1) ((rd_T66 l0 x4_1).f1.f2) t636 _ ?side1 ?side2 A6.out).mono ?_); (case side1 => repeat (first | exact (Kd.R_reads' HO_3.out).2.2 | (with_reducible refine Kd.C_alloc ?_ _) | (with_reducible refine Kd.C_drewN ?_ _) | (with_reducible refine Kd.C_drew ?_))); (case side2 => exact (Kd.R_reads' HO_3.out).2.1); rintro e w9 ⟨v637, rfl, ho0, hb⟩; refine ⟨_, rfl, ?_⟩; have HO638 := Aside0.mk (Kd.R_lower (Kd.R_new' ho0 (Kd.R_lt (zR HO_3))) (below_size (zB HB))); replace HO_3 := Aside0.mk (Kd.R_elder' (zR HO_3) (Kd.R_base ho0) hb); replace HB := Aside0.mk (below_step (zB HB) hb); (try clear hb); (try clear ho0)))
         go_roundg k1
         case measure => have := HK1.out; omega
         case rel => exact ⟨(t636), (wrap64 (x4_1 + 1)), (by first | rfl | (simp; done) | (simp [*]; done)), H', ⟨by have := HK1.out; omega⟩, ⟨by (with_reducible repeat (first | apply Kd.R_alloc | apply Kd.R_drewN | apply Kd.R_drew)); exact Kd.R_mono HO638.out (fun _ hk => trivial)⟩, ⟨zB HB⟩⟩
       · replace c5 := Bool.eq_false_iff.mpr c5
         subst c5
         rw [if_neg zF] at H
         have H' := Aside0.mk H
         clear H
         have p633 : 0 ≤ (x4_1 : Int) := za
         have q633 : x4_1 < (l0.length : Int) := za
         obtain ⟨ad633, e633, hx633_0, hx633_1, hx633_2, hx633_3, hx633_4, hx633_5⟩ := at_T66 HR0.out x4_1 p633 q633
         cases e633
         replace hx633_0 := zh HB hx633_0
         replace hx633_1 := zh HB hx633_1
         replace hx633_2 := zh HB hx633_2
         replace hx633_3 := zh HB hx633_3
         replace hx633_4 := zh HB hx633_4
         replace hx633_5 := zh HB hx633_5
         replace p633 := eq_true p633
         replace q633 := eq_true q633
         go_wp2_with (first | ((with_reducible refine gate_callee (f := 78) rfl ?_); refine goesL_ (some 15) rfl rfl Try.func78 (by kernel_rfl) rfl #[.agg #[.bool ((rd_T66 l0 x4_1).f0.f0), .int .u64 ((rd_T66 l0 x4_1).f0.f1), .int .u64 ((rd_T66 l0 x4_1).f0.f2), .bool ((rd_T66 l0 x4_1).f1.f0), .int .u64 ((rd_T66 l0 x4_1).f1.f1), .int .u64 ((rd_T66 l0 x4_1).f1.f2)]] rfl (by (try simp only [List.map_toArray, List.map_cons, List.map_nil]); first | done | rfl | (simp only [List.length_drop, List.length_take]; rfl)) ?_; (with_reducible refine (intrusionref07_Some.calls ((rd_T66 l0 x4_1).f0.f0) ((rd_T66 l0 x4_1).f0.f1) ((rd_T66 l0 x4_1).f0.f2) ((rd_T66 l0 x4_1).f1.f0) ((rd_T66 l0 x4_1).f1.f1) ((rd_T66 l0 x4_1).f1.f2) false _ A4.out).mono ?_); rintro e w10 ⟨rfl, hb⟩; refine ⟨_, rfl, ?_⟩; replace HO_3 := Aside0.mk (Kd.R_below (zR HO_3) hb); replace HB := Aside0.mk (below_step (zB HB) hb); (try clear hb)))
         go_roundg k1
         case measure => have := HK1.out; omega
         case rel => exact ⟨(x3_1), (wrap64 (x4_1 + 1)), (by first | rfl | (simp; done) | (simp [*]; done)), H', ⟨by have := HK1.out; omega⟩, ⟨zR HO_3⟩, ⟨zB HB⟩⟩
     · rw [if_neg c3] at H
       exact absurd H (by simp)
   · rw [if_neg c2] at H
     have c2b0 : decide (x4_1 < (l0.length : Int)) = false := decide_eq_false c2
     clear c2
     obtain rfl := Option.some.inj H
     go_wp2
     go_ret
     exact ⟨_, by first | rfl | (simp [errW_none, errW_some] <;> rfl) | (simp [*, errW_none, errW_some] <;> rfl), by (with_reducible repeat (first | apply Kd.R_alloc | apply Kd.R_drewN | apply Kd.R_drew)); exact HO_3.out, by repeat (first | (with_reducible first | exact HB.out | apply below_alloc | apply pw_below_drewN | apply below_drew1) | exact HB.out)⟩
end Go.Proofs.Ytcgfpffgiimgmaa.Q
end

section
namespace Go.Proofs.Ytcgfpffgiimgmaa.Q
open Go.RowKit Go.Proofs.YtcgfpffgiimgmaaW.PrintWords Go.Proofs.YtcgfpffgiimgmaaW.PrintLast Go.Proofs.YtcgfpffgiimgmaaW.PrintMore
attribute [local go_sem] max2_int min2_int max_two min_two max_three min_three max_four min_four
set_option linter.unusedVariables false
set_option linter.unusedSimpArgs false
mutual
def intrusionref07_Complement.l0 : Nat → List (S66) → List (S66) → List (S66) → Int → Option ((List (S66)))
  | 0, _, _, _, _ => none
  | k + 1, x3, x4, x5, x6 => if x6 < 2 then (if 0 ≤ x6 then (if x6 < (x4.length : Int) then (intrusionref07_Complement.l1 k x3 x4 x5 x6 false 0 ((rd_T66 x4 x6).f0.f0) ((rd_T66 x4 x6).f0.f1) ((rd_T66 x4 x6).f0.f2)) else (none)) else (none)) else (some x3)
def intrusionref07_Complement.l1 : Nat → List (S66) → List (S66) → List (S66) → Int → Bool → Int → Bool → Int → Int → Option ((List (S66)))
  | 0, _, _, _, _, _, _, _, _, _ => none
  | k + 1, x3, x4, x5, x6, x8, x9, x860000, x860001, x860002 => if x9 < (x5.length : Int) then (if 0 ≤ x9 then (if (((rd_T66 x5 x9).f0.f0) != x860000) = true then (intrusionref07_Complement.l1 k x3 x4 x5 x6 x8 (wrap64 (x9 + 1)) x860000 x860001 x860002) else ((intrusionref07_Before.f x860000 x860001 x860002 ((rd_T66 x5 x9).f0.f0) ((rd_T66 x5 x9).f0.f1) ((rd_T66 x5 x9).f0.f2)).bind fun t866 => (if t866 = true then ((intrusionref07_Ahead.f ((rd_T66 x5 x9).f0.f0) ((rd_T66 x5 x9).f0.f1) ((rd_T66 x5 x9).f0.f2)).bind fun bt868 => (if x3.length < 2932031007402 then (intrusionref07_Complement.j2 k (x3 ++ [(⟨(⟨x860000, x860001, x860002⟩ : S36), (⟨bt868.1, bt868.2.1, bt868.2.2⟩ : S36)⟩ : S66)]) x4 x5 x6 x9) else (none))) else (intrusionref07_Complement.j2 k x3 x4 x5 x6 x9)))) else (none)) else (if x8 = true then (intrusionref07_Complement.l0 k x3 x4 x5 (wrap64 (x6 + 1))) else (if 0 ≤ x6 then (if x6 < (x4.length : Int) then (if x3.length < 2932031007402 then (intrusionref07_Complement.l0 k (x3 ++ [(⟨(⟨x860000, x860001, x860002⟩ : S36), (⟨(rd_T66 x4 x6).f1.f0, (rd_T66 x4 x6).f1.f1, (rd_T66 x4 x6).f1.f2⟩ : S36)⟩ : S66)]) x4 x5 (wrap64 (x6 + 1))) else (none)) else (none)) else (none)))
def intrusionref07_Complement.j2 : Nat → List (S66) → List (S66) → List (S66) → Int → Int → Option ((List (S66)))
  | 0, _, _, _, _, _ => none
  | k + 1, x3, x4, x5, x6, x9 => if 0 ≤ x9 then (if x9 < (x5.length : Int) then ((intrusionref07_Last.f ((rd_T66 x5 x9).f1.f0) ((rd_T66 x5 x9).f1.f1) ((rd_T66 x5 x9).f1.f2)).bind fun t875 => ((intrusionref07_After.f ((rd_T66 x5 x9).f1.f0) ((rd_T66 x5 x9).f1.f1) ((rd_T66 x5 x9).f1.f2)).bind fun bt877 => (if t875 = true then (if 0 ≤ x6 then (if x6 < (x4.length : Int) then (intrusionref07_Complement.l1 k x3 x4 x5 x6 t875 (wrap64 (x9 + 1)) ((rd_T66 x4 x6).f1.f0) ((rd_T66 x4 x6).f1.f1) ((rd_T66 x4 x6).f1.f2)) else (none)) else (none)) else (intrusionref07_Complement.l1 k x3 x4 x5 x6 t875 (wrap64 (x9 + 1)) bt877.1 bt877.2.1 bt877.2.2)))) else (none)) else (none)
end
def intrusionref07_Complement.f (k : Nat) (l0 : List (S66)) : Option ((List (S66))) := (intrusionref07_All.f).bind fun t852 => ((intrusionref07_Normal.f k l0).bind fun t855 => (intrusionref07_Complement.l0 k ([] : List (S66)) t852 t855 0))
theorem intrusionref07_Complement.mono_l : ∀ k, (∀ y0 y1 y2 y3, LeO (intrusionref07_Complement.l0 k y0 y1 y2 y3) (intrusionref07_Complement.l0 (k + 1) y0 y1 y2 y3)) ∧ (∀ y0 y1 y2 y3 y4 y5 y6 y7 y8, LeO (intrusionref07_Complement.l1 k y0 y1 y2 y3 y4 y5 y6 y7 y8) (intrusionref07_Complement.l1 (k + 1) y0 y1 y2 y3 y4 y5 y6 y7 y8)) ∧ (∀ y0 y1 y2 y3 y4, LeO (intrusionref07_Complement.j2 k y0 y1 y2 y3 y4) (intrusionref07_Complement.j2 (k + 1) y0 y1 y2 y3 y4))
  | 0 => ⟨fun _ _ _ _ r h => by simp [intrusionref07_Complement.l0] at h, fun _ _ _ _ _ _ _ _ _ r h => by simp [intrusionref07_Complement.l1] at h, fun _ _ _ _ _ r h => by simp [intrusionref07_Complement.j2] at h⟩
  | k + 1 => by
    obtain ⟨ih0, ih1, ih2⟩ := intrusionref07_Complement.mono_l k
    refine ⟨?_, ?_, ?_⟩
    · intro y0 y1 y2 y3
      unfold intrusionref07_Complement.l0
      repeat' first
      | (with_reducible exact ih0 _ _ _ _)
      | (with_reducible exact ih1 _ _ _ _ _ _ _ _ _)
      | (with_reducible exact ih2 _ _ _ _ _)
      | (with_reducible exact intrusionref07_Normal.mono _ _)
      | (with_reducible exact LeO.refl _)
      | (with_reducible exact LeO.none _)
      | (with_reducible refine LeO.ite ?_ ?_)
      | (with_reducible refine LeO.bind ?_ (fun _ => ?_))
      | exact ih0 _ _ _ _
      | exact ih1 _ _ _ _ _ _ _ _ _
      | exact ih2 _ _ _ _ _
      | exact intrusionref07_Normal.mono _ _
      | exact LeO.none _
      | refine LeO.ite ?_ ?_
      | refine LeO.bind ?_ (fun _ => ?_)
    · intro y0 y1 y2 y3 y4 y5 y6 y7 y8
      unfold intrusionref07_Complement.l1
      repeat' first
      | (with_reducible exact ih0 _ _ _ _)
      | (with_reducible exact ih1 _ _ _ _ _ _ _ _ _)
      | (with_reducible exact ih2 _ _ _ _ _)
      | (with_reducible exact intrusionref07_Normal.mono _ _)
      | (with_reducible exact LeO.refl _)
      | (with_reducible exact LeO.none _)
      | (with_reducible refine LeO.ite ?_ ?_)
      | (with_reducible refine LeO.bind ?_ (fun _ => ?_))
      | exact ih0 _ _ _ _
      | exact ih1 _ _ _ _ _ _ _ _ _
      | exact ih2 _ _ _ _ _
      | exact intrusionref07_Normal.mono _ _
      | exact LeO.none _
      | refine LeO.ite ?_ ?_
      | refine LeO.bind ?_ (fun _ => ?_)
    · intro y0 y1 y2 y3 y4
      unfold intrusionref07_Complement.j2
      repeat' first
      | (with_reducible exact ih0 _ _ _ _)
      | (with_reducible exact ih1 _ _ _ _ _ _ _ _ _)
      | (with_reducible exact ih2 _ _ _ _ _)
      | (with_reducible exact intrusionref07_Normal.mono _ _)
      | (with_reducible exact LeO.refl _)
      | (with_reducible exact LeO.none _)
      | (with_reducible refine LeO.ite ?_ ?_)
      | (with_reducible refine LeO.bind ?_ (fun _ => ?_))
      | exact ih0 _ _ _ _
      | exact ih1 _ _ _ _ _ _ _ _ _
      | exact ih2 _ _ _ _ _
      | exact intrusionref07_Normal.mono _ _
      | exact LeO.none _
      | refine LeO.ite ?_ ?_
      | refine LeO.bind ?_ (fun _ => ?_)
theorem intrusionref07_Complement.mono : ∀ a0 k, LeO (intrusionref07_Complement.f k a0) (intrusionref07_Complement.f (k + 1) a0) := by
  intro a0 k
  obtain ⟨ih0, ih1, ih2⟩ := intrusionref07_Complement.mono_l k
  unfold intrusionref07_Complement.f
  repeat' first
      | (with_reducible exact ih0 _ _ _ _)
      | (with_reducible exact ih1 _ _ _ _ _ _ _ _ _)
      | (with_reducible exact ih2 _ _ _ _ _)
      | (with_reducible exact intrusionref07_Normal.mono _ _)
      | (with_reducible exact LeO.refl _)
      | (with_reducible exact LeO.none _)
      | (with_reducible refine LeO.ite ?_ ?_)
      | (with_reducible refine LeO.bind ?_ (fun _ => ?_))
      | exact ih0 _ _ _ _
      | exact ih1 _ _ _ _ _ _ _ _ _
      | exact ih2 _ _ _ _ _
      | exact intrusionref07_Normal.mono _ _
      | exact LeO.none _
      | refine LeO.ite ?_ ?_
      | refine LeO.bind ?_ (fun _ => ?_)
def intrusionref07_Complement.T12 : Bool × List (List Nat × List Nat) := (true, [([], []), ([], []), ([0, 1], [0, 1]), ([2], [2]), ([3], [3]), ([4], [4]), ([], []), ([6], [6]), ([5, 7], [5, 7])])
def intrusionref07_Complement.B12 : List Nat := [0, 0, 3, 7, 15, 31, 0, 64, 255]
theorem intrusionref07_Complement.tab12 : rtab .any (opsOf Try.f97 12) = intrusionref07_Complement.T12 := by kernel_rfl
theorem intrusionref07_Complement.bits12 : waitsOk intrusionref07_Complement.T12.2 intrusionref07_Complement.B12 = true := by kernel_rfl
def intrusionref07_Complement.T14 : Bool × List (List Nat × List Nat) := (true, [([], []), ([], []), ([], []), ([], []), ([2, 3], [2, 3]), ([4], [4]), ([5], [5]), ([6], [6]), ([1, 7], [1, 7]), ([8], [8]), ([0, 9, 7], [0, 9]), ([10, 10, 0, 1, 2, 3, 4, 5, 6, 7, 8, 9, 10], [0, 10])])
def intrusionref07_Complement.B14 : List Nat := [0, 0, 0, 0, 12, 28, 60, 124, 254, 510, 1023, 2047]
theorem intrusionref07_Complement.tab14 : rtab .any (opsOf Try.f97 14) = intrusionref07_Complement.T14 := by kernel_rfl
theorem intrusionref07_Complement.bits14 : waitsOk intrusionref07_Complement.T14.2 intrusionref07_Complement.B14 = true := by kernel_rfl
def intrusionref07_Complement.T20 : Bool × List (List Nat × List Nat) := (true, [([], []), ([], []), ([], []), ([], []), ([2, 3], [2, 3]), ([4], [4]), ([5], [5]), ([1, 6], [1, 6]), ([7], [7]), ([0, 8], [0, 8]), ([9, 9, 0, 1, 2, 3, 4, 5, 6, 7, 8, 9], [0, 9])])
def intrusionref07_Complement.B20 : List Nat := [0, 0, 0, 0, 12, 28, 60, 126, 254, 511, 1023]
theorem intrusionref07_Complement.tab20 : rtab .any (opsOf Try.f97 20) = intrusionref07_Complement.T20 := by kernel_rfl
theorem intrusionref07_Complement.bits20 : waitsOk intrusionref07_Complement.T20.2 intrusionref07_Complement.B20 = true := by kernel_rfl
set_option maxHeartbeats 8000000 in
set_option maxRecDepth 100000 in
theorem intrusionref07_Complement.calls (k : Nat) (A0 : Option Addr) (c0 : Nat) (l0 : List (S66)) (r : List (S66)) (w : World) (hr0 : Kd.C k66 w A0 l0.length l0) (hc0 : l0.length ≤ c0) (h : intrusionref07_Complement.f k l0 = some r) :
 Calls Try.prog 97 #[.slice A0 l0.length c0] w fun e w' => ∃ v0_ : Value, e = .returned (v0_) ∧ Kd.R k66 66 w' w.heap.size (fun _ => True) v0_ r ∧ Below w.heap.size w w' := by
 have hu36 := Try.underlying36
 have hu66 := Try.underlying66
 have HR0 := Aside0.mk hr0
 have HC0 := Aside0.mk hc0
 clear hr0 hc0
 have HB := Aside0.mk (Below.refl w.heap.size w)
 unfold intrusionref07_Complement.f at h; have H := h
 clear h
 replace H := Option.bind_eq_some_iff.mp H
 obtain ⟨t852, A20, H⟩ := H
 try dsimp only at H
 have A2 := Aside0.mk A20
 clear A20
 replace H := Option.bind_eq_some_iff.mp H
 obtain ⟨t855, A30, H⟩ := H
 try dsimp only at H
 have A3 := Aside0.mk A30
 clear A30
 have H' := Aside0.mk H
 clear H
 go_enter Try.func97, Try.ntmps97
 go_wp2_with (first | ((with_reducible refine gate_callee (f := 45) rfl ?_); refine goesL_ (some 10) rfl rfl Try.func45 (by kernel_rfl) rfl #[] rfl (by (try simp only [List.map_toArray, List.map_cons, List.map_nil]); first | done | rfl | (simp only [List.length_drop, List.length_take]; rfl)) ?_; (with_reducible refine (intrusionref07_All.calls  t852 _ A2.out).mono ?_); rintro e w4 ⟨v853, rfl, ho0, hb⟩; refine ⟨_, rfl, ?_⟩; have HO854 := Aside0.mk (Kd.R_lower ho0 (below_size (zB HB))); replace HB := Aside0.mk (below_step (zB HB) hb); (try clear hb); (try clear ho0)) | ((with_reducible refine gate_callee (f := 39) rfl ?_); refine goesL_ (some 12) rfl rfl Try.func39 (by kernel_rfl) rfl #[.slice A0 l0.length c0] rfl (by (try simp only [List.map_toArray, List.map_cons, List.map_nil]); first | done | rfl | (simp only [List.length_drop, List.length_take]; rfl)) ?_; (with_reducible refine (intrusionref07_Normal.calls k _ _ l0 t855 _ ?side1 ?side2 A3.out).mono ?_); (case side1 => repeat (first | exact (Kd.C_below HR0.out HB.out) | (with_reducible refine Kd.C_alloc ?_ _) | (with_reducible refine Kd.C_drewN ?_ _) | (with_reducible refine Kd.C_drew ?_))); (case side2 => exact HC0.out); rintro e w5 ⟨v856, rfl, ho0, hb⟩; refine ⟨_, rfl, ?_⟩; have HO857 := Aside0.mk (Kd.R_lower (Kd.R_new' ho0 (Kd.R_lt (zR HO854))) (below_size (zB HB))); replace HO854 := Aside0.mk (Kd.R_elder' (zR HO854) (Kd.R_base ho0) hb); replace HB := Aside0.mk (below_step (zB HB) hb); (try clear hb); (try clear ho0)))
 go_loopg [3, 6] k (fun kq v3 v6 w' => ∃ (x3_1 : List (S66)) (x6_1 : Int), v6 = .int .i64 x6_1 ∧ Aside0 (intrusionref07_Complement.l0 kq x3_1 t852 t855 x6_1 = some r) ∧ Aside0 (kq ≤ k) ∧ Aside0 (Kd.R k66 66 w' w.heap.size (fun k_ => some k_ ≠ (v853 : Value).ownBlock ∧ some k_ ≠ (v856 : Value).ownBlock) v3 x3_1) ∧ Aside0 (Kd.R k66 66 w' w.heap.size (fun k_ => some k_ ≠ (v3 : Value).ownBlock ∧ some k_ ≠ (v856 : Value).ownBlock) v853 t852) ∧ Aside0 (Kd.R k66 66 w' w.heap.size (fun k_ => some k_ ≠ (v3 : Value).ownBlock ∧ some k_ ≠ (v853 : Value).ownBlock) v856 t855) ∧ Aside0 (Below w.heap.size w w'))
 case atStart => exact ⟨(([] : List (S66))), (0), (by first | rfl | (simp; done) | (simp [*]; done)), H', ⟨Nat.le_refl _⟩, ⟨by first | exact Kd.R_nil _ _ _ _ _ | exact Kd.N_nil _ _ _ _ _ | exact Kd.V_nil _ _ _ _ _ | exact Kd.Q_nil _ _ _ _ _ | exact Kd.S_nil _ _ _ _ _⟩, ⟨by (with_reducible repeat (first | apply Kd.R_alloc | apply Kd.R_drewN | apply Kd.R_drew)); exact Kd.R_mono HO854.out (fun _ hk => ⟨(by simp [Value.ownBlock]), hk.2⟩)⟩, ⟨by (with_reducible repeat (first | apply Kd.R_alloc | apply Kd.R_drewN | apply Kd.R_drew)); exact Kd.R_mono HO857.out (fun _ hk => ⟨(by simp [Value.ownBlock]), hk.2⟩)⟩, ⟨zB HB⟩⟩
 case round =>
  clear H'
  try clear p2
  try clear c3
  try clear c4
  obtain ⟨x3_1, x6_1, rfl, HA, HK1, HO_3, HO_4, HO_5, HB⟩ := hrel
  cases gk with
  | zero => exact absurd HA.out (by simp [intrusionref07_Complement.l0])
  | succ k1 =>
   have H := HA.out
   clear HA
   simp only [intrusionref07_Complement.l0] at H
   by_cases c6 : x6_1 < 2
   · rw [if_pos c6] at H
     have c6b0 : decide (x6_1 < 2) = true := decide_eq_true c6
     clear c6
     by_cases c7 : 0 ≤ x6_1
     · rw [if_pos c7] at H
       have c7b0 : decide (0 ≤ x6_1) = true := decide_eq_true c7
       clear c7
       by_cases c8 : x6_1 < (t852.length : Int)
       · rw [if_pos c8] at H
         have c8b0 : decide (x6_1 < (t852.length : Int)) = true := decide_eq_true c8
         clear c8
         have H' := Aside0.mk H
         clear H
         obtain ⟨Ao9, co9, eo9⟩ := Kd.R_slice HO_4.out
         subst eo9
         have p858 : 0 ≤ (x6_1 : Int) := za
         have q858 : x6_1 < (t852.length : Int) := za
         obtain ⟨ad858, e858, hx858_0, hx858_1, hx858_2, hx858_3, hx858_4, hx858_5⟩ := at_T66 (Kd.R_reads' HO_4.out).2.2 x6_1 p858 q858
         cases e858
         replace p858 := eq_true p858
         replace q858 := eq_true q858
         go_wp2_with (first | ((with_reducible refine gate_dst (N := 7) rfl ?_); refine zx 7 #[.bool false, .int .u64 0, .int .u64 0] 36 ?_; intro gb859 hg w10 hbox hb; replace HO_3 := Aside0.mk (Kd.R_below (zR HO_3) hb); replace HO_4 := Aside0.mk (Kd.R_below (zR HO_4) hb); replace HO_5 := Aside0.mk (Kd.R_below (zR HO_5) hb); have BK859 := Aside0.mk (hbox); have GW859 := Aside0.mk ((by rw [hg]; exact (below_size (zB HB)) : w.heap.size ≤ gb859)); have GE859 := Aside0.mk ((by rw [hg]; exact (below_size (zB HB)) : w.heap.size ≤ gb859)); replace HB := Aside0.mk (below_step (zB HB) hb); clear hb hbox hg; obtain ⟨hcz11_0, hcz11_1, hcz11_2⟩ := zc3 BK859; obtain ⟨hfz11_0, hfz11_1, hfz11_2⟩ := zf3 BK859))
         go_loopg [3, 8, 9] k1 (fun kq v3 v8 v9 w' => ∃ (x3_2 : List (S66)) (x8_2 : Bool) (x9_2 : Int) (x860000_2 : Bool) (x860001_2 : Int) (x860002_2 : Int), v8 = .bool x8_2 ∧ v9 = .int .i64 x9_2 ∧ Aside0 (intrusionref07_Complement.l1 kq x3_2 t852 t855 x6_1 x8_2 x9_2 x860000_2 x860001_2 x860002_2 = some r) ∧ Aside0 (kq ≤ k1) ∧ Aside0 (Kd.R k66 66 w' w.heap.size (fun k_ => some k_ ≠ ((.slice (some ad858) t852.length co9) : Value).ownBlock ∧ some k_ ≠ (v856 : Value).ownBlock) v3 x3_2) ∧ Aside0 (Kd.R k66 66 w' w.heap.size (fun k_ => some k_ ≠ (v3 : Value).ownBlock ∧ some k_ ≠ (v856 : Value).ownBlock) (.slice (some ad858) t852.length co9) t852) ∧ Aside0 (Kd.R k66 66 w' w.heap.size (fun k_ => some k_ ≠ (v3 : Value).ownBlock ∧ some k_ ≠ ((.slice (some ad858) t852.length co9) : Value).ownBlock) v856 t855) ∧ Aside0 (w'.heap[gb859]? = some (.cells #[.bool x860000_2, .int .u64 x860001_2, .int .u64 x860002_2] 36 (0, 0))) ∧ Aside0 (Below w.heap.size w w'))
         case atStart => exact ⟨(x3_1), (false), (0), ((rd_T66 t852 x6_1).f0.f0), ((rd_T66 t852 x6_1).f0.f1), ((rd_T66 t852 x6_1).f0.f2), (by first | rfl | (simp; done) | (simp [*]; done)), (by first | rfl | (simp; done) | (simp [*]; done)), H', ⟨Nat.le_refl _⟩, ⟨by (with_reducible repeat (first | apply Kd.R_alloc | apply Kd.R_drewN | apply Kd.R_drew)); exact Kd.R_mono (Kd.R_far (p := ⟨gb859, 2, none⟩) (Kd.R_far (p := ⟨gb859, 1, none⟩) (Kd.R_far (p := ⟨gb859, 0, none⟩) (Kd.R_types HO_3.out BK859.out (by decide)) (fun _ hk => hk.2) (.bool ((rd_T66 t852 x6_1).f0.f0))) (fun _ hk => hk.2) (.int .u64 ((rd_T66 t852 x6_1).f0.f1))) (fun _ hk => hk.2) (.int .u64 ((rd_T66 t852 x6_1).f0.f2))) (fun _ hk => ⟨hk.1.1, hk.1.2⟩)⟩, ⟨by (with_reducible repeat (first | apply Kd.R_alloc | apply Kd.R_drewN | apply Kd.R_drew)); exact Kd.R_mono (Kd.R_far (p := ⟨gb859, 2, none⟩) (Kd.R_far (p := ⟨gb859, 1, none⟩) (Kd.R_far (p := ⟨gb859, 0, none⟩) (Kd.R_types HO_4.out BK859.out (by decide)) (fun _ hk => hk.2) (.bool ((rd_T66 t852 x6_1).f0.f0))) (fun _ hk => hk.2) (.int .u64 ((rd_T66 t852 x6_1).f0.f1))) (fun _ hk => hk.2) (.int .u64 ((rd_T66 t852 x6_1).f0.f2))) (fun _ hk => ⟨hk.1.1, hk.1.2⟩)⟩, ⟨by (with_reducible repeat (first | apply Kd.R_alloc | apply Kd.R_drewN | apply Kd.R_drew)); exact Kd.R_mono (Kd.R_far (p := ⟨gb859, 2, none⟩) (Kd.R_far (p := ⟨gb859, 1, none⟩) (Kd.R_far (p := ⟨gb859, 0, none⟩) (Kd.R_types HO_5.out BK859.out (by decide)) (fun _ hk => hk.2) (.bool ((rd_T66 t852 x6_1).f0.f0))) (fun _ hk => hk.2) (.int .u64 ((rd_T66 t852 x6_1).f0.f1))) (fun _ hk => hk.2) (.int .u64 ((rd_T66 t852 x6_1).f0.f2))) (fun _ hk => ⟨hk.1.1, hk.1.2⟩)⟩, ⟨by refine zL ?_; refine blk_put (cs := #[.bool ((rd_T66 t852 x6_1).f0.f0), .int .u64 ((rd_T66 t852 x6_1).f0.f1), .int .u64 0]) ?_ 2 _ rfl; refine zL ?_; refine blk_put (cs := #[.bool ((rd_T66 t852 x6_1).f0.f0), .int .u64 0, .int .u64 0]) ?_ 1 _ rfl; refine zL ?_; refine blk_put (cs := #[.bool false, .int .u64 0, .int .u64 0]) ?_ 0 _ rfl; refine zL ?_; exact BK859.out⟩, ⟨zB HB⟩⟩
         case round =>
          clear H'
          try clear p2
          try clear c3
          try clear c4
          try clear c6
          try clear c6b0
          try clear c7
          try clear c7b0
          try clear c8
          try clear c8b0
          try clear p8
          try clear q8
          try clear hx8
          try clear c9
          try clear hcz11_0
          try clear hcz11_1
          try clear hcz11_2
          try clear hfz11_0
          try clear hfz11_1
          try clear hfz11_2
          try clear hx858_0
          try clear hx858_1
          try clear hx858_2
          try clear hx858_3
          try clear hx858_4
          try clear hx858_5
          try clear p2
          try clear p858
          try clear q858
          obtain ⟨x3_2, x8_2, x9_2, x860000_2, x860001_2, x860002_2, rfl, rfl, HA, HK2, HO_3, HO_4, HO_5, BK859, HB⟩ := hrel
          cases gk with
          | zero => exact absurd HA.out (by simp [intrusionref07_Complement.l1])
          | succ k2 =>
           have H := HA.out
           clear HA
           simp only [intrusionref07_Complement.l1] at H
           by_cases c12 : x9_2 < (t855.length : Int)
           · rw [if_pos c12] at H
             have c12b0 : decide (x9_2 < (t855.length : Int)) = true := decide_eq_true c12
             clear c12
             by_cases c13 : 0 ≤ x9_2
             · rw [if_pos c13] at H
               have c13b0 : decide (0 ≤ x9_2) = true := decide_eq_true c13
               clear c13
               by_cases c14 : (((rd_T66 t855 x9_2).f0.f0) != x860000_2) = true
               · rw [if_pos c14] at H
                 have c14b0 : (((rd_T66 t855 x9_2).f0.f0) != x860000_2) = true := c14
                 (try (have c14b1 : decide (((rd_T66 t855 x9_2).f0.f0) = x860000_2) = false := by first | (simpa using c14) | exact decide_eq_true (Decidable.not_not.1 (fun hn => c14 (bne_iff_ne.2 hn))) | exact beq_iff_eq.2 (Decidable.not_not.1 (fun hn => c14 (bne_iff_ne.2 hn))) | exact decide_eq_false (bne_iff_ne.1 c14) | exact beq_eq_false_iff_ne.2 (bne_iff_ne.1 c14) | exact bne_iff_ne.1 c14))
                 (try (have c14b2 : (((rd_T66 t855 x9_2).f0.f0) == x860000_2) = false := by first | (simpa using c14) | exact decide_eq_true (Decidable.not_not.1 (fun hn => c14 (bne_iff_ne.2 hn))) | exact beq_iff_eq.2 (Decidable.not_not.1 (fun hn => c14 (bne_iff_ne.2 hn))) | exact decide_eq_false (bne_iff_ne.1 c14) | exact beq_eq_false_iff_ne.2 (bne_iff_ne.1 c14) | exact bne_iff_ne.1 c14))
                 (try (have c14b3 : ¬ (((rd_T66 t855 x9_2).f0.f0) = x860000_2) := by first | (simpa using c14) | exact decide_eq_true (Decidable.not_not.1 (fun hn => c14 (bne_iff_ne.2 hn))) | exact beq_iff_eq.2 (Decidable.not_not.1 (fun hn => c14 (bne_iff_ne.2 hn))) | exact decide_eq_false (bne_iff_ne.1 c14) | exact beq_eq_false_iff_ne.2 (bne_iff_ne.1 c14) | exact bne_iff_ne.1 c14))
                 clear c14
                 have H' := Aside0.mk H
                 clear H
                 obtain ⟨Ao15, co15, eo15⟩ := Kd.R_slice HO_5.out
                 subst eo15
                 try go_wp2
                 replace HO_3 := Aside0.mk (Kd.R_drew HO_3.out)
                 replace HO_4 := Aside0.mk (Kd.R_drew HO_4.out)
                 replace HO_5 := Aside0.mk (Kd.R_drew HO_5.out)
                 replace BK859 := Aside0.mk (blk_drew BK859.out)
                 replace HB := Aside0.mk (below_drew1 HB.out)
                 have p864 : 0 ≤ (x9_2 : Int) := za
                 have q864 : x9_2 < (t855.length : Int) := za
                 obtain ⟨ad864, e864, hx864_0, hx864_1, hx864_2, hx864_3, hx864_4, hx864_5⟩ := at_T66 (Kd.R_reads' HO_5.out).2.2 x9_2 p864 q864
                 cases e864
                 replace p864 := eq_true p864
                 replace q864 := eq_true q864
                 refine start_ (n := 9) (S := fun w' => w'.cell? ⟨gb859, 0, none⟩ = some (.bool x860000_2) ∧ w'.cell? ⟨gb859, 1, none⟩ = some (.int .u64 x860001_2) ∧ w'.cell? ⟨gb859, 2, none⟩ = some (.int .u64 x860002_2) ∧ w'.cell? (ad864.add ((x9_2).toNat * 6)) = some (.bool ((rd_T66 t855 x9_2).f0.f0)) ∧ w'.cell? ⟨(ad864.add ((x9_2).toNat * 6)).block, (ad864.add ((x9_2).toNat * 6)).off + 1, none⟩ = some (.int .u64 ((rd_T66 t855 x9_2).f0.f1)) ∧ w'.cell? ⟨(ad864.add ((x9_2).toNat * 6)).block, (ad864.add ((x9_2).toNat * 6)).off + 2, none⟩ = some (.int .u64 ((rd_T66 t855 x9_2).f0.f2)) ∧ w'.cell? ⟨(ad864.add ((x9_2).toNat * 6)).block, (ad864.add ((x9_2).toNat * 6)).off + 3, none⟩ = some (.bool ((rd_T66 t855 x9_2).f1.f0)) ∧ w'.cell? ⟨(ad864.add ((x9_2).toNat * 6)).block, (ad864.add ((x9_2).toNat * 6)).off + 4, none⟩ = some (.int .u64 ((rd_T66 t855 x9_2).f1.f1)) ∧ w'.cell? ⟨(ad864.add ((x9_2).toNat * 6)).block, (ad864.add ((x9_2).toNat * 6)).off + 5, none⟩ = some (.int .u64 ((rd_T66 t855 x9_2).f1.f2))) (ds := []) #[false, false, false, false, false, false, false, false, false] (by kernel_rfl) rfl rfl ⟨zc BK859 0, zc BK859 1, zc BK859 2, hx864_0, hx864_1, hx864_2, hx864_3, hx864_4, hx864_5⟩ (fun hHeld => ?_); refine with_tabW intrusionref07_Complement.tab12 intrusionref07_Complement.bits12 (fun HT_ HW_ => ?_)
                 generalize wr.drew = w16 at HO_3 HO_4 HO_5 BK859 HB hx864_0 hx864_1 hx864_2 hx864_3 hx864_4 hx864_5 hHeld ⊢
                 refine zp 0 28 HT_ ?_; refine zp 1 29 HT_ ?_; refine zp 2 30 HT_ ?_; refine zp 3 31 HT_ ?_; refine zp 4 32 HT_ ?_; refine zp 6 34 HT_ ?_; refine zt 5 33 HT_ HW_ hHeld ?_; refine zt 7 35 HT_ HW_ hHeld ?_; refine zp 8 36 HT_ ?_; refine zd HT_ ?_
                 try go_wp2
                 go_roundg k2
                 case measure => have := HK1.out; have := HK2.out; omega
                 case rel => exact ⟨(x3_2), (x8_2), (wrap64 (x9_2 + 1)), (x860000_2), (x860001_2), (x860002_2), (by first | rfl | (simp; done) | (simp [*]; done)), (by first | rfl | (simp; done) | (simp [*]; done)), H', ⟨by have := HK1.out; have := HK2.out; omega⟩, ⟨zR HO_3⟩, ⟨zR HO_4⟩, ⟨zR HO_5⟩, ⟨zK BK859⟩, ⟨zB HB⟩⟩
               · rw [if_neg c14] at H
                 have c14b0 : (((rd_T66 t855 x9_2).f0.f0) != x860000_2) = false := by simpa using c14
                 (try (have c14b1 : decide (((rd_T66 t855 x9_2).f0.f0) = x860000_2) = true := by first | (simpa using c14) | exact decide_eq_true (Decidable.not_not.1 (fun hn => c14 (bne_iff_ne.2 hn))) | exact beq_iff_eq.2 (Decidable.not_not.1 (fun hn => c14 (bne_iff_ne.2 hn))) | exact decide_eq_false (bne_iff_ne.1 c14) | exact beq_eq_false_iff_ne.2 (bne_iff_ne.1 c14) | exact bne_iff_ne.1 c14))
                 (try (have c14b2 : (((rd_T66 t855 x9_2).f0.f0) == x860000_2) = true := by first | (simpa using c14) | exact decide_eq_true (Decidable.not_not.1 (fun hn => c14 (bne_iff_ne.2 hn))) | exact beq_iff_eq.2 (Decidable.not_not.1 (fun hn => c14 (bne_iff_ne.2 hn))) | exact decide_eq_false (bne_iff_ne.1 c14) | exact beq_eq_false_iff_ne.2 (bne_iff_ne.1 c14) | exact bne_iff_ne.1 c14))
                 clear c14
                 replace H := Option.bind_eq_some_iff.mp H
                 obtain ⟨t866, A170, H⟩ := H
                 try dsimp only at H
                 have A17 := Aside0.mk A170
                 clear A170
                 have HC18 := Aside0.mk H
                 clear H
                 obtain ⟨Ao19, co19, eo19⟩ := Kd.R_slice HO_5.out
                 subst eo19
                 try go_wp2
                 replace HO_3 := Aside0.mk (Kd.R_drew HO_3.out)
                 replace HO_4 := Aside0.mk (Kd.R_drew HO_4.out)
                 replace HO_5 := Aside0.mk (Kd.R_drew HO_5.out)
                 replace BK859 := Aside0.mk (blk_drew BK859.out)
                 replace HB := Aside0.mk (below_drew1 HB.out)
                 have p864 : 0 ≤ (x9_2 : Int) := za
                 have q864 : x9_2 < (t855.length : Int) := za
                 obtain ⟨ad864, e864, hx864_0, hx864_1, hx864_2, hx864_3, hx864_4, hx864_5⟩ := at_T66 (Kd.R_reads' HO_5.out).2.2 x9_2 p864 q864
                 cases e864
                 replace p864 := eq_true p864
                 replace q864 := eq_true q864
                 refine start_ (n := 9) (S := fun w' => w'.cell? ⟨gb859, 0, none⟩ = some (.bool x860000_2) ∧ w'.cell? ⟨gb859, 1, none⟩ = some (.int .u64 x860001_2) ∧ w'.cell? ⟨gb859, 2, none⟩ = some (.int .u64 x860002_2) ∧ w'.cell? (ad864.add ((x9_2).toNat * 6)) = some (.bool ((rd_T66 t855 x9_2).f0.f0)) ∧ w'.cell? ⟨(ad864.add ((x9_2).toNat * 6)).block, (ad864.add ((x9_2).toNat * 6)).off + 1, none⟩ = some (.int .u64 ((rd_T66 t855 x9_2).f0.f1)) ∧ w'.cell? ⟨(ad864.add ((x9_2).toNat * 6)).block, (ad864.add ((x9_2).toNat * 6)).off + 2, none⟩ = some (.int .u64 ((rd_T66 t855 x9_2).f0.f2)) ∧ w'.cell? ⟨(ad864.add ((x9_2).toNat * 6)).block, (ad864.add ((x9_2).toNat * 6)).off + 3, none⟩ = some (.bool ((rd_T66 t855 x9_2).f1.f0)) ∧ w'.cell? ⟨(ad864.add ((x9_2).toNat * 6)).block, (ad864.add ((x9_2).toNat * 6)).off + 4, none⟩ = some (.int .u64 ((rd_T66 t855 x9_2).f1.f1)) ∧ w'.cell? ⟨(ad864.add ((x9_2).toNat * 6)).block, (ad864.add ((x9_2).toNat * 6)).off + 5, none⟩ = some (.int .u64 ((rd_T66 t855 x9_2).f1.f2))) (ds := []) #[false, false, false, false, false, false, false, false, false] (by kernel_rfl) rfl rfl ⟨zc BK859 0, zc BK859 1, zc BK859 2, hx864_0, hx864_1, hx864_2, hx864_3, hx864_4, hx864_5⟩ (fun hHeld => ?_); refine with_tabW intrusionref07_Complement.tab12 intrusionref07_Complement.bits12 (fun HT_ HW_ => ?_)
                 generalize wr.drew = w20 at HO_3 HO_4 HO_5 BK859 HB hx864_0 hx864_1 hx864_2 hx864_3 hx864_4 hx864_5 hHeld ⊢
                 refine zp 0 28 HT_ ?_; refine zp 1 29 HT_ ?_; refine zp 2 30 HT_ ?_; refine zp 3 31 HT_ ?_; refine zp 4 32 HT_ ?_; refine zp 6 34 HT_ ?_; refine zt 5 33 HT_ HW_ hHeld ?_; refine zt 7 35 HT_ HW_ hHeld ?_; refine zp 8 36 HT_ ?_; refine zd HT_ ?_
                 try go_wp2
                 replace HO_3 := Aside0.mk (Kd.R_drew HO_3.out)
                 replace HO_4 := Aside0.mk (Kd.R_drew HO_4.out)
                 replace HO_5 := Aside0.mk (Kd.R_drew HO_5.out)
                 replace BK859 := Aside0.mk (blk_drew BK859.out)
                 replace HB := Aside0.mk (below_drew1 HB.out)
                 have p865 : 0 ≤ (x9_2 : Int) := za
                 have q865 : x9_2 < (t855.length : Int) := za
                 obtain ⟨ad865, e865, hx865_0, hx865_1, hx865_2, hx865_3, hx865_4, hx865_5⟩ := at_T66 (Kd.R_reads' HO_5.out).2.2 x9_2 p865 q865
                 obtain rfl : ad864 = ad865 := (by injection e865)
                 replace p865 := eq_true p865
                 replace q865 := eq_true q865
                 refine start_ (n := 7) (S := fun w' => w'.cell? ⟨gb859, 0, none⟩ = some (.bool x860000_2) ∧ w'.cell? ⟨gb859, 1, none⟩ = some (.int .u64 x860001_2) ∧ w'.cell? ⟨gb859, 2, none⟩ = some (.int .u64 x860002_2) ∧ w'.cell? (ad864.add ((x9_2).toNat * 6)) = some (.bool ((rd_T66 t855 x9_2).f0.f0)) ∧ w'.cell? ⟨(ad864.add ((x9_2).toNat * 6)).block, (ad864.add ((x9_2).toNat * 6)).off + 1, none⟩ = some (.int .u64 ((rd_T66 t855 x9_2).f0.f1)) ∧ w'.cell? ⟨(ad864.add ((x9_2).toNat * 6)).block, (ad864.add ((x9_2).toNat * 6)).off + 2, none⟩ = some (.int .u64 ((rd_T66 t855 x9_2).f0.f2)) ∧ w'.cell? ⟨(ad864.add ((x9_2).toNat * 6)).block, (ad864.add ((x9_2).toNat * 6)).off + 3, none⟩ = some (.bool ((rd_T66 t855 x9_2).f1.f0)) ∧ w'.cell? ⟨(ad864.add ((x9_2).toNat * 6)).block, (ad864.add ((x9_2).toNat * 6)).off + 4, none⟩ = some (.int .u64 ((rd_T66 t855 x9_2).f1.f1)) ∧ w'.cell? ⟨(ad864.add ((x9_2).toNat * 6)).block, (ad864.add ((x9_2).toNat * 6)).off + 5, none⟩ = some (.int .u64 ((rd_T66 t855 x9_2).f1.f2))) (ds := []) #[false, false, false, false, false, false, false] (by kernel_rfl) rfl rfl ⟨zc BK859 0, zc BK859 1, zc BK859 2, hx865_0, hx865_1, hx865_2, hx865_3, hx865_4, hx865_5⟩ (fun hHeld => ?_)
                 generalize w20.drew = w21 at HO_3 HO_4 HO_5 BK859 HB hx865_0 hx865_1 hx865_2 hx865_3 hx865_4 hx865_5 hHeld ⊢
                 refine zp0 1 38 ?_; refine zp0 2 39 ?_; refine zp0 3 40 ?_; refine zp0 4 41 ?_; refine zt0 0 37 hHeld ?_; refine zt0 5 42 hHeld ?_; refine zo0 6 43 (fun K hK => ?_)
                 refine zg Try.func80 #[.agg #[.bool x860000_2, .int .u64 x860001_2, .int .u64 x860002_2], .agg #[.bool ((rd_T66 t855 x9_2).f0.f0), .int .u64 ((rd_T66 t855 x9_2).f0.f1), .int .u64 ((rd_T66 t855 x9_2).f0.f2)]] ?_
                 with_reducible refine (intrusionref07_Before.calls x860000_2 x860001_2 x860002_2 ((rd_T66 t855 x9_2).f0.f0) ((rd_T66 t855 x9_2).f0.f1) ((rd_T66 t855 x9_2).f0.f2) t866 _ A17.out).mono ?_
                 rintro e w22 ⟨rfl, hb⟩
                 have HS3_ := (hb.cell (World.block_lt_of_cell? _ _ (hHeld.2.2.2.1))).trans (hHeld.2.2.2.1)
                 have HS4_ := (hb.cell (World.block_lt_of_cell? _ _ (hHeld.2.2.2.2.1))).trans (hHeld.2.2.2.2.1)
                 have HS5_ := (hb.cell (World.block_lt_of_cell? _ _ (hHeld.2.2.2.2.2.1))).trans (hHeld.2.2.2.2.2.1)
                 have HS6_ := (hb.cell (World.block_lt_of_cell? _ _ (hHeld.2.2.2.2.2.2.1))).trans (hHeld.2.2.2.2.2.2.1)
                 have HS7_ := (hb.cell (World.block_lt_of_cell? _ _ (hHeld.2.2.2.2.2.2.2.1))).trans (hHeld.2.2.2.2.2.2.2.1)
                 have HS8_ := (hb.cell (World.block_lt_of_cell? _ _ (hHeld.2.2.2.2.2.2.2.2))).trans (hHeld.2.2.2.2.2.2.2.2)
                 refine ⟨_, rfl, ?_⟩
                 replace HO_3 := Aside0.mk (Kd.R_below (zR HO_3) hb)
                 replace HO_4 := Aside0.mk (Kd.R_below (zR HO_4) hb)
                 replace HO_5 := Aside0.mk (Kd.R_below (zR HO_5) hb)
                 replace BK859 := Aside0.mk (blk_below (g := gb859) (o := .cells #[.bool x860000_2, .int .u64 x860001_2, .int .u64 x860002_2] 36 (0, 0)) (zK BK859) hb)
                 replace HB := Aside0.mk (below_step (zB HB) hb)
                 (try clear hb)
                 refine hK.out _ _ ⟨zc BK859 0, zc BK859 1, zc BK859 2, HS3_, HS4_, HS5_, HS6_, HS7_, HS8_⟩ (fun hHeld => ?_)
                 clear hK K
                 refine zn 43 ?_; refine zd0 ?_
                 go_upto_if 43 with (fail)
                 go_cut [3] (fun v3 wc => ∃ (kq : Nat) (x3_17 : List (S66)), Aside0 (intrusionref07_Complement.j2 kq x3_17 t852 t855 x6_1 x9_2 = some r) ∧ Aside0 (kq ≤ k2) ∧ Aside0 (Kd.R k66 66 wc w.heap.size (fun k_ => some k_ ≠ ((.slice (some ad858) t852.length co9) : Value).ownBlock ∧ some k_ ≠ ((.slice (some ad864) t855.length co19) : Value).ownBlock) v3 x3_17) ∧ Aside0 (Kd.R k66 66 wc w.heap.size (fun k_ => some k_ ≠ (v3 : Value).ownBlock ∧ some k_ ≠ ((.slice (some ad864) t855.length co19) : Value).ownBlock) (.slice (some ad858) t852.length co9) t852) ∧ Aside0 (Kd.R k66 66 wc w.heap.size (fun k_ => some k_ ≠ (v3 : Value).ownBlock ∧ some k_ ≠ ((.slice (some ad858) t852.length co9) : Value).ownBlock) (.slice (some ad864) t855.length co19) t855) ∧ Aside0 (wc.heap[gb859]? = some (.cells #[.bool x860000_2, .int .u64 x860001_2, .int .u64 x860002_2] 36 (0, 0))) ∧ Aside0 (Below w.heap.size w wc))
                 case first =>
                  have H := HC18.out
                  clear HC18
                  by_cases c23 : t866 = true
                  · subst c23
                    rw [if_pos rfl] at H
                    replace H := Option.bind_eq_some_iff.mp H
                    obtain ⟨⟨t868, t869, t870⟩, A240, H⟩ := H
                    try dsimp only at H
                    have A24 := Aside0.mk A240
                    clear A240
                    by_cases c25 : x3_2.length < 2932031007402
                    · rw [if_pos c25] at H
                      have LMc25 := Aside0.mk c25
                      clear c25
                      obtain ⟨y871, hy871⟩ : ∃ y_ : List (S66), y_ = (x3_2 ++ [(⟨(⟨x860000_2, x860001_2, x860002_2⟩ : S36), (⟨t868, t869, t870⟩ : S36)⟩ : S66)]) := ⟨_, rfl⟩
                      rw [← hy871] at H; try dsimp only [Option.bind_some] at H
                      have Ny871 := Aside0.mk hy871
                      clear hy871
                      have H' := Aside0.mk H
                      clear H
                      try go_wp2
                      replace HO_3 := Aside0.mk (Kd.R_drew HO_3.out)
                      replace HO_4 := Aside0.mk (Kd.R_drew HO_4.out)
                      replace HO_5 := Aside0.mk (Kd.R_drew HO_5.out)
                      replace BK859 := Aside0.mk (blk_drew BK859.out)
                      replace HB := Aside0.mk (below_drew1 HB.out)
                      have p867 : 0 ≤ (x9_2 : Int) := za
                      have q867 : x9_2 < (t855.length : Int) := za
                      obtain ⟨ad867, e867, hx867_0, hx867_1, hx867_2, hx867_3, hx867_4, hx867_5⟩ := at_T66 (Kd.R_reads' HO_5.out).2.2 x9_2 p867 q867
                      obtain rfl : ad864 = ad867 := (by injection e867)
                      replace p867 := eq_true p867
                      replace q867 := eq_true q867
                      refine start_ (n := 12) (S := fun w' => w'.cell? ⟨gb859, 0, none⟩ = some (.bool x860000_2) ∧ w'.cell? ⟨gb859, 1, none⟩ = some (.int .u64 x860001_2) ∧ w'.cell? ⟨gb859, 2, none⟩ = some (.int .u64 x860002_2) ∧ w'.cell? (ad864.add ((x9_2).toNat * 6)) = some (.bool ((rd_T66 t855 x9_2).f0.f0)) ∧ w'.cell? ⟨(ad864.add ((x9_2).toNat * 6)).block, (ad864.add ((x9_2).toNat * 6)).off + 1, none⟩ = some (.int .u64 ((rd_T66 t855 x9_2).f0.f1)) ∧ w'.cell? ⟨(ad864.add ((x9_2).toNat * 6)).block, (ad864.add ((x9_2).toNat * 6)).off + 2, none⟩ = some (.int .u64 ((rd_T66 t855 x9_2).f0.f2)) ∧ w'.cell? ⟨(ad864.add ((x9_2).toNat * 6)).block, (ad864.add ((x9_2).toNat * 6)).off + 3, none⟩ = some (.bool ((rd_T66 t855 x9_2).f1.f0)) ∧ w'.cell? ⟨(ad864.add ((x9_2).toNat * 6)).block, (ad864.add ((x9_2).toNat * 6)).off + 4, none⟩ = some (.int .u64 ((rd_T66 t855 x9_2).f1.f1)) ∧ w'.cell? ⟨(ad864.add ((x9_2).toNat * 6)).block, (ad864.add ((x9_2).toNat * 6)).off + 5, none⟩ = some (.int .u64 ((rd_T66 t855 x9_2).f1.f2))) (ds := [9, 10]) #[false, false, false, false, false, false, false, false, false, false, false, false] (by kernel_rfl) rfl rfl ⟨zc BK859 0, zc BK859 1, zc BK859 2, hx867_0, hx867_1, hx867_2, hx867_3, hx867_4, hx867_5⟩ (fun hHeld => ?_); refine with_tabW intrusionref07_Complement.tab14 intrusionref07_Complement.bits14 (fun HT_ HW_ => ?_)
                      generalize w22.drew = w26 at HO_3 HO_4 HO_5 BK859 HB hx867_0 hx867_1 hx867_2 hx867_3 hx867_4 hx867_5 hHeld ⊢
                      refine zp 0 44 HT_ ?_; refine zp 2 46 HT_ ?_; refine zp 3 47 HT_ ?_; refine zp 4 48 HT_ ?_; refine zp 5 49 HT_ ?_; refine zt 1 45 HT_ HW_ hHeld ?_; refine zt 6 50 HT_ HW_ hHeld ?_; refine zo 7 51 HT_ (fun K hK => ?_)
                      refine zg Try.func116 #[.agg #[.bool ((rd_T66 t855 x9_2).f0.f0), .int .u64 ((rd_T66 t855 x9_2).f0.f1), .int .u64 ((rd_T66 t855 x9_2).f0.f2)]] ?_
                      with_reducible refine (intrusionref07_Ahead.calls ((rd_T66 t855 x9_2).f0.f0) ((rd_T66 t855 x9_2).f0.f1) ((rd_T66 t855 x9_2).f0.f2) t868 t869 t870 _ A24.out).mono ?_
                      rintro e w27 ⟨rfl, hb⟩
                      have HS3_ := (hb.cell (World.block_lt_of_cell? _ _ (hHeld.2.2.2.1))).trans (hHeld.2.2.2.1)
                      have HS4_ := (hb.cell (World.block_lt_of_cell? _ _ (hHeld.2.2.2.2.1))).trans (hHeld.2.2.2.2.1)
                      have HS5_ := (hb.cell (World.block_lt_of_cell? _ _ (hHeld.2.2.2.2.2.1))).trans (hHeld.2.2.2.2.2.1)
                      have HS6_ := (hb.cell (World.block_lt_of_cell? _ _ (hHeld.2.2.2.2.2.2.1))).trans (hHeld.2.2.2.2.2.2.1)
                      have HS7_ := (hb.cell (World.block_lt_of_cell? _ _ (hHeld.2.2.2.2.2.2.2.1))).trans (hHeld.2.2.2.2.2.2.2.1)
                      have HS8_ := (hb.cell (World.block_lt_of_cell? _ _ (hHeld.2.2.2.2.2.2.2.2))).trans (hHeld.2.2.2.2.2.2.2.2)
                      refine ⟨_, rfl, ?_⟩
                      replace HO_3 := Aside0.mk (Kd.R_below (zR HO_3) hb)
                      replace HO_4 := Aside0.mk (Kd.R_below (zR HO_4) hb)
                      replace HO_5 := Aside0.mk (Kd.R_below (zR HO_5) hb)
                      replace BK859 := Aside0.mk (blk_below (g := gb859) (o := .cells #[.bool x860000_2, .int .u64 x860001_2, .int .u64 x860002_2] 36 (0, 0)) (zK BK859) hb)
                      replace HB := Aside0.mk (below_step (zB HB) hb)
                      (try clear hb)
                      refine hK.out _ _ ⟨zc BK859 0, zc BK859 1, zc BK859 2, HS3_, HS4_, HS5_, HS6_, HS7_, HS8_⟩ (fun hHeld => ?_)
                      clear hK K
                      refine zn 51 ?_; refine zp 8 52 HT_ ?_
                      refine last_ (i := 9) (N := some 53) #[true, true, true, true, true, true, true, true, true, true, false, false] rfl rfl (one_of HT_.out (by kernel_rfl)) (by decide) (fun K hK => ?_)
                      refine value_ (w1 := ?_) (v := ?_) (by rfl) rfl ?_ ?_
                      rotate_left 2
                      · go_simp
                        constructor
                        · rfl
                        · rfl
                      refine hK.out _ _ ?_
                      clear hK K
                      refine zn 53 ?_
                      refine last_ (i := 10) (N := some 54) #[true, true, true, true, true, true, true, true, true, true, true, false] rfl rfl (one_of HT_.out (by kernel_rfl)) (by decide) (fun K hK => ?_)
                      refine Kd.R_append_step k66 (w0 := w) w.heap.size (by rfl) (.tmp 44) (.tmp 53) 33 66 (.agg #[(.bool false), (.int .u64 0), (.int .u64 0), (.bool false), (.int .u64 0), (.int .u64 0)]) 48 rfl Try.underlying33 info66 rfl (by decide) (by omega) u3 x3_2 (⟨(⟨x860000_2, x860001_2, x860002_2⟩ : S36), (⟨t868, t869, t870⟩ : S36)⟩ : S66) [.bool x860000_2, .int .u64 x860001_2, .int .u64 x860002_2, .bool t868, .int .u64 t869, .int .u64 t870] (fun k_ => some k_ ≠ (.slice (some ad858) t852.length co9 : Value).ownBlock ∧ some k_ ≠ (.slice (some ad864) t855.length co19 : Value).ownBlock) (fun _ => False) rfl rfl ?aP (fun _ hk => hk.elim) ?aF ?aO ?aB ?aS ?aL ?_
                      (case aP => exact k66_mkM _ _ _ (⟨(⟨x860000_2, x860001_2, x860002_2⟩ : S36), (⟨t868, t869, t870⟩ : S36)⟩ : S66))
                      (case aB => exact (zB HB))
                      (case aF => exact (fun k_ hk => ⟨Kd.fresh' (Kd.R_lt (zR HO_4)) k_ hk, Kd.fresh' (Kd.R_lt (zR HO_5)) k_ hk⟩))
                      (case aO => exact (zR HO_3))
                      (case aS => exact (below_size (zB HB)))
                      (case aL => have := LMc25.out; omega)
                      intro v872 w28 ho hb hg hat
                      rw [← Ny871.out] at ho
                      replace HO_4 := Aside0.mk (Kd.R_after (ok := (fun k_ => some k_ ≠ (.slice (some ad864) t855.length co19 : Value).ownBlock)) (by (with_reducible repeat (first | apply Kd.R_alloc | apply Kd.R_drewN | apply Kd.R_drew)); exact Kd.R_mono HO_4.out (fun _ hk => ⟨hk.2, hk.1⟩)) hg hat)
                      replace HO_5 := Aside0.mk (Kd.R_after (ok := (fun k_ => some k_ ≠ (.slice (some ad858) t852.length co9 : Value).ownBlock)) (by (with_reducible repeat (first | apply Kd.R_alloc | apply Kd.R_drewN | apply Kd.R_drew)); exact Kd.R_mono HO_5.out (fun _ hk => ⟨hk.2, hk.1⟩)) hg hat)
                      replace BK859 := Aside0.mk (blk_grown (g := gb859) (o := .cells #[.bool x860000_2, .int .u64 x860001_2, .int .u64 x860002_2] 36 (0, 0)) (zK BK859) hg (Kd.R_ne HO_3.out BK859.out (by decide)))
                      replace HB := Aside0.mk (hb)
                      have HO873 := Aside0.mk (ho)
                      clear HO_3
                      clear ho hb hg hat
                      refine hK.out _ _ ?_
                      clear hK K
                      refine zn 54 ?_; refine zp 11 3 HT_ ?_; refine zd HT_ ?_
                      try go_wp2
                      go_meet
                      case rel => exact ⟨_, (y871), H', ⟨by have := HK1.out; have := HK2.out; first | omega | exact Nat.le_refl _⟩, ⟨zR HO873⟩, ⟨by (with_reducible repeat (first | apply Kd.R_alloc | apply Kd.R_drewN | apply Kd.R_drew)); exact Kd.R_mono HO_4.out (fun _ hk => ⟨hk.2, hk.1⟩)⟩, ⟨by (with_reducible repeat (first | apply Kd.R_alloc | apply Kd.R_drewN | apply Kd.R_drew)); exact Kd.R_mono HO_5.out (fun _ hk => ⟨hk.2, hk.1⟩)⟩, ⟨zK BK859⟩, ⟨zB HB⟩⟩
                    · rw [if_neg c25] at H
                      exact absurd H (by simp)
                  · replace c23 := Bool.eq_false_iff.mpr c23
                    subst c23
                    rw [if_neg zF] at H
                    have H' := Aside0.mk H
                    clear H
                    go_wp2
                    go_meet
                    case rel => exact ⟨_, (x3_2), H', ⟨by have := HK1.out; have := HK2.out; first | omega | exact Nat.le_refl _⟩, ⟨zR HO_3⟩, ⟨zR HO_4⟩, ⟨zR HO_5⟩, ⟨zK BK859⟩, ⟨zB HB⟩⟩
                 case rest =>
                  clear HC18
                  try clear c1
                  try clear c2
                  try clear p2
                  try clear p6
                  try clear c8
                  try clear c8b0
                  try clear p8
                  try clear q8
                  try clear hx8
                  try clear c9
                  try clear c11
                  try clear c12
                  try clear c12b0
                  try clear c13
                  try clear c13b0
                  try clear c14
                  try clear c14b0
                  try clear c14b1
                  try clear c14b2
                  try clear c23
                  try clear c25
                  try clear hcz11_0
                  try clear hcz11_1
                  try clear hcz11_2
                  try clear hfz11_0
                  try clear hfz11_1
                  try clear hfz11_2
                  try clear hx858_0
                  try clear hx858_1
                  try clear hx858_2
                  try clear hx858_3
                  try clear hx858_4
                  try clear hx858_5
                  try clear hx864_0
                  try clear hx864_1
                  try clear hx864_2
                  try clear hx864_3
                  try clear hx864_4
                  try clear hx864_5
                  try clear hx865_0
                  try clear hx865_1
                  try clear hx865_2
                  try clear hx865_3
                  try clear hx865_4
                  try clear hx865_5
                  try clear hx867_0
                  try clear hx867_1
                  try clear hx867_2
                  try clear hx867_3
                  try clear hx867_4
                  try clear hx867_5
                  try clear p2
                  try clear p8
                  try clear p858
                  try clear p864
                  try clear p865
                  try clear p867
                  try clear q8
                  try clear q858
                  try clear q864
                  try clear q865
                  try clear q867
                  obtain ⟨kq, x3_17, HA, HJ17, HO_3, HO_4, HO_5, BK859, HB⟩ := hcut
                  cases kq with
                  | zero => exact absurd HA.out (by simp [intrusionref07_Complement.j2])
                  | succ kj17 =>
                   have H := HA.out
                   clear HA
                   simp only [intrusionref07_Complement.j2] at H
                   by_cases c29 : 0 ≤ x9_2
                   · rw [if_pos c29] at H
                     have c29b0 : decide (0 ≤ x9_2) = true := decide_eq_true c29
                     clear c29
                     by_cases c30 : x9_2 < (t855.length : Int)
                     · rw [if_pos c30] at H
                       have c30b0 : decide (x9_2 < (t855.length : Int)) = true := decide_eq_true c30
                       clear c30
                       replace H := Option.bind_eq_some_iff.mp H
                       obtain ⟨t875, A310, H⟩ := H
                       try dsimp only at H
                       have A31 := Aside0.mk A310
                       clear A310
                       replace H := Option.bind_eq_some_iff.mp H
                       obtain ⟨⟨t877, t878, t879⟩, A320, H⟩ := H
                       try dsimp only at H
                       have A32 := Aside0.mk A320
                       clear A320
                       by_cases c33 : t875 = true
                       · subst c33
                         rw [if_pos rfl] at H
                         by_cases c34 : 0 ≤ x6_1
                         · rw [if_pos c34] at H
                           have c34b0 : decide (0 ≤ x6_1) = true := decide_eq_true c34
                           clear c34
                           by_cases c35 : x6_1 < (t852.length : Int)
                           · rw [if_pos c35] at H
                             have c35b0 : decide (x6_1 < (t852.length : Int)) = true := decide_eq_true c35
                             clear c35
                             have H' := Aside0.mk H
                             clear H
                             have p874 : 0 ≤ (x9_2 : Int) := za
                             have q874 : x9_2 < (t855.length : Int) := za
                             obtain ⟨ad874, e874, hx874_0, hx874_1, hx874_2, hx874_3, hx874_4, hx874_5⟩ := at_T66 (Kd.R_reads' HO_5.out).2.2 x9_2 p874 q874
                             obtain rfl : ad864 = ad874 := (by injection e874)
                             replace p874 := eq_true p874
                             replace q874 := eq_true q874
                             go_wp2_with (first | ((with_reducible refine gate_callee (f := 106) rfl ?_); refine goesL_ (some 60) rfl rfl Try.func106 (by kernel_rfl) rfl #[.agg #[.bool ((rd_T66 t855 x9_2).f1.f0), .int .u64 ((rd_T66 t855 x9_2).f1.f1), .int .u64 ((rd_T66 t855 x9_2).f1.f2)]] rfl (by (try simp only [List.map_toArray, List.map_cons, List.map_nil]); first | done | rfl | (simp only [List.length_drop, List.length_take]; rfl)) ?_; (with_reducible refine (intrusionref07_Last.calls ((rd_T66 t855 x9_2).f1.f0) ((rd_T66 t855 x9_2).f1.f1) ((rd_T66 t855 x9_2).f1.f2) true _ A31.out).mono ?_); rintro e w36 ⟨rfl, hb⟩; refine ⟨_, rfl, ?_⟩; replace HO_3 := Aside0.mk (Kd.R_below (zR HO_3) hb); replace HO_4 := Aside0.mk (Kd.R_below (zR HO_4) hb); replace HO_5 := Aside0.mk (Kd.R_below (zR HO_5) hb); replace BK859 := Aside0.mk (blk_below (g := gb859) (o := .cells #[.bool x860000_2, .int .u64 x860001_2, .int .u64 x860002_2] 36 (0, 0)) (zK BK859) hb); replace HB := Aside0.mk (below_step (zB HB) hb); (try clear hb); have p876 : 0 ≤ (x9_2 : Int) := za; have q876 : x9_2 < (t855.length : Int) := za; obtain ⟨ad876, e876, hx876_0, hx876_1, hx876_2, hx876_3, hx876_4, hx876_5⟩ := at_T66 (Kd.R_reads' HO_5.out).2.2 x9_2 p876 q876; obtain rfl : ad864 = ad876 := (by injection e876); replace p876 := eq_true p876; replace q876 := eq_true q876) | ((with_reducible refine gate_callee (f := 91) rfl ?_); refine goesL_ (some 66) rfl rfl Try.func91 (by kernel_rfl) rfl #[.agg #[.bool ((rd_T66 t855 x9_2).f1.f0), .int .u64 ((rd_T66 t855 x9_2).f1.f1), .int .u64 ((rd_T66 t855 x9_2).f1.f2)]] rfl (by (try simp only [List.map_toArray, List.map_cons, List.map_nil]); first | done | rfl | (simp only [List.length_drop, List.length_take]; rfl)) ?_; (with_reducible refine (intrusionref07_After.calls ((rd_T66 t855 x9_2).f1.f0) ((rd_T66 t855 x9_2).f1.f1) ((rd_T66 t855 x9_2).f1.f2) t877 t878 t879 _ A32.out).mono ?_); rintro e w37 ⟨rfl, hb⟩; refine ⟨_, rfl, ?_⟩; replace HO_3 := Aside0.mk (Kd.R_below (zR HO_3) hb); replace HO_4 := Aside0.mk (Kd.R_below (zR HO_4) hb); replace HO_5 := Aside0.mk (Kd.R_below (zR HO_5) hb); replace BK859 := Aside0.mk (blk_below (g := gb859) (o := .cells #[.bool x860000_2, .int .u64 x860001_2, .int .u64 x860002_2] 36 (0, 0)) (zK BK859) hb); replace HB := Aside0.mk (below_step (zB HB) hb); (try clear hb); obtain ⟨hcz38_0, hcz38_1, hcz38_2⟩ := zc3 BK859; obtain ⟨hfz38_0, hfz38_1, hfz38_2⟩ := zf3 BK859; have p880 : 0 ≤ (x6_1 : Int) := za; have q880 : x6_1 < (t852.length : Int) := za; obtain ⟨ad880, e880, hx880_0, hx880_1, hx880_2, hx880_3, hx880_4, hx880_5⟩ := at_T66 (Kd.R_reads' HO_4.out).2.2 x6_1 p880 q880; obtain rfl : ad858 = ad880 := (by injection e880); have hn880_0 : ad858.block ≠ gb859 := (by first | exact Kd.own_blk (Kd.R_ne HO_4.out BK859.out (by decide)) | exact Kd.own_blk (Kd.R_away HO_4.out (fun _ hk => by first | exact hk.2 | exact hk | exact hk.1 | exact hk.2.2 | exact hk.1.2))); have hn880_1 : ad858.block ≠ gb859 := (by first | exact Kd.own_blk (Kd.R_ne HO_4.out BK859.out (by decide)) | exact Kd.own_blk (Kd.R_away HO_4.out (fun _ hk => by first | exact hk.2 | exact hk | exact hk.1 | exact hk.2.2 | exact hk.1.2))); have hn880_2 : ad858.block ≠ gb859 := (by first | exact Kd.own_blk (Kd.R_ne HO_4.out BK859.out (by decide)) | exact Kd.own_blk (Kd.R_away HO_4.out (fun _ hk => by first | exact hk.2 | exact hk | exact hk.1 | exact hk.2.2 | exact hk.1.2))); replace hx880_0 := (cell_far (p := ⟨gb859, 0, none⟩) (by first | (rw [add_block]; exact hn880_0) | (show (Addr.add _ _).block ≠ _; rw [add_block]; exact hn880_0) | exact hn880_0) (.bool t877)).trans hx880_0; replace hx880_1 := (cell_far (p := ⟨gb859, 0, none⟩) (by first | (rw [add_block]; exact hn880_0) | (show (Addr.add _ _).block ≠ _; rw [add_block]; exact hn880_0) | exact hn880_0) (.bool t877)).trans hx880_1; replace hx880_2 := (cell_far (p := ⟨gb859, 0, none⟩) (by first | (rw [add_block]; exact hn880_0) | (show (Addr.add _ _).block ≠ _; rw [add_block]; exact hn880_0) | exact hn880_0) (.bool t877)).trans hx880_2; replace hx880_3 := (cell_far (p := ⟨gb859, 0, none⟩) (by first | (rw [add_block]; exact hn880_0) | (show (Addr.add _ _).block ≠ _; rw [add_block]; exact hn880_0) | exact hn880_0) (.bool t877)).trans hx880_3; replace hx880_4 := (cell_far (p := ⟨gb859, 0, none⟩) (by first | (rw [add_block]; exact hn880_0) | (show (Addr.add _ _).block ≠ _; rw [add_block]; exact hn880_0) | exact hn880_0) (.bool t877)).trans hx880_4; replace hx880_5 := (cell_far (p := ⟨gb859, 0, none⟩) (by first | (rw [add_block]; exact hn880_0) | (show (Addr.add _ _).block ≠ _; rw [add_block]; exact hn880_0) | exact hn880_0) (.bool t877)).trans hx880_5; replace hx880_0 := (cell_far (p := ⟨gb859, 1, none⟩) (by first | (rw [add_block]; exact hn880_1) | (show (Addr.add _ _).block ≠ _; rw [add_block]; exact hn880_1) | exact hn880_1) (.int .u64 t878)).trans hx880_0; replace hx880_1 := (cell_far (p := ⟨gb859, 1, none⟩) (by first | (rw [add_block]; exact hn880_1) | (show (Addr.add _ _).block ≠ _; rw [add_block]; exact hn880_1) | exact hn880_1) (.int .u64 t878)).trans hx880_1; replace hx880_2 := (cell_far (p := ⟨gb859, 1, none⟩) (by first | (rw [add_block]; exact hn880_1) | (show (Addr.add _ _).block ≠ _; rw [add_block]; exact hn880_1) | exact hn880_1) (.int .u64 t878)).trans hx880_2; replace hx880_3 := (cell_far (p := ⟨gb859, 1, none⟩) (by first | (rw [add_block]; exact hn880_1) | (show (Addr.add _ _).block ≠ _; rw [add_block]; exact hn880_1) | exact hn880_1) (.int .u64 t878)).trans hx880_3; replace hx880_4 := (cell_far (p := ⟨gb859, 1, none⟩) (by first | (rw [add_block]; exact hn880_1) | (show (Addr.add _ _).block ≠ _; rw [add_block]; exact hn880_1) | exact hn880_1) (.int .u64 t878)).trans hx880_4; replace hx880_5 := (cell_far (p := ⟨gb859, 1, none⟩) (by first | (rw [add_block]; exact hn880_1) | (show (Addr.add _ _).block ≠ _; rw [add_block]; exact hn880_1) | exact hn880_1) (.int .u64 t878)).trans hx880_5; replace hx880_0 := (cell_far (p := ⟨gb859, 2, none⟩) (by first | (rw [add_block]; exact hn880_2) | (show (Addr.add _ _).block ≠ _; rw [add_block]; exact hn880_2) | exact hn880_2) (.int .u64 t879)).trans hx880_0; replace hx880_1 := (cell_far (p := ⟨gb859, 2, none⟩) (by first | (rw [add_block]; exact hn880_2) | (show (Addr.add _ _).block ≠ _; rw [add_block]; exact hn880_2) | exact hn880_2) (.int .u64 t879)).trans hx880_1; replace hx880_2 := (cell_far (p := ⟨gb859, 2, none⟩) (by first | (rw [add_block]; exact hn880_2) | (show (Addr.add _ _).block ≠ _; rw [add_block]; exact hn880_2) | exact hn880_2) (.int .u64 t879)).trans hx880_2; replace hx880_3 := (cell_far (p := ⟨gb859, 2, none⟩) (by first | (rw [add_block]; exact hn880_2) | (show (Addr.add _ _).block ≠ _; rw [add_block]; exact hn880_2) | exact hn880_2) (.int .u64 t879)).trans hx880_3; replace hx880_4 := (cell_far (p := ⟨gb859, 2, none⟩) (by first | (rw [add_block]; exact hn880_2) | (show (Addr.add _ _).block ≠ _; rw [add_block]; exact hn880_2) | exact hn880_2) (.int .u64 t879)).trans hx880_4; replace hx880_5 := (cell_far (p := ⟨gb859, 2, none⟩) (by first | (rw [add_block]; exact hn880_2) | (show (Addr.add _ _).block ≠ _; rw [add_block]; exact hn880_2) | exact hn880_2) (.int .u64 t879)).trans hx880_5; clear hn880_0; clear hn880_1; clear hn880_2; replace p880 := eq_true p880; replace q880 := eq_true q880))
                             go_roundg kj17
                             case measure => have := HK1.out; have := HK2.out; have := HJ17.out; omega
                             case rel => exact ⟨(x3_17), (true), (wrap64 (x9_2 + 1)), ((rd_T66 t852 x6_1).f1.f0), ((rd_T66 t852 x6_1).f1.f1), ((rd_T66 t852 x6_1).f1.f2), (by first | rfl | (simp; done) | (simp [*]; done)), (by first | rfl | (simp; done) | (simp [*]; done)), H', ⟨by have := HK1.out; have := HK2.out; have := HJ17.out; omega⟩, ⟨by (with_reducible repeat (first | apply Kd.R_alloc | apply Kd.R_drewN | apply Kd.R_drew)); exact Kd.R_mono (Kd.R_far (p := ⟨gb859, 2, none⟩) (Kd.R_far (p := ⟨gb859, 1, none⟩) (Kd.R_far (p := ⟨gb859, 0, none⟩) (Kd.R_far (p := ⟨gb859, 2, none⟩) (Kd.R_far (p := ⟨gb859, 1, none⟩) (Kd.R_far (p := ⟨gb859, 0, none⟩) (Kd.R_types HO_3.out BK859.out (by decide)) (fun _ hk => hk.2) (.bool t877)) (fun _ hk => hk.2) (.int .u64 t878)) (fun _ hk => hk.2) (.int .u64 t879)) (fun _ hk => hk.2) (.bool ((rd_T66 t852 x6_1).f1.f0))) (fun _ hk => hk.2) (.int .u64 ((rd_T66 t852 x6_1).f1.f1))) (fun _ hk => hk.2) (.int .u64 ((rd_T66 t852 x6_1).f1.f2))) (fun _ hk => ⟨hk.1.1, hk.1.2⟩)⟩, ⟨by (with_reducible repeat (first | apply Kd.R_alloc | apply Kd.R_drewN | apply Kd.R_drew)); exact Kd.R_mono (Kd.R_far (p := ⟨gb859, 2, none⟩) (Kd.R_far (p := ⟨gb859, 1, none⟩) (Kd.R_far (p := ⟨gb859, 0, none⟩) (Kd.R_far (p := ⟨gb859, 2, none⟩) (Kd.R_far (p := ⟨gb859, 1, none⟩) (Kd.R_far (p := ⟨gb859, 0, none⟩) (Kd.R_types HO_4.out BK859.out (by decide)) (fun _ hk => hk.2) (.bool t877)) (fun _ hk => hk.2) (.int .u64 t878)) (fun _ hk => hk.2) (.int .u64 t879)) (fun _ hk => hk.2) (.bool ((rd_T66 t852 x6_1).f1.f0))) (fun _ hk => hk.2) (.int .u64 ((rd_T66 t852 x6_1).f1.f1))) (fun _ hk => hk.2) (.int .u64 ((rd_T66 t852 x6_1).f1.f2))) (fun _ hk => ⟨hk.1.1, hk.1.2⟩)⟩, ⟨by (with_reducible repeat (first | apply Kd.R_alloc | apply Kd.R_drewN | apply Kd.R_drew)); exact Kd.R_mono (Kd.R_far (p := ⟨gb859, 2, none⟩) (Kd.R_far (p := ⟨gb859, 1, none⟩) (Kd.R_far (p := ⟨gb859, 0, none⟩) (Kd.R_far (p := ⟨gb859, 2, none⟩) (Kd.R_far (p := ⟨gb859, 1, none⟩) (Kd.R_far (p := ⟨gb859, 0, none⟩) (Kd.R_types HO_5.out BK859.out (by decide)) (fun _ hk => hk.2) (.bool t877)) (fun _ hk => hk.2) (.int .u64 t878)) (fun _ hk => hk.2) (.int .u64 t879)) (fun _ hk => hk.2) (.bool ((rd_T66 t852 x6_1).f1.f0))) (fun _ hk => hk.2) (.int .u64 ((rd_T66 t852 x6_1).f1.f1))) (fun _ hk => hk.2) (.int .u64 ((rd_T66 t852 x6_1).f1.f2))) (fun _ hk => ⟨hk.1.1, hk.1.2⟩)⟩, ⟨by refine zL ?_; refine blk_put (cs := #[.bool ((rd_T66 t852 x6_1).f1.f0), .int .u64 ((rd_T66 t852 x6_1).f1.f1), .int .u64 t879]) ?_ 2 _ rfl; refine zL ?_; refine blk_put (cs := #[.bool ((rd_T66 t852 x6_1).f1.f0), .int .u64 t878, .int .u64 t879]) ?_ 1 _ rfl; refine zL ?_; refine blk_put (cs := #[.bool t877, .int .u64 t878, .int .u64 t879]) ?_ 0 _ rfl; refine zL ?_; refine blk_put (cs := #[.bool t877, .int .u64 t878, .int .u64 x860002_2]) ?_ 2 _ rfl; refine zL ?_; refine blk_put (cs := #[.bool t877, .int .u64 x860001_2, .int .u64 x860002_2]) ?_ 1 _ rfl; refine zL ?_; refine blk_put (cs := #[.bool x860000_2, .int .u64 x860001_2, .int .u64 x860002_2]) ?_ 0 _ rfl; refine zL ?_; exact BK859.out⟩, ⟨zB HB⟩⟩
                           · rw [if_neg c35] at H
                             exact absurd H (by simp)
                         · rw [if_neg c34] at H
                           exact absurd H (by simp)
                       · replace c33 := Bool.eq_false_iff.mpr c33
                         subst c33
                         rw [if_neg zF] at H
                         have H' := Aside0.mk H
                         clear H
                         have p874 : 0 ≤ (x9_2 : Int) := za
                         have q874 : x9_2 < (t855.length : Int) := za
                         obtain ⟨ad874, e874, hx874_0, hx874_1, hx874_2, hx874_3, hx874_4, hx874_5⟩ := at_T66 (Kd.R_reads' HO_5.out).2.2 x9_2 p874 q874
                         obtain rfl : ad864 = ad874 := (by injection e874)
                         replace p874 := eq_true p874
                         replace q874 := eq_true q874
                         go_wp2_with (first | ((with_reducible refine gate_callee (f := 106) rfl ?_); refine goesL_ (some 60) rfl rfl Try.func106 (by kernel_rfl) rfl #[.agg #[.bool ((rd_T66 t855 x9_2).f1.f0), .int .u64 ((rd_T66 t855 x9_2).f1.f1), .int .u64 ((rd_T66 t855 x9_2).f1.f2)]] rfl (by (try simp only [List.map_toArray, List.map_cons, List.map_nil]); first | done | rfl | (simp only [List.length_drop, List.length_take]; rfl)) ?_; (with_reducible refine (intrusionref07_Last.calls ((rd_T66 t855 x9_2).f1.f0) ((rd_T66 t855 x9_2).f1.f1) ((rd_T66 t855 x9_2).f1.f2) false _ A31.out).mono ?_); rintro e w39 ⟨rfl, hb⟩; refine ⟨_, rfl, ?_⟩; replace HO_3 := Aside0.mk (Kd.R_below (zR HO_3) hb); replace HO_4 := Aside0.mk (Kd.R_below (zR HO_4) hb); replace HO_5 := Aside0.mk (Kd.R_below (zR HO_5) hb); replace BK859 := Aside0.mk (blk_below (g := gb859) (o := .cells #[.bool x860000_2, .int .u64 x860001_2, .int .u64 x860002_2] 36 (0, 0)) (zK BK859) hb); replace HB := Aside0.mk (below_step (zB HB) hb); (try clear hb); have p876 : 0 ≤ (x9_2 : Int) := za; have q876 : x9_2 < (t855.length : Int) := za; obtain ⟨ad876, e876, hx876_0, hx876_1, hx876_2, hx876_3, hx876_4, hx876_5⟩ := at_T66 (Kd.R_reads' HO_5.out).2.2 x9_2 p876 q876; obtain rfl : ad864 = ad876 := (by injection e876); replace p876 := eq_true p876; replace q876 := eq_true q876) | ((with_reducible refine gate_callee (f := 91) rfl ?_); refine goesL_ (some 66) rfl rfl Try.func91 (by kernel_rfl) rfl #[.agg #[.bool ((rd_T66 t855 x9_2).f1.f0), .int .u64 ((rd_T66 t855 x9_2).f1.f1), .int .u64 ((rd_T66 t855 x9_2).f1.f2)]] rfl (by (try simp only [List.map_toArray, List.map_cons, List.map_nil]); first | done | rfl | (simp only [List.length_drop, List.length_take]; rfl)) ?_; (with_reducible refine (intrusionref07_After.calls ((rd_T66 t855 x9_2).f1.f0) ((rd_T66 t855 x9_2).f1.f1) ((rd_T66 t855 x9_2).f1.f2) t877 t878 t879 _ A32.out).mono ?_); rintro e w40 ⟨rfl, hb⟩; refine ⟨_, rfl, ?_⟩; replace HO_3 := Aside0.mk (Kd.R_below (zR HO_3) hb); replace HO_4 := Aside0.mk (Kd.R_below (zR HO_4) hb); replace HO_5 := Aside0.mk (Kd.R_below (zR HO_5) hb); replace BK859 := Aside0.mk (blk_below (g := gb859) (o := .cells #[.bool x860000_2, .int .u64 x860001_2, .int .u64 x860002_2] 36 (0, 0)) (zK BK859) hb); replace HB := Aside0.mk (below_step (zB HB) hb); (try clear hb); obtain ⟨hcz41_0, hcz41_1, hcz41_2⟩ := zc3 BK859; obtain ⟨hfz41_0, hfz41_1, hfz41_2⟩ := zf3 BK859))
                         go_roundg kj17
                         case measure => have := HK1.out; have := HK2.out; have := HJ17.out; omega
                         case rel => exact ⟨(x3_17), (false), (wrap64 (x9_2 + 1)), (t877), (t878), (t879), (by first | rfl | (simp; done) | (simp [*]; done)), (by first | rfl | (simp; done) | (simp [*]; done)), H', ⟨by have := HK1.out; have := HK2.out; have := HJ17.out; omega⟩, ⟨by (with_reducible repeat (first | apply Kd.R_alloc | apply Kd.R_drewN | apply Kd.R_drew)); exact Kd.R_mono (Kd.R_far (p := ⟨gb859, 2, none⟩) (Kd.R_far (p := ⟨gb859, 1, none⟩) (Kd.R_far (p := ⟨gb859, 0, none⟩) (Kd.R_types HO_3.out BK859.out (by decide)) (fun _ hk => hk.2) (.bool t877)) (fun _ hk => hk.2) (.int .u64 t878)) (fun _ hk => hk.2) (.int .u64 t879)) (fun _ hk => ⟨hk.1.1, hk.1.2⟩)⟩, ⟨by (with_reducible repeat (first | apply Kd.R_alloc | apply Kd.R_drewN | apply Kd.R_drew)); exact Kd.R_mono (Kd.R_far (p := ⟨gb859, 2, none⟩) (Kd.R_far (p := ⟨gb859, 1, none⟩) (Kd.R_far (p := ⟨gb859, 0, none⟩) (Kd.R_types HO_4.out BK859.out (by decide)) (fun _ hk => hk.2) (.bool t877)) (fun _ hk => hk.2) (.int .u64 t878)) (fun _ hk => hk.2) (.int .u64 t879)) (fun _ hk => ⟨hk.1.1, hk.1.2⟩)⟩, ⟨by (with_reducible repeat (first | apply Kd.R_alloc | apply Kd.R_drewN | apply Kd.R_drew)); exact Kd.R_mono (Kd.R_far (p := ⟨gb859, 2, none⟩) (Kd.R_far (p := ⟨gb859, 1, none⟩) (Kd.R_far (p := ⟨gb859, 0, none⟩) (Kd.R_types HO_5.out BK859.out (by decide)) (fun _ hk => hk.2) (.bool t877)) (fun _ hk => hk.2) (.int .u64 t878)) (fun _ hk => hk.2) (.int .u64 t879)) (fun _ hk => ⟨hk.1.1, hk.1.2⟩)⟩, ⟨by refine zL ?_; refine blk_put (cs := #[.bool t877, .int .u64 t878, .int .u64 x860002_2]) ?_ 2 _ rfl; refine zL ?_; refine blk_put (cs := #[.bool t877, .int .u64 x860001_2, .int .u64 x860002_2]) ?_ 1 _ rfl; refine zL ?_; refine blk_put (cs := #[.bool x860000_2, .int .u64 x860001_2, .int .u64 x860002_2]) ?_ 0 _ rfl; refine zL ?_; exact BK859.out⟩, ⟨zB HB⟩⟩
                     · rw [if_neg c30] at H
                       exact absurd H (by simp)
                   · rw [if_neg c29] at H
                     exact absurd H (by simp)
             · rw [if_neg c13] at H
               exact absurd H (by simp)
           · rw [if_neg c12] at H
             have c12b0 : decide (x9_2 < (t855.length : Int)) = false := decide_eq_false c12
             clear c12
             by_cases c42 : x8_2 = true
             · subst c42
               rw [if_pos rfl] at H
               have H' := Aside0.mk H
               clear H
               obtain ⟨Ao43, co43, eo43⟩ := Kd.R_slice HO_5.out
               subst eo43
               go_wp2
               go_roundg k2
               case measure => have := HK1.out; have := HK2.out; omega
               case rel => exact ⟨(x3_2), (wrap64 (x6_1 + 1)), (by first | rfl | (simp; done) | (simp [*]; done)), H', ⟨by have := HK1.out; have := HK2.out; omega⟩, ⟨zR HO_3⟩, ⟨zR HO_4⟩, ⟨zR HO_5⟩, ⟨zB HB⟩⟩
             · replace c42 := Bool.eq_false_iff.mpr c42
               subst c42
               rw [if_neg zF] at H
               by_cases c44 : 0 ≤ x6_1
               · rw [if_pos c44] at H
                 have c44b0 : decide (0 ≤ x6_1) = true := decide_eq_true c44
                 clear c44
                 by_cases c45 : x6_1 < (t852.length : Int)
                 · rw [if_pos c45] at H
                   have c45b0 : decide (x6_1 < (t852.length : Int)) = true := decide_eq_true c45
                   clear c45
                   by_cases c46 : x3_2.length < 2932031007402
                   · rw [if_pos c46] at H
                     have LMc46 := Aside0.mk c46
                     clear c46
                     obtain ⟨y861, hy861⟩ : ∃ y_ : List (S66), y_ = (x3_2 ++ [(⟨(⟨x860000_2, x860001_2, x860002_2⟩ : S36), (⟨(rd_T66 t852 x6_1).f1.f0, (rd_T66 t852 x6_1).f1.f1, (rd_T66 t852 x6_1).f1.f2⟩ : S36)⟩ : S66)]) := ⟨_, rfl⟩
                     rw [← hy861] at H; try dsimp only [Option.bind_some] at H
                     have Ny861 := Aside0.mk hy861
                     clear hy861
                     have H' := Aside0.mk H
                     clear H
                     obtain ⟨Ao47, co47, eo47⟩ := Kd.R_slice HO_5.out
                     subst eo47
                     try go_wp2
                     replace HO_3 := Aside0.mk (Kd.R_drew HO_3.out)
                     replace HO_4 := Aside0.mk (Kd.R_drew HO_4.out)
                     replace HO_5 := Aside0.mk (Kd.R_drew HO_5.out)
                     replace BK859 := Aside0.mk (blk_drew BK859.out)
                     replace HB := Aside0.mk (below_drew1 HB.out)
                     have p860 : 0 ≤ (x6_1 : Int) := za
                     have q860 : x6_1 < (t852.length : Int) := za
                     obtain ⟨ad860, e860, hx860_0, hx860_1, hx860_2, hx860_3, hx860_4, hx860_5⟩ := at_T66 (Kd.R_reads' HO_4.out).2.2 x6_1 p860 q860
                     obtain rfl : ad858 = ad860 := (by injection e860)
                     replace p860 := eq_true p860
                     replace q860 := eq_true q860
                     refine start_ (n := 11) (S := fun w' => w'.cell? ⟨gb859, 0, none⟩ = some (.bool x860000_2) ∧ w'.cell? ⟨gb859, 1, none⟩ = some (.int .u64 x860001_2) ∧ w'.cell? ⟨gb859, 2, none⟩ = some (.int .u64 x860002_2) ∧ w'.cell? (ad858.add ((x6_1).toNat * 6)) = some (.bool ((rd_T66 t852 x6_1).f0.f0)) ∧ w'.cell? ⟨(ad858.add ((x6_1).toNat * 6)).block, (ad858.add ((x6_1).toNat * 6)).off + 1, none⟩ = some (.int .u64 ((rd_T66 t852 x6_1).f0.f1)) ∧ w'.cell? ⟨(ad858.add ((x6_1).toNat * 6)).block, (ad858.add ((x6_1).toNat * 6)).off + 2, none⟩ = some (.int .u64 ((rd_T66 t852 x6_1).f0.f2)) ∧ w'.cell? ⟨(ad858.add ((x6_1).toNat * 6)).block, (ad858.add ((x6_1).toNat * 6)).off + 3, none⟩ = some (.bool ((rd_T66 t852 x6_1).f1.f0)) ∧ w'.cell? ⟨(ad858.add ((x6_1).toNat * 6)).block, (ad858.add ((x6_1).toNat * 6)).off + 4, none⟩ = some (.int .u64 ((rd_T66 t852 x6_1).f1.f1)) ∧ w'.cell? ⟨(ad858.add ((x6_1).toNat * 6)).block, (ad858.add ((x6_1).toNat * 6)).off + 5, none⟩ = some (.int .u64 ((rd_T66 t852 x6_1).f1.f2))) (ds := [8, 9]) #[false, false, false, false, false, false, false, false, false, false, false] (by kernel_rfl) rfl rfl ⟨zc BK859 0, zc BK859 1, zc BK859 2, hx860_0, hx860_1, hx860_2, hx860_3, hx860_4, hx860_5⟩ (fun hHeld => ?_); refine with_tabW intrusionref07_Complement.tab20 intrusionref07_Complement.bits20 (fun HT_ HW_ => ?_)
                     generalize wr.drew = w48 at HO_3 HO_4 HO_5 BK859 HB hx860_0 hx860_1 hx860_2 hx860_3 hx860_4 hx860_5 hHeld ⊢
                     refine zp 0 75 HT_ ?_; refine zp 2 77 HT_ ?_; refine zp 3 78 HT_ ?_; refine zp 4 79 HT_ ?_; refine zp 5 80 HT_ ?_; refine zt 1 76 HT_ HW_ hHeld ?_; refine zt 6 81 HT_ HW_ hHeld ?_; refine zp 7 82 HT_ ?_
                     refine last_ (i := 8) (N := some 83) #[true, true, true, true, true, true, true, true, true, false, false] rfl rfl (one_of HT_.out (by kernel_rfl)) (by decide) (fun K hK => ?_)
                     refine value_ (w1 := ?_) (v := ?_) (by rfl) rfl ?_ ?_
                     rotate_left 2
                     · go_simp
                       constructor
                       · rfl
                       · rfl
                     refine hK.out _ _ ?_
                     clear hK K
                     refine zn 83 ?_
                     refine last_ (i := 9) (N := some 84) #[true, true, true, true, true, true, true, true, true, true, false] rfl rfl (one_of HT_.out (by kernel_rfl)) (by decide) (fun K hK => ?_)
                     refine Kd.R_append_step k66 (w0 := w) w.heap.size (by rfl) (.tmp 75) (.tmp 83) 33 66 (.agg #[(.bool false), (.int .u64 0), (.int .u64 0), (.bool false), (.int .u64 0), (.int .u64 0)]) 48 rfl Try.underlying33 info66 rfl (by decide) (by omega) u3 x3_2 (⟨(⟨x860000_2, x860001_2, x860002_2⟩ : S36), (⟨(rd_T66 t852 x6_1).f1.f0, (rd_T66 t852 x6_1).f1.f1, (rd_T66 t852 x6_1).f1.f2⟩ : S36)⟩ : S66) [.bool x860000_2, .int .u64 x860001_2, .int .u64 x860002_2, .bool ((rd_T66 t852 x6_1).f1.f0), .int .u64 ((rd_T66 t852 x6_1).f1.f1), .int .u64 ((rd_T66 t852 x6_1).f1.f2)] (fun k_ => some k_ ≠ (.slice (some ad858) t852.length co9 : Value).ownBlock ∧ some k_ ≠ (.slice Ao47 t855.length co47 : Value).ownBlock) (fun _ => False) rfl rfl ?aP (fun _ hk => hk.elim) ?aF ?aO ?aB ?aS ?aL ?_
                     (case aP => exact k66_mkM _ _ _ (⟨(⟨x860000_2, x860001_2, x860002_2⟩ : S36), (⟨(rd_T66 t852 x6_1).f1.f0, (rd_T66 t852 x6_1).f1.f1, (rd_T66 t852 x6_1).f1.f2⟩ : S36)⟩ : S66))
                     (case aB => exact (zB HB))
                     (case aF => exact (fun k_ hk => ⟨Kd.fresh' (Kd.R_lt (zR HO_4)) k_ hk, Kd.fresh' (Kd.R_lt (zR HO_5)) k_ hk⟩))
                     (case aO => exact (zR HO_3))
                     (case aS => exact (below_size (zB HB)))
                     (case aL => have := LMc46.out; omega)
                     intro v862 w49 ho hb hg hat
                     rw [← Ny861.out] at ho
                     replace HO_4 := Aside0.mk (Kd.R_after (ok := (fun k_ => some k_ ≠ (.slice Ao47 t855.length co47 : Value).ownBlock)) (by (with_reducible repeat (first | apply Kd.R_alloc | apply Kd.R_drewN | apply Kd.R_drew)); exact Kd.R_mono HO_4.out (fun _ hk => ⟨hk.2, hk.1⟩)) hg hat)
                     replace HO_5 := Aside0.mk (Kd.R_after (ok := (fun k_ => some k_ ≠ (.slice (some ad858) t852.length co9 : Value).ownBlock)) (by (with_reducible repeat (first | apply Kd.R_alloc | apply Kd.R_drewN | apply Kd.R_drew)); exact Kd.R_mono HO_5.out (fun _ hk => ⟨hk.2, hk.1⟩)) hg hat)
                     replace BK859 := Aside0.mk (blk_grown (g := gb859) (o := .cells #[.bool x860000_2, .int .u64 x860001_2, .int .u64 x860002_2] 36 (0, 0)) (zK BK859) hg (Kd.R_ne HO_3.out BK859.out (by decide)))
                     replace HB := Aside0.mk (hb)
                     have HO863 := Aside0.mk (ho)
                     clear HO_3
                     clear ho hb hg hat
                     refine hK.out _ _ ?_
                     clear hK K
                     refine zn 84 ?_; refine zp 10 3 HT_ ?_; refine zd HT_ ?_
                     try go_wp2
                     go_roundg k2
                     case measure => have := HK1.out; have := HK2.out; omega
                     case rel => exact ⟨(y861), (wrap64 (x6_1 + 1)), (by first | rfl | (simp; done) | (simp [*]; done)), H', ⟨by have := HK1.out; have := HK2.out; omega⟩, ⟨zR HO863⟩, ⟨by (with_reducible repeat (first | apply Kd.R_alloc | apply Kd.R_drewN | apply Kd.R_drew)); exact Kd.R_mono HO_4.out (fun _ hk => ⟨hk.2, hk.1⟩)⟩, ⟨by (with_reducible repeat (first | apply Kd.R_alloc | apply Kd.R_drewN | apply Kd.R_drew)); exact Kd.R_mono HO_5.out (fun _ hk => ⟨hk.2, hk.1⟩)⟩, ⟨zB HB⟩⟩
                   · rw [if_neg c46] at H
                     exact absurd H (by simp)
                 · rw [if_neg c45] at H
                   exact absurd H (by simp)
               · rw [if_neg c44] at H
                 exact absurd H (by simp)
       · rw [if_neg c8] at H
         exact absurd H (by simp)
     · rw [if_neg c7] at H
       exact absurd H (by simp)
   · rw [if_neg c6] at H
     have c6b0 : decide (x6_1 < 2) = false := decide_eq_false c6
     clear c6
     obtain rfl := Option.some.inj H
     go_wp2
     go_ret
     exact ⟨_, by first | rfl | (simp [errW_none, errW_some] <;> rfl) | (simp [*, errW_none, errW_some] <;> rfl), by (with_reducible repeat (first | apply Kd.R_alloc | apply Kd.R_drewN | apply Kd.R_drew)); exact Kd.R_mono HO_3.out (fun _ hk => trivial), by repeat (first | (with_reducible first | exact HB.out | apply below_alloc | apply pw_below_drewN | apply below_drew1) | exact HB.out)⟩
end Go.Proofs.Ytcgfpffgiimgmaa.Q
end

section
namespace Go.Proofs.Ytcgfpffgiimgmaa.Q
open Go.RowKit Go.Proofs.YtcgfpffgiimgmaaW.PrintWords Go.Proofs.YtcgfpffgiimgmaaW.PrintLast Go.Proofs.YtcgfpffgiimgmaaW.PrintMore
attribute [local go_sem] max2_int min2_int max_two min_two max_three min_three max_four min_four
set_option linter.unusedVariables false
set_option linter.unusedSimpArgs false
def intrusionref07_Minus.f (k : Nat) (l0 : List (S66)) (l1 : List (S66)) : Option ((List (S66))) := (intrusionref07_Complement.f k l1).bind fun t881 => ((intrusionref07_Intersect.f k l0 t881).bind fun t884 => (some t884))
theorem intrusionref07_Minus.mono : ∀ a0 a1 k, LeO (intrusionref07_Minus.f k a0 a1) (intrusionref07_Minus.f (k + 1) a0 a1) := by
  intro a0 a1 k
  unfold intrusionref07_Minus.f
  repeat' first
      | (with_reducible exact intrusionref07_Complement.mono _ _)
      | (with_reducible exact intrusionref07_Intersect.mono _ _ _)
      | (with_reducible exact LeO.refl _)
      | (with_reducible exact LeO.none _)
      | (with_reducible refine LeO.ite ?_ ?_)
      | (with_reducible refine LeO.bind ?_ (fun _ => ?_))
      | exact intrusionref07_Complement.mono _ _
      | exact intrusionref07_Intersect.mono _ _ _
      | exact LeO.none _
      | refine LeO.ite ?_ ?_
      | refine LeO.bind ?_ (fun _ => ?_)
set_option maxHeartbeats 8000000 in
set_option maxRecDepth 100000 in
theorem intrusionref07_Minus.calls (k : Nat) (A0 : Option Addr) (c0 : Nat) (l0 : List (S66)) (A1 : Option Addr) (c1 : Nat) (l1 : List (S66)) (r : List (S66)) (w : World) (hr0 : Kd.C k66 w A0 l0.length l0) (hc0 : l0.length ≤ c0) (hr1 : Kd.C k66 w A1 l1.length l1) (hc1 : l1.length ≤ c1) (h : intrusionref07_Minus.f k l0 l1 = some r) :
 Calls Try.prog 57 #[.slice A0 l0.length c0, .slice A1 l1.length c1] w fun e w' => ∃ v0_ : Value, e = .returned (v0_) ∧ Kd.R k66 66 w' w.heap.size (fun _ => True) v0_ r ∧ Below w.heap.size w w' := by
 have HR0 := Aside0.mk hr0
 have HC0 := Aside0.mk hc0
 clear hr0 hc0
 have HR1 := Aside0.mk hr1
 have HC1 := Aside0.mk hc1
 clear hr1 hc1
 have HB := Aside0.mk (Below.refl w.heap.size w)
 unfold intrusionref07_Minus.f at h; have H := h
 clear h
 replace H := Option.bind_eq_some_iff.mp H
 obtain ⟨t881, A30, H⟩ := H
 try dsimp only at H
 have A3 := Aside0.mk A30
 clear A30
 replace H := Option.bind_eq_some_iff.mp H
 obtain ⟨t884, A40, H⟩ := H
 try dsimp only at H
 have A4 := Aside0.mk A40
 clear A40
 obtain rfl := Option.some.inj H
 go_enter Try.func57, Try.ntmps57
 go_wp2_with (first | ((with_reducible refine gate_callee (f := 97) rfl ?_); refine goesL_ (some 7) rfl rfl Try.func97 (by kernel_rfl) rfl #[.slice A1 l1.length c1] rfl (by (try simp only [List.map_toArray, List.map_cons, List.map_nil]); first | done | rfl | (simp only [List.length_drop, List.length_take]; rfl)) ?_; (with_reducible refine (intrusionref07_Complement.calls k _ _ l1 t881 _ ?side1 ?side2 A3.out).mono ?_); (case side1 => repeat (first | exact HR1.out | (with_reducible refine Kd.C_alloc ?_ _) | (with_reducible refine Kd.C_drewN ?_ _) | (with_reducible refine Kd.C_drew ?_))); (case side2 => exact HC1.out); rintro e w5 ⟨v882, rfl, ho0, hb⟩; refine ⟨_, rfl, ?_⟩; have HO883 := Aside0.mk (Kd.R_lower ho0 (below_size (zB HB))); replace HB := Aside0.mk (below_step (zB HB) hb); (try clear hb); (try clear ho0); obtain ⟨Ao6, co6, eo6⟩ := Kd.R_slice HO883.out; subst eo6) | ((with_reducible refine gate_callee (f := 55) rfl ?_); refine goesL_ (some 8) rfl rfl Try.func55 (by kernel_rfl) rfl #[.slice A0 l0.length c0, .slice Ao6 t881.length co6] rfl (by (try simp only [List.map_toArray, List.map_cons, List.map_nil]); first | done | rfl | (simp only [List.length_drop, List.length_take]; rfl)) ?_; (with_reducible refine (intrusionref07_Intersect.calls k _ _ l0 _ _ t881 t884 _ ?side1 ?side2 ?side3 ?side4 A4.out).mono ?_); (case side1 => repeat (first | exact (Kd.C_below HR0.out HB.out) | (with_reducible refine Kd.C_alloc ?_ _) | (with_reducible refine Kd.C_drewN ?_ _) | (with_reducible refine Kd.C_drew ?_))); (case side2 => exact HC0.out); (case side3 => repeat (first | exact (Kd.R_reads' HO883.out).2.2 | (with_reducible refine Kd.C_alloc ?_ _) | (with_reducible refine Kd.C_drewN ?_ _) | (with_reducible refine Kd.C_drew ?_))); (case side4 => exact (Kd.R_reads' HO883.out).2.1); rintro e w7 ⟨v885, rfl, ho0, hb⟩; refine ⟨_, rfl, ?_⟩; have HO886 := Aside0.mk (Kd.R_lower (Kd.R_new' ho0 (Kd.R_lt (zR HO883))) (below_size (zB HB))); replace HO883 := Aside0.mk (Kd.R_elder' (zR HO883) (Kd.R_base ho0) hb); replace HB := Aside0.mk (below_step (zB HB) hb); (try clear hb); (try clear ho0)))
 go_ret
 exact ⟨_, by first | rfl | (simp [errW_none, errW_some] <;> rfl) | (simp [*, errW_none, errW_some] <;> rfl), by (with_reducible repeat (first | apply Kd.R_alloc | apply Kd.R_drewN | apply Kd.R_drew)); exact Kd.R_mono HO886.out (fun _ hk => trivial), by repeat (first | (with_reducible first | exact HB.out | apply below_alloc | apply pw_below_drewN | apply below_drew1) | exact HB.out)⟩
end Go.Proofs.Ytcgfpffgiimgmaa.Q
end

section
namespace Go.Proofs.Ytcgfpffgiimgmaa.Q
open Go.RowKit Go.Proofs.YtcgfpffgiimgmaaW.PrintWords Go.Proofs.YtcgfpffgiimgmaaW.PrintLast Go.Proofs.YtcgfpffgiimgmaaW.PrintMore
attribute [local go_sem] max2_int min2_int max_two min_two max_three min_three max_four min_four
set_option linter.unusedVariables false
set_option linter.unusedSimpArgs false
def intrusionref07_Eval.f (k : Nat) (l0 : List (S45)) (l1 : List (S45)) : Option ((List (S66))) := if (l0.length : Int) = 0 then ((intrusionref07_All.f).bind fun t887 => ((intrusionref07_Of.f k l1).bind fun t890 => ((intrusionref07_Minus.f k t887 t890).bind fun t893 => (some t893)))) else ((intrusionref07_Of.f k l0).bind fun t896 => ((intrusionref07_Of.f k l1).bind fun t899 => ((intrusionref07_Minus.f k t896 t899).bind fun t902 => (some t902))))
theorem intrusionref07_Eval.mono : ∀ a0 a1 k, LeO (intrusionref07_Eval.f k a0 a1) (intrusionref07_Eval.f (k + 1) a0 a1) := by
  intro a0 a1 k
  unfold intrusionref07_Eval.f
  repeat' first
      | (with_reducible exact intrusionref07_Minus.mono _ _ _)
      | (with_reducible exact intrusionref07_Of.mono _ _)
      | (with_reducible exact LeO.refl _)
      | (with_reducible exact LeO.none _)
      | (with_reducible refine LeO.ite ?_ ?_)
      | (with_reducible refine LeO.bind ?_ (fun _ => ?_))
      | exact intrusionref07_Minus.mono _ _ _
      | exact intrusionref07_Of.mono _ _
      | exact LeO.none _
      | refine LeO.ite ?_ ?_
      | refine LeO.bind ?_ (fun _ => ?_)
set_option maxHeartbeats 8000000 in
set_option maxRecDepth 100000 in
theorem intrusionref07_Eval.calls (k : Nat) (A0 : Option Addr) (c0 : Nat) (l0 : List (S45)) (A1 : Option Addr) (c1 : Nat) (l1 : List (S45)) (r : List (S66)) (w : World) (hr0 : Kd.C k45 w A0 l0.length l0) (hc0 : l0.length ≤ c0) (hr1 : Kd.C k45 w A1 l1.length l1) (hc1 : l1.length ≤ c1) (h : intrusionref07_Eval.f k l0 l1 = some r) :
 Calls Try.prog 51 #[.slice A0 l0.length c0, .slice A1 l1.length c1] w fun e w' => ∃ v0_ : Value, e = .returned (v0_) ∧ Kd.R k66 66 w' w.heap.size (fun _ => True) v0_ r ∧ Below w.heap.size w w' := by
 have HR0 := Aside0.mk hr0
 have HC0 := Aside0.mk hc0
 clear hr0 hc0
 have HR1 := Aside0.mk hr1
 have HC1 := Aside0.mk hc1
 clear hr1 hc1
 have HB := Aside0.mk (Below.refl w.heap.size w)
 unfold intrusionref07_Eval.f at h; have H := h
 clear h
 by_cases c3 : (l0.length : Int) = 0
 · rw [if_pos c3] at H
   have c3b0 : ((l0.length : Int) == 0) = true := beq_iff_eq.mpr c3
   have c3b1 : ((l0.length : Int) != 0) = false := bne_eq_false_iff_eq.mpr c3
   clear c3
   replace H := Option.bind_eq_some_iff.mp H
   obtain ⟨t887, A40, H⟩ := H
   try dsimp only at H
   have A4 := Aside0.mk A40
   clear A40
   replace H := Option.bind_eq_some_iff.mp H
   obtain ⟨t890, A50, H⟩ := H
   try dsimp only at H
   have A5 := Aside0.mk A50
   clear A50
   replace H := Option.bind_eq_some_iff.mp H
   obtain ⟨t893, A60, H⟩ := H
   try dsimp only at H
   have A6 := Aside0.mk A60
   clear A60
   obtain rfl := Option.some.inj H
   go_enter Try.func51, Try.ntmps51
   go_wp2_with (first | ((with_reducible refine gate_callee (f := 45) rfl ?_); refine goesL_ (some 8) rfl rfl Try.func45 (by kernel_rfl) rfl #[] rfl (by (try simp only [List.map_toArray, List.map_cons, List.map_nil]); first | done | rfl | (simp only [List.length_drop, List.length_take]; rfl)) ?_; (with_reducible refine (intrusionref07_All.calls  t887 _ A4.out).mono ?_); rintro e w7 ⟨v888, rfl, ho0, hb⟩; refine ⟨_, rfl, ?_⟩; have HO889 := Aside0.mk (Kd.R_lower ho0 (below_size (zB HB))); replace HB := Aside0.mk (below_step (zB HB) hb); (try clear hb); (try clear ho0)) | ((with_reducible refine gate_callee (f := 49) rfl ?_); refine goesL_ (some 10) rfl rfl Try.func49 (by kernel_rfl) rfl #[.slice A1 l1.length c1] rfl (by (try simp only [List.map_toArray, List.map_cons, List.map_nil]); first | done | rfl | (simp only [List.length_drop, List.length_take]; rfl)) ?_; (with_reducible refine (intrusionref07_Of.calls k _ _ l1 t890 _ ?side1 ?side2 A5.out).mono ?_); (case side1 => repeat (first | exact (Kd.C_below HR1.out HB.out) | (with_reducible refine Kd.C_alloc ?_ _) | (with_reducible refine Kd.C_drewN ?_ _) | (with_reducible refine Kd.C_drew ?_))); (case side2 => exact HC1.out); rintro e w8 ⟨v891, rfl, ho0, hb⟩; refine ⟨_, rfl, ?_⟩; have HO892 := Aside0.mk (Kd.R_lower (Kd.R_new' ho0 (Kd.R_lt (zR HO889))) (below_size (zB HB))); replace HO889 := Aside0.mk (Kd.R_elder' (zR HO889) (Kd.R_base ho0) hb); replace HB := Aside0.mk (below_step (zB HB) hb); (try clear hb); (try clear ho0); obtain ⟨Ao9, co9, eo9⟩ := Kd.R_slice HO889.out; subst eo9; obtain ⟨Ao10, co10, eo10⟩ := Kd.R_slice HO892.out; subst eo10) | ((with_reducible refine gate_callee (f := 57) rfl ?_); refine goesL_ (some 11) rfl rfl Try.func57 (by kernel_rfl) rfl #[.slice Ao9 t887.length co9, .slice Ao10 t890.length co10] rfl (by (try simp only [List.map_toArray, List.map_cons, List.map_nil]); first | done | rfl | (simp only [List.length_drop, List.length_take]; rfl)) ?_; (with_reducible refine (intrusionref07_Minus.calls k _ _ t887 _ _ t890 t893 _ ?side1 ?side2 ?side3 ?side4 A6.out).mono ?_); (case side1 => repeat (first | exact (Kd.R_reads' HO889.out).2.2 | (with_reducible refine Kd.C_alloc ?_ _) | (with_reducible refine Kd.C_drewN ?_ _) | (with_reducible refine Kd.C_drew ?_))); (case side2 => exact (Kd.R_reads' HO889.out).2.1); (case side3 => repeat (first | exact (Kd.R_reads' HO892.out).2.2 | (with_reducible refine Kd.C_alloc ?_ _) | (with_reducible refine Kd.C_drewN ?_ _) | (with_reducible refine Kd.C_drew ?_))); (case side4 => exact (Kd.R_reads' HO892.out).2.1); rintro e w11 ⟨v894, rfl, ho0, hb⟩; refine ⟨_, rfl, ?_⟩; have HO895 := Aside0.mk (Kd.R_lower (Kd.R_new' (Kd.R_new' ho0 (Kd.R_lt (zR HO889))) (Kd.R_lt (zR HO892))) (below_size (zB HB))); replace HO889 := Aside0.mk (Kd.R_elder' (zR HO889) (Kd.R_base ho0) hb); replace HO892 := Aside0.mk (Kd.R_elder' (zR HO892) (Kd.R_base ho0) hb); replace HB := Aside0.mk (below_step (zB HB) hb); (try clear hb); (try clear ho0)))
   go_ret
   exact ⟨_, by first | rfl | (simp [errW_none, errW_some] <;> rfl) | (simp [*, errW_none, errW_some] <;> rfl), by (with_reducible repeat (first | apply Kd.R_alloc | apply Kd.R_drewN | apply Kd.R_drew)); exact Kd.R_mono HO895.out (fun _ hk => trivial), by repeat (first | (with_reducible first | exact HB.out | apply below_alloc | apply pw_below_drewN | apply below_drew1) | exact HB.out)⟩
 · rw [if_neg c3] at H
   have c3b0 : ((l0.length : Int) == 0) = false := beq_eq_false_iff_ne.mpr c3
   have c3b1 : ((l0.length : Int) != 0) = true := bne_iff_ne.mpr c3
   have c3b2 : ¬ (l0 = []) := fun h_ => c3 (by rw [h_]; rfl)
   replace H := Option.bind_eq_some_iff.mp H
   obtain ⟨t896, A120, H⟩ := H
   try dsimp only at H
   have A12 := Aside0.mk A120
   clear A120
   replace H := Option.bind_eq_some_iff.mp H
   obtain ⟨t899, A130, H⟩ := H
   try dsimp only at H
   have A13 := Aside0.mk A130
   clear A130
   replace H := Option.bind_eq_some_iff.mp H
   obtain ⟨t902, A140, H⟩ := H
   try dsimp only at H
   have A14 := Aside0.mk A140
   clear A140
   obtain rfl := Option.some.inj H
   go_enter Try.func51, Try.ntmps51
   go_wp2_with (first | ((with_reducible refine gate_callee (f := 49) rfl ?_); refine goesL_ (some 13) rfl rfl Try.func49 (by kernel_rfl) rfl #[.slice A0 l0.length c0] rfl (by (try simp only [List.map_toArray, List.map_cons, List.map_nil]); first | done | rfl | (simp only [List.length_drop, List.length_take]; rfl)) ?_; (with_reducible refine (intrusionref07_Of.calls k _ _ l0 t896 _ ?side1 ?side2 A12.out).mono ?_); (case side1 => repeat (first | exact HR0.out | (with_reducible refine Kd.C_alloc ?_ _) | (with_reducible refine Kd.C_drewN ?_ _) | (with_reducible refine Kd.C_drew ?_))); (case side2 => exact HC0.out); rintro e w15 ⟨v897, rfl, ho0, hb⟩; refine ⟨_, rfl, ?_⟩; have HO898 := Aside0.mk (Kd.R_lower ho0 (below_size (zB HB))); replace HB := Aside0.mk (below_step (zB HB) hb); (try clear hb); (try clear ho0)) | ((with_reducible refine gate_callee (f := 49) rfl ?_); refine goesL_ (some 15) rfl rfl Try.func49 (by kernel_rfl) rfl #[.slice A1 l1.length c1] rfl (by (try simp only [List.map_toArray, List.map_cons, List.map_nil]); first | done | rfl | (simp only [List.length_drop, List.length_take]; rfl)) ?_; (with_reducible refine (intrusionref07_Of.calls k _ _ l1 t899 _ ?side1 ?side2 A13.out).mono ?_); (case side1 => repeat (first | exact (Kd.C_below HR1.out HB.out) | (with_reducible refine Kd.C_alloc ?_ _) | (with_reducible refine Kd.C_drewN ?_ _) | (with_reducible refine Kd.C_drew ?_))); (case side2 => exact HC1.out); rintro e w16 ⟨v900, rfl, ho0, hb⟩; refine ⟨_, rfl, ?_⟩; have HO901 := Aside0.mk (Kd.R_lower (Kd.R_new' ho0 (Kd.R_lt (zR HO898))) (below_size (zB HB))); replace HO898 := Aside0.mk (Kd.R_elder' (zR HO898) (Kd.R_base ho0) hb); replace HB := Aside0.mk (below_step (zB HB) hb); (try clear hb); (try clear ho0); obtain ⟨Ao17, co17, eo17⟩ := Kd.R_slice HO898.out; subst eo17; obtain ⟨Ao18, co18, eo18⟩ := Kd.R_slice HO901.out; subst eo18) | ((with_reducible refine gate_callee (f := 57) rfl ?_); refine goesL_ (some 16) rfl rfl Try.func57 (by kernel_rfl) rfl #[.slice Ao17 t896.length co17, .slice Ao18 t899.length co18] rfl (by (try simp only [List.map_toArray, List.map_cons, List.map_nil]); first | done | rfl | (simp only [List.length_drop, List.length_take]; rfl)) ?_; (with_reducible refine (intrusionref07_Minus.calls k _ _ t896 _ _ t899 t902 _ ?side1 ?side2 ?side3 ?side4 A14.out).mono ?_); (case side1 => repeat (first | exact (Kd.R_reads' HO898.out).2.2 | (with_reducible refine Kd.C_alloc ?_ _) | (with_reducible refine Kd.C_drewN ?_ _) | (with_reducible refine Kd.C_drew ?_))); (case side2 => exact (Kd.R_reads' HO898.out).2.1); (case side3 => repeat (first | exact (Kd.R_reads' HO901.out).2.2 | (with_reducible refine Kd.C_alloc ?_ _) | (with_reducible refine Kd.C_drewN ?_ _) | (with_reducible refine Kd.C_drew ?_))); (case side4 => exact (Kd.R_reads' HO901.out).2.1); rintro e w19 ⟨v903, rfl, ho0, hb⟩; refine ⟨_, rfl, ?_⟩; have HO904 := Aside0.mk (Kd.R_lower (Kd.R_new' (Kd.R_new' ho0 (Kd.R_lt (zR HO898))) (Kd.R_lt (zR HO901))) (below_size (zB HB))); replace HO898 := Aside0.mk (Kd.R_elder' (zR HO898) (Kd.R_base ho0) hb); replace HO901 := Aside0.mk (Kd.R_elder' (zR HO901) (Kd.R_base ho0) hb); replace HB := Aside0.mk (below_step (zB HB) hb); (try clear hb); (try clear ho0)))
   go_ret
   exact ⟨_, by first | rfl | (simp [errW_none, errW_some] <;> rfl) | (simp [*, errW_none, errW_some] <;> rfl), by (with_reducible repeat (first | apply Kd.R_alloc | apply Kd.R_drewN | apply Kd.R_drew)); exact Kd.R_mono HO904.out (fun _ hk => trivial), by repeat (first | (with_reducible first | exact HB.out | apply below_alloc | apply pw_below_drewN | apply below_drew1) | exact HB.out)⟩
end Go.Proofs.Ytcgfpffgiimgmaa.Q
end

section
namespace Go.Proofs.Ytcgfpffgiimgmaa.Q
open Go.RowKit Go.Proofs.YtcgfpffgiimgmaaW.PrintWords Go.Proofs.YtcgfpffgiimgmaaW.PrintLast Go.Proofs.YtcgfpffgiimgmaaW.PrintMore
attribute [local go_sem] max2_int min2_int max_two min_two max_three min_three max_four min_four
set_option linter.unusedVariables false
set_option linter.unusedSimpArgs false
def intrusionlaw07_AddrsetEvaluates.j0 : Nat → List (S45) → List (S45) → Bool → Option (Bool)
  | 0, _, _, _ => none
  | k + 1, x0, x1, x12 => if x12 = true then ((intrusionlaw07_awake.f k).bind fun t905 => (some t905)) else ((addrset_Of.f k x0).bind fun t906 => ((intrusionref07_Of.f k x0).bind fun t909 => ((intrusionref07_Same.f k t906 t909).bind fun t912 => (if t912 = true then ((addrset_Eval.f k x0 x1).bind fun t913 => ((intrusionref07_Eval.f k x0 x1).bind fun t916 => ((intrusionref07_Same.f k t913 t916).bind fun t919 => (if t919 = true then ((intrusionlaw07_awake.f k).bind fun t920 => (some t920)) else (some false))))) else (some false)))))
def intrusionlaw07_AddrsetEvaluates.f (k : Nat) (l0 : List (S45)) (l1 : List (S45)) : Option (Bool) := if (l0.length : Int) > 16 then (intrusionlaw07_AddrsetEvaluates.j0 k l0 l1 true) else (intrusionlaw07_AddrsetEvaluates.j0 k l0 l1 (decide ((l1.length : Int) > 16)))
theorem intrusionlaw07_AddrsetEvaluates.mono_l : ∀ k, (∀ y0 y1 y2, LeO (intrusionlaw07_AddrsetEvaluates.j0 k y0 y1 y2) (intrusionlaw07_AddrsetEvaluates.j0 (k + 1) y0 y1 y2))
  | 0 => fun _ _ _ r h => by simp [intrusionlaw07_AddrsetEvaluates.j0] at h
  | k + 1 => by
    have ih0 := intrusionlaw07_AddrsetEvaluates.mono_l k
    · intro y0 y1 y2
      unfold intrusionlaw07_AddrsetEvaluates.j0
      repeat' first
      | (with_reducible exact ih0 _ _ _)
      | (with_reducible exact addrset_Eval.mono _ _ _)
      | (with_reducible exact addrset_Of.mono _ _)
      | (with_reducible exact intrusionlaw07_awake.mono _)
      | (with_reducible exact intrusionref07_Eval.mono _ _ _)
      | (with_reducible exact intrusionref07_Of.mono _ _)
      | (with_reducible exact intrusionref07_Same.mono _ _ _)
      | (with_reducible exact LeO.refl _)
      | (with_reducible exact LeO.none _)
      | (with_reducible refine LeO.ite ?_ ?_)
      | (with_reducible refine LeO.bind ?_ (fun _ => ?_))
      | exact ih0 _ _ _
      | exact addrset_Eval.mono _ _ _
      | exact addrset_Of.mono _ _
      | exact intrusionlaw07_awake.mono _
      | exact intrusionref07_Eval.mono _ _ _
      | exact intrusionref07_Of.mono _ _
      | exact intrusionref07_Same.mono _ _ _
      | exact LeO.none _
      | refine LeO.ite ?_ ?_
      | refine LeO.bind ?_ (fun _ => ?_)
theorem intrusionlaw07_AddrsetEvaluates.mono : ∀ a0 a1 k, LeO (intrusionlaw07_AddrsetEvaluates.f k a0 a1) (intrusionlaw07_AddrsetEvaluates.f (k + 1) a0 a1) := by
  intro a0 a1 k
  have ih0 := intrusionlaw07_AddrsetEvaluates.mono_l k
  unfold intrusionlaw07_AddrsetEvaluates.f
  repeat' first
      | (with_reducible exact ih0 _ _ _)
      | (with_reducible exact addrset_Eval.mono _ _ _)
      | (with_reducible exact addrset_Of.mono _ _)
      | (with_reducible exact intrusionlaw07_awake.mono _)
      | (with_reducible exact intrusionref07_Eval.mono _ _ _)
      | (with_reducible exact intrusionref07_Of.mono _ _)
      | (with_reducible exact intrusionref07_Same.mono _ _ _)
      | (with_reducible exact LeO.refl _)
      | (with_reducible exact LeO.none _)
      | (with_reducible refine LeO.ite ?_ ?_)
      | (with_reducible refine LeO.bind ?_ (fun _ => ?_))
      | exact ih0 _ _ _
      | exact addrset_Eval.mono _ _ _
      | exact addrset_Of.mono _ _
      | exact intrusionlaw07_awake.mono _
      | exact intrusionref07_Eval.mono _ _ _
      | exact intrusionref07_Of.mono _ _
      | exact intrusionref07_Same.mono _ _ _
      | exact LeO.none _
      | refine LeO.ite ?_ ?_
      | refine LeO.bind ?_ (fun _ => ?_)
set_option maxHeartbeats 8000000 in
set_option maxRecDepth 100000 in
theorem intrusionlaw07_AddrsetEvaluates.calls (k : Nat) (A0 : Option Addr) (c0 : Nat) (l0 : List (S45)) (A1 : Option Addr) (c1 : Nat) (l1 : List (S45)) (r : Bool) (w : World) (hr0 : Kd.C k45 w A0 l0.length l0) (hc0 : l0.length ≤ c0) (hr1 : Kd.C k45 w A1 l1.length l1) (hc1 : l1.length ≤ c1) (h : intrusionlaw07_AddrsetEvaluates.f k l0 l1 = some r) :
 Calls Try.prog 11 #[.slice A0 l0.length c0, .slice A1 l1.length c1] w fun e w' => e = .returned (.bool r) ∧ Below w.heap.size w w' := by
 have HR0 := Aside0.mk hr0
 have HC0 := Aside0.mk hc0
 clear hr0 hc0
 have HR1 := Aside0.mk hr1
 have HC1 := Aside0.mk hc1
 clear hr1 hc1
 have HB := Aside0.mk (Below.refl w.heap.size w)
 unfold intrusionlaw07_AddrsetEvaluates.f at h; have H := h
 clear h
 have HC3 := Aside0.mk H
 clear H
 go_enter Try.func11, Try.ntmps11
 go_upto_region 1 with (fail)
 go_cut [12] (fun v12 wc => ∃ (kq : Nat) (x12_2 : Bool), v12 = .bool x12_2 ∧ Aside0 (intrusionlaw07_AddrsetEvaluates.j0 kq l0 l1 x12_2 = some r) ∧ Aside0 (kq ≤ k) ∧ Aside0 (Below w.heap.size w wc))
 case first =>
  have H := HC3.out
  clear HC3
  by_cases c4 : (l0.length : Int) > 16
  · rw [if_pos c4] at H
    have c4b0 : decide (16 < (l0.length : Int)) = true := decide_eq_true c4
    have c4b1 : decide (16 < l0.length) = true := decide_eq_true (by omega)
    clear c4
    (first | rw [c4b0] | (simp only [i64_w, i32_w]; rw [c4b0]) | skip)
    have H' := Aside0.mk H
    clear H
    go_wp2
    go_meet
    case rel => exact ⟨_, (true), (by first | rfl | (simp; done) | (simp [*]; done)), H', ⟨by first | omega | exact Nat.le_refl _⟩, ⟨zB HB⟩⟩
  · rw [if_neg c4] at H
    have c4b0 : decide (16 < (l0.length : Int)) = false := decide_eq_false c4
    have c4b1 : decide (16 < l0.length) = false := decide_eq_false (by omega)
    clear c4
    (first | rw [c4b0] | (simp only [i64_w, i32_w]; rw [c4b0]) | skip)
    have H' := Aside0.mk H
    clear H
    go_wp2
    go_meet
    case rel => exact ⟨_, (decide ((l1.length : Int) > 16)), (by first | rfl | (simp; done) | (simp [*]; done)), H', ⟨by first | omega | exact Nat.le_refl _⟩, ⟨zB HB⟩⟩
 case rest =>
  clear HC3
  try clear c1
  try clear p2
  try clear c4
  try clear c4b0
  try clear c4b1
  obtain ⟨kq, x12_2, rfl, HA, HJ2, HB⟩ := hcut
  cases kq with
  | zero => exact absurd HA.out (by simp [intrusionlaw07_AddrsetEvaluates.j0])
  | succ kj2 =>
   have H := HA.out
   clear HA
   simp only [intrusionlaw07_AddrsetEvaluates.j0] at H
   by_cases c5 : x12_2 = true
   · subst c5
     rw [if_pos rfl] at H
     replace H := Option.bind_eq_some_iff.mp H
     obtain ⟨t905, A60, H⟩ := H
     try dsimp only at H
     have A6 := Aside0.mk A60
     clear A60
     obtain rfl := Option.some.inj H
     go_wp2_with (first | ((with_reducible refine gate_callee (f := 36) rfl ?_); refine goesL_ (some 13) rfl rfl Try.func36 (by kernel_rfl) rfl #[] rfl (by (try simp only [List.map_toArray, List.map_cons, List.map_nil]); first | done | rfl | (simp only [List.length_drop, List.length_take]; rfl)) ?_; (with_reducible refine (intrusionlaw07_awake.calls kj2  t905 _ A6.out).mono ?_); rintro e w7 ⟨rfl, hb⟩; refine ⟨_, rfl, ?_⟩; replace HB := Aside0.mk (below_step (zB HB) hb); (try clear hb)))
     go_ret
     exact ⟨by first | rfl | (simp [errW_none, errW_some] <;> rfl) | (simp [*, errW_none, errW_some] <;> rfl), by repeat (first | (with_reducible first | exact HB.out | apply below_alloc | apply pw_below_drewN | apply below_drew1) | exact HB.out)⟩
   · replace c5 := Bool.eq_false_iff.mpr c5
     subst c5
     rw [if_neg zF] at H
     replace H := Option.bind_eq_some_iff.mp H
     obtain ⟨t906, A80, H⟩ := H
     try dsimp only at H
     have A8 := Aside0.mk A80
     clear A80
     replace H := Option.bind_eq_some_iff.mp H
     obtain ⟨t909, A90, H⟩ := H
     try dsimp only at H
     have A9 := Aside0.mk A90
     clear A90
     replace H := Option.bind_eq_some_iff.mp H
     obtain ⟨t912, A100, H⟩ := H
     try dsimp only at H
     have A10 := Aside0.mk A100
     clear A100
     by_cases c11 : t912 = true
     · subst c11
       rw [if_pos rfl] at H
       replace H := Option.bind_eq_some_iff.mp H
       obtain ⟨t913, A120, H⟩ := H
       try dsimp only at H
       have A12 := Aside0.mk A120
       clear A120
       replace H := Option.bind_eq_some_iff.mp H
       obtain ⟨t916, A130, H⟩ := H
       try dsimp only at H
       have A13 := Aside0.mk A130
       clear A130
       replace H := Option.bind_eq_some_iff.mp H
       obtain ⟨t919, A140, H⟩ := H
       try dsimp only at H
       have A14 := Aside0.mk A140
       clear A140
       by_cases c15 : t919 = true
       · subst c15
         rw [if_pos rfl] at H
         replace H := Option.bind_eq_some_iff.mp H
         obtain ⟨t920, A160, H⟩ := H
         try dsimp only at H
         have A16 := Aside0.mk A160
         clear A160
         obtain rfl := Option.some.inj H
         go_wp2_with (first | ((with_reducible refine gate_callee (f := 48) rfl ?_); refine goesL_ (some 15) rfl rfl Try.func48 (by kernel_rfl) rfl #[.slice A0 l0.length c0] rfl (by (try simp only [List.map_toArray, List.map_cons, List.map_nil]); first | done | rfl | (simp only [List.length_drop, List.length_take]; rfl)) ?_; (with_reducible refine (addrset_Of.calls kj2 _ _ l0 t906 _ ?side1 ?side2 A8.out).mono ?_); (case side1 => repeat (first | exact (Kd.C_below HR0.out HB.out) | (with_reducible refine Kd.C_alloc ?_ _) | (with_reducible refine Kd.C_drewN ?_ _) | (with_reducible refine Kd.C_drew ?_))); (case side2 => exact HC0.out); rintro e w17 ⟨v907, rfl, ho0, hb⟩; refine ⟨_, rfl, ?_⟩; have HO908 := Aside0.mk (Kd.R_lower ho0 (below_size (zB HB))); replace HB := Aside0.mk (below_step (zB HB) hb); (try clear hb); (try clear ho0)) | ((with_reducible refine gate_callee (f := 49) rfl ?_); refine goesL_ (some 17) rfl rfl Try.func49 (by kernel_rfl) rfl #[.slice A0 l0.length c0] rfl (by (try simp only [List.map_toArray, List.map_cons, List.map_nil]); first | done | rfl | (simp only [List.length_drop, List.length_take]; rfl)) ?_; (with_reducible refine (intrusionref07_Of.calls kj2 _ _ l0 t909 _ ?side1 ?side2 A9.out).mono ?_); (case side1 => repeat (first | exact (Kd.C_below HR0.out HB.out) | (with_reducible refine Kd.C_alloc ?_ _) | (with_reducible refine Kd.C_drewN ?_ _) | (with_reducible refine Kd.C_drew ?_))); (case side2 => exact HC0.out); rintro e w18 ⟨v910, rfl, ho0, hb⟩; refine ⟨_, rfl, ?_⟩; have HO911 := Aside0.mk (Kd.R_lower (Kd.R_new' ho0 (Kd.R_lt (zR HO908))) (below_size (zB HB))); replace HO908 := Aside0.mk (Kd.R_elder' (zR HO908) (Kd.R_base ho0) hb); replace HB := Aside0.mk (below_step (zB HB) hb); (try clear hb); (try clear ho0); obtain ⟨Ao19, co19, eo19⟩ := Kd.R_slice HO908.out; subst eo19; obtain ⟨Ao20, co20, eo20⟩ := Kd.R_slice HO911.out; subst eo20) | ((with_reducible refine gate_callee (f := 37) rfl ?_); refine goesL_ (some 18) rfl rfl Try.func37 (by kernel_rfl) rfl #[.slice Ao19 t906.length co19, .slice Ao20 t909.length co20] rfl (by (try simp only [List.map_toArray, List.map_cons, List.map_nil]); first | done | rfl | (simp only [List.length_drop, List.length_take]; rfl)) ?_; (with_reducible refine (intrusionref07_Same.calls kj2 _ _ t906 _ _ t909 true _ ?side1 ?side2 ?side3 ?side4 A10.out).mono ?_); (case side1 => repeat (first | exact (Kd.R_reads' HO908.out).2.2 | (with_reducible refine Kd.C_alloc ?_ _) | (with_reducible refine Kd.C_drewN ?_ _) | (with_reducible refine Kd.C_drew ?_))); (case side2 => exact (Kd.R_reads' HO908.out).2.1); (case side3 => repeat (first | exact (Kd.R_reads' HO911.out).2.2 | (with_reducible refine Kd.C_alloc ?_ _) | (with_reducible refine Kd.C_drewN ?_ _) | (with_reducible refine Kd.C_drew ?_))); (case side4 => exact (Kd.R_reads' HO911.out).2.1); rintro e w' ⟨rfl, ⟨nd, rfl⟩⟩; refine ⟨_, rfl, ?_⟩) | (go_at_call 50; (with_reducible refine (addrset_Eval.calls kj2 _ _ l0 _ _ l1 t913 _ ?side1 ?side2 ?side3 ?side4 A12.out).mono ?_); (case side1 => repeat (first | exact (Kd.C_below HR0.out (zB HB)) | (with_reducible refine Kd.C_alloc ?_ _) | (with_reducible refine Kd.C_drewN ?_ _) | (with_reducible refine Kd.C_drew ?_))); (case side2 => exact HC0.out); (case side3 => repeat (first | exact (Kd.C_below HR1.out (zB HB)) | (with_reducible refine Kd.C_alloc ?_ _) | (with_reducible refine Kd.C_drewN ?_ _) | (with_reducible refine Kd.C_drew ?_))); (case side4 => exact HC1.out); rintro e w21 ⟨v914, rfl, ho0, hb⟩; have HO915 := Aside0.mk (Kd.R_lower (Kd.R_new' (Kd.R_new' ho0 (Kd.R_lt (zR HO908))) (Kd.R_lt (zR HO911))) (below_size (zB HB))); replace HO908 := Aside0.mk (Kd.R_elder' (zR HO908) (Kd.R_base ho0) hb); replace HO911 := Aside0.mk (Kd.R_elder' (zR HO911) (Kd.R_base ho0) hb); replace HB := Aside0.mk (below_step (zB HB) hb); (try clear hb); (try clear ho0)) | (go_at_call 51; (with_reducible refine (intrusionref07_Eval.calls kj2 _ _ l0 _ _ l1 t916 _ ?side1 ?side2 ?side3 ?side4 A13.out).mono ?_); (case side1 => repeat (first | exact (Kd.C_below HR0.out HB.out) | (with_reducible refine Kd.C_alloc ?_ _) | (with_reducible refine Kd.C_drewN ?_ _) | (with_reducible refine Kd.C_drew ?_))); (case side2 => exact HC0.out); (case side3 => repeat (first | exact (Kd.C_below HR1.out HB.out) | (with_reducible refine Kd.C_alloc ?_ _) | (with_reducible refine Kd.C_drewN ?_ _) | (with_reducible refine Kd.C_drew ?_))); (case side4 => exact HC1.out); rintro e w22 ⟨v917, rfl, ho0, hb⟩; have HO918 := Aside0.mk (Kd.R_lower (Kd.R_new' (Kd.R_new' (Kd.R_new' ho0 (Kd.R_lt (zR HO908))) (Kd.R_lt (zR HO911))) (Kd.R_lt (zR HO915))) (below_size (zB HB))); replace HO908 := Aside0.mk (Kd.R_elder' (zR HO908) (Kd.R_base ho0) hb); replace HO911 := Aside0.mk (Kd.R_elder' (zR HO911) (Kd.R_base ho0) hb); replace HO915 := Aside0.mk (Kd.R_elder' (zR HO915) (Kd.R_base ho0) hb); replace HB := Aside0.mk (below_step (zB HB) hb); (try clear hb); (try clear ho0); obtain ⟨Ao23, co23, eo23⟩ := Kd.R_slice HO915.out; subst eo23; obtain ⟨Ao24, co24, eo24⟩ := Kd.R_slice HO918.out; subst eo24) | (go_at_call 37; (with_reducible refine (intrusionref07_Same.calls kj2 _ _ t913 _ _ t916 true _ ?side1 ?side2 ?side3 ?side4 A14.out).mono ?_); (case side1 => repeat (first | exact (Kd.R_reads' HO915.out).2.2 | (with_reducible refine Kd.C_alloc ?_ _) | (with_reducible refine Kd.C_drewN ?_ _) | (with_reducible refine Kd.C_drew ?_))); (case side2 => exact (Kd.R_reads' HO915.out).2.1); (case side3 => repeat (first | exact (Kd.R_reads' HO918.out).2.2 | (with_reducible refine Kd.C_alloc ?_ _) | (with_reducible refine Kd.C_drewN ?_ _) | (with_reducible refine Kd.C_drew ?_))); (case side4 => exact (Kd.R_reads' HO918.out).2.1); rintro e w' ⟨rfl, ⟨nd, rfl⟩⟩) | (go_at_call 36; (with_reducible refine (intrusionlaw07_awake.calls kj2  t920 _ A16.out).mono ?_); rintro e w25 ⟨rfl, hb⟩; replace HO908 := Aside0.mk (Kd.R_below (zR HO908) hb); replace HO911 := Aside0.mk (Kd.R_below (zR HO911) hb); replace HO915 := Aside0.mk (Kd.R_below (zR HO915) hb); replace HO918 := Aside0.mk (Kd.R_below (zR HO918) hb); replace HB := Aside0.mk (below_step (zB HB) hb); (try clear hb)))
         go_ret
         exact ⟨by first | rfl | (simp [errW_none, errW_some] <;> rfl) | (simp [*, errW_none, errW_some] <;> rfl), by repeat (first | (with_reducible first | exact HB.out | apply below_alloc | apply pw_below_drewN | apply below_drew1) | exact HB.out)⟩
       · replace c15 := Bool.eq_false_iff.mpr c15
         subst c15
         rw [if_neg zF] at H
         obtain rfl := Option.some.inj H
         go_wp2_with (first | ((with_reducible refine gate_callee (f := 48) rfl ?_); refine goesL_ (some 15) rfl rfl Try.func48 (by kernel_rfl) rfl #[.slice A0 l0.length c0] rfl (by (try simp only [List.map_toArray, List.map_cons, List.map_nil]); first | done | rfl | (simp only [List.length_drop, List.length_take]; rfl)) ?_; (with_reducible refine (addrset_Of.calls kj2 _ _ l0 t906 _ ?side1 ?side2 A8.out).mono ?_); (case side1 => repeat (first | exact (Kd.C_below HR0.out HB.out) | (with_reducible refine Kd.C_alloc ?_ _) | (with_reducible refine Kd.C_drewN ?_ _) | (with_reducible refine Kd.C_drew ?_))); (case side2 => exact HC0.out); rintro e w26 ⟨v907, rfl, ho0, hb⟩; refine ⟨_, rfl, ?_⟩; have HO908 := Aside0.mk (Kd.R_lower ho0 (below_size (zB HB))); replace HB := Aside0.mk (below_step (zB HB) hb); (try clear hb); (try clear ho0)) | ((with_reducible refine gate_callee (f := 49) rfl ?_); refine goesL_ (some 17) rfl rfl Try.func49 (by kernel_rfl) rfl #[.slice A0 l0.length c0] rfl (by (try simp only [List.map_toArray, List.map_cons, List.map_nil]); first | done | rfl | (simp only [List.length_drop, List.length_take]; rfl)) ?_; (with_reducible refine (intrusionref07_Of.calls kj2 _ _ l0 t909 _ ?side1 ?side2 A9.out).mono ?_); (case side1 => repeat (first | exact (Kd.C_below HR0.out HB.out) | (with_reducible refine Kd.C_alloc ?_ _) | (with_reducible refine Kd.C_drewN ?_ _) | (with_reducible refine Kd.C_drew ?_))); (case side2 => exact HC0.out); rintro e w27 ⟨v910, rfl, ho0, hb⟩; refine ⟨_, rfl, ?_⟩; have HO911 := Aside0.mk (Kd.R_lower (Kd.R_new' ho0 (Kd.R_lt (zR HO908))) (below_size (zB HB))); replace HO908 := Aside0.mk (Kd.R_elder' (zR HO908) (Kd.R_base ho0) hb); replace HB := Aside0.mk (below_step (zB HB) hb); (try clear hb); (try clear ho0); obtain ⟨Ao28, co28, eo28⟩ := Kd.R_slice HO908.out; subst eo28; obtain ⟨Ao29, co29, eo29⟩ := Kd.R_slice HO911.out; subst eo29) | ((with_reducible refine gate_callee (f := 37) rfl ?_); refine goesL_ (some 18) rfl rfl Try.func37 (by kernel_rfl) rfl #[.slice Ao28 t906.length co28, .slice Ao29 t909.length co29] rfl (by (try simp only [List.map_toArray, List.map_cons, List.map_nil]); first | done | rfl | (simp only [List.length_drop, List.length_take]; rfl)) ?_; (with_reducible refine (intrusionref07_Same.calls kj2 _ _ t906 _ _ t909 true _ ?side1 ?side2 ?side3 ?side4 A10.out).mono ?_); (case side1 => repeat (first | exact (Kd.R_reads' HO908.out).2.2 | (with_reducible refine Kd.C_alloc ?_ _) | (with_reducible refine Kd.C_drewN ?_ _) | (with_reducible refine Kd.C_drew ?_))); (case side2 => exact (Kd.R_reads' HO908.out).2.1); (case side3 => repeat (first | exact (Kd.R_reads' HO911.out).2.2 | (with_reducible refine Kd.C_alloc ?_ _) | (with_reducible refine Kd.C_drewN ?_ _) | (with_reducible refine Kd.C_drew ?_))); (case side4 => exact (Kd.R_reads' HO911.out).2.1); rintro e w' ⟨rfl, ⟨nd, rfl⟩⟩; refine ⟨_, rfl, ?_⟩) | (go_at_call 50; (with_reducible refine (addrset_Eval.calls kj2 _ _ l0 _ _ l1 t913 _ ?side1 ?side2 ?side3 ?side4 A12.out).mono ?_); (case side1 => repeat (first | exact (Kd.C_below HR0.out (zB HB)) | (with_reducible refine Kd.C_alloc ?_ _) | (with_reducible refine Kd.C_drewN ?_ _) | (with_reducible refine Kd.C_drew ?_))); (case side2 => exact HC0.out); (case side3 => repeat (first | exact (Kd.C_below HR1.out (zB HB)) | (with_reducible refine Kd.C_alloc ?_ _) | (with_reducible refine Kd.C_drewN ?_ _) | (with_reducible refine Kd.C_drew ?_))); (case side4 => exact HC1.out); rintro e w30 ⟨v914, rfl, ho0, hb⟩; have HO915 := Aside0.mk (Kd.R_lower (Kd.R_new' (Kd.R_new' ho0 (Kd.R_lt (zR HO908))) (Kd.R_lt (zR HO911))) (below_size (zB HB))); replace HO908 := Aside0.mk (Kd.R_elder' (zR HO908) (Kd.R_base ho0) hb); replace HO911 := Aside0.mk (Kd.R_elder' (zR HO911) (Kd.R_base ho0) hb); replace HB := Aside0.mk (below_step (zB HB) hb); (try clear hb); (try clear ho0)) | (go_at_call 51; (with_reducible refine (intrusionref07_Eval.calls kj2 _ _ l0 _ _ l1 t916 _ ?side1 ?side2 ?side3 ?side4 A13.out).mono ?_); (case side1 => repeat (first | exact (Kd.C_below HR0.out HB.out) | (with_reducible refine Kd.C_alloc ?_ _) | (with_reducible refine Kd.C_drewN ?_ _) | (with_reducible refine Kd.C_drew ?_))); (case side2 => exact HC0.out); (case side3 => repeat (first | exact (Kd.C_below HR1.out HB.out) | (with_reducible refine Kd.C_alloc ?_ _) | (with_reducible refine Kd.C_drewN ?_ _) | (with_reducible refine Kd.C_drew ?_))); (case side4 => exact HC1.out); rintro e w31 ⟨v917, rfl, ho0, hb⟩; have HO918 := Aside0.mk (Kd.R_lower (Kd.R_new' (Kd.R_new' (Kd.R_new' ho0 (Kd.R_lt (zR HO908))) (Kd.R_lt (zR HO911))) (Kd.R_lt (zR HO915))) (below_size (zB HB))); replace HO908 := Aside0.mk (Kd.R_elder' (zR HO908) (Kd.R_base ho0) hb); replace HO911 := Aside0.mk (Kd.R_elder' (zR HO911) (Kd.R_base ho0) hb); replace HO915 := Aside0.mk (Kd.R_elder' (zR HO915) (Kd.R_base ho0) hb); replace HB := Aside0.mk (below_step (zB HB) hb); (try clear hb); (try clear ho0); obtain ⟨Ao32, co32, eo32⟩ := Kd.R_slice HO915.out; subst eo32; obtain ⟨Ao33, co33, eo33⟩ := Kd.R_slice HO918.out; subst eo33) | (go_at_call 37; (with_reducible refine (intrusionref07_Same.calls kj2 _ _ t913 _ _ t916 false _ ?side1 ?side2 ?side3 ?side4 A14.out).mono ?_); (case side1 => repeat (first | exact (Kd.R_reads' HO915.out).2.2 | (with_reducible refine Kd.C_alloc ?_ _) | (with_reducible refine Kd.C_drewN ?_ _) | (with_reducible refine Kd.C_drew ?_))); (case side2 => exact (Kd.R_reads' HO915.out).2.1); (case side3 => repeat (first | exact (Kd.R_reads' HO918.out).2.2 | (with_reducible refine Kd.C_alloc ?_ _) | (with_reducible refine Kd.C_drewN ?_ _) | (with_reducible refine Kd.C_drew ?_))); (case side4 => exact (Kd.R_reads' HO918.out).2.1); rintro e w' ⟨rfl, ⟨nd, rfl⟩⟩))
         go_ret
         exact ⟨by first | rfl | (simp [errW_none, errW_some] <;> rfl) | (simp [*, errW_none, errW_some] <;> rfl), by repeat (first | (with_reducible first | exact HB.out | apply below_alloc | apply pw_below_drewN | apply below_drew1) | exact HB.out)⟩
     · replace c11 := Bool.eq_false_iff.mpr c11
       subst c11
       rw [if_neg zF] at H
       obtain rfl := Option.some.inj H
       go_wp2_with (first | ((with_reducible refine gate_callee (f := 48) rfl ?_); refine goesL_ (some 15) rfl rfl Try.func48 (by kernel_rfl) rfl #[.slice A0 l0.length c0] rfl (by (try simp only [List.map_toArray, List.map_cons, List.map_nil]); first | done | rfl | (simp only [List.length_drop, List.length_take]; rfl)) ?_; (with_reducible refine (addrset_Of.calls kj2 _ _ l0 t906 _ ?side1 ?side2 A8.out).mono ?_); (case side1 => repeat (first | exact (Kd.C_below HR0.out HB.out) | (with_reducible refine Kd.C_alloc ?_ _) | (with_reducible refine Kd.C_drewN ?_ _) | (with_reducible refine Kd.C_drew ?_))); (case side2 => exact HC0.out); rintro e w34 ⟨v907, rfl, ho0, hb⟩; refine ⟨_, rfl, ?_⟩; have HO908 := Aside0.mk (Kd.R_lower ho0 (below_size (zB HB))); replace HB := Aside0.mk (below_step (zB HB) hb); (try clear hb); (try clear ho0)) | ((with_reducible refine gate_callee (f := 49) rfl ?_); refine goesL_ (some 17) rfl rfl Try.func49 (by kernel_rfl) rfl #[.slice A0 l0.length c0] rfl (by (try simp only [List.map_toArray, List.map_cons, List.map_nil]); first | done | rfl | (simp only [List.length_drop, List.length_take]; rfl)) ?_; (with_reducible refine (intrusionref07_Of.calls kj2 _ _ l0 t909 _ ?side1 ?side2 A9.out).mono ?_); (case side1 => repeat (first | exact (Kd.C_below HR0.out HB.out) | (with_reducible refine Kd.C_alloc ?_ _) | (with_reducible refine Kd.C_drewN ?_ _) | (with_reducible refine Kd.C_drew ?_))); (case side2 => exact HC0.out); rintro e w35 ⟨v910, rfl, ho0, hb⟩; refine ⟨_, rfl, ?_⟩; have HO911 := Aside0.mk (Kd.R_lower (Kd.R_new' ho0 (Kd.R_lt (zR HO908))) (below_size (zB HB))); replace HO908 := Aside0.mk (Kd.R_elder' (zR HO908) (Kd.R_base ho0) hb); replace HB := Aside0.mk (below_step (zB HB) hb); (try clear hb); (try clear ho0); obtain ⟨Ao36, co36, eo36⟩ := Kd.R_slice HO908.out; subst eo36; obtain ⟨Ao37, co37, eo37⟩ := Kd.R_slice HO911.out; subst eo37) | ((with_reducible refine gate_callee (f := 37) rfl ?_); refine goesL_ (some 18) rfl rfl Try.func37 (by kernel_rfl) rfl #[.slice Ao36 t906.length co36, .slice Ao37 t909.length co37] rfl (by (try simp only [List.map_toArray, List.map_cons, List.map_nil]); first | done | rfl | (simp only [List.length_drop, List.length_take]; rfl)) ?_; (with_reducible refine (intrusionref07_Same.calls kj2 _ _ t906 _ _ t909 false _ ?side1 ?side2 ?side3 ?side4 A10.out).mono ?_); (case side1 => repeat (first | exact (Kd.R_reads' HO908.out).2.2 | (with_reducible refine Kd.C_alloc ?_ _) | (with_reducible refine Kd.C_drewN ?_ _) | (with_reducible refine Kd.C_drew ?_))); (case side2 => exact (Kd.R_reads' HO908.out).2.1); (case side3 => repeat (first | exact (Kd.R_reads' HO911.out).2.2 | (with_reducible refine Kd.C_alloc ?_ _) | (with_reducible refine Kd.C_drewN ?_ _) | (with_reducible refine Kd.C_drew ?_))); (case side4 => exact (Kd.R_reads' HO911.out).2.1); rintro e w' ⟨rfl, ⟨nd, rfl⟩⟩; refine ⟨_, rfl, ?_⟩))
       go_ret
       exact ⟨by first | rfl | (simp [errW_none, errW_some] <;> rfl) | (simp [*, errW_none, errW_some] <;> rfl), by repeat (first | (with_reducible first | exact HB.out | apply below_alloc | apply pw_below_drewN | apply below_drew1) | exact HB.out)⟩
end Go.Proofs.Ytcgfpffgiimgmaa.Q
end

section
set_option linter.unusedVariables false
namespace Go.Proofs.Ytcgfpffgiimgmaa.Read
open Go.RowKit Go.Deep Go.WideShapes Go.Proofs.YtcgfpffgiimgmaaW.PrintWords
def Reads {α : Type} (P : Program) (W : World) (d : Kd α) (Q : α → Prop) (t : TypeId) : Prop :=
  ∀ (H : Type) (enc : TypeId × Value → H) (fuel : Nat) (cs : List Value) (x : DataW H × List MemPlace), DataW.trod enc P W 0 (fun _ => true) true fuel t cs = some x → ∃ y, d.K W y cs ∧ Q y
section
variable {P : Program} {W : World}
theorem reads_int {k : IntKind} {t : TypeId} (ht : P.underlying t = some (.int k)) : Reads P W (Kd.int k) (fun n => (Lit.int k n).wf = true) t := by
  intro H enc fuel cs x h
  obtain ⟨n, rfl, _, hw⟩ := DataW.trod_int ht h
  exact ⟨n, rfl, hw⟩
theorem reads_bool {t : TypeId} (ht : P.underlying t = some .bool) : Reads P W Kd.bool (fun _ => True) t := by
  intro H enc fuel cs x h
  obtain ⟨n, rfl, _⟩ := DataW.trod_bool ht h
  exact ⟨n, rfl, trivial⟩
theorem cells_at {a : Addr} {n : Nat} {cs : List Value} (h : W.cells? 0 a n = some cs) : ∀ i u, cs[i]? = some u → W.cell? (a.add i) = some u := by
  obtain ⟨_, hl, hc⟩ := World.cells?_some h
  intro i u hi
  have hlt : i < cs.length := (List.getElem?_eq_some_iff.1 hi).1
  rw [hc i (by omega), hi]
theorem reads_slice {α : Type} {d : Kd α} {Q : α → Prop} {t e : TypeId} (ht : P.underlying t = some (.slice e)) (hc : P.cellsOf e = d.sz) (he : Reads P W d Q e) :
    Reads P W (Kd.slice e d) (fun xs => xs.length ≤ maxLen ∧ ∀ x ∈ xs, Q x) t := by
  intro H enc fuel cs x h
  rcases open_slice ht h with ⟨rfl, _⟩ | ⟨a, len, cap, m, n, D, Pl, rfl, _, hl, hm, hmm, _, hx⟩
  · exact ⟨[], ⟨none, 0, rfl, Nat.le_refl _, ⟨rfl, by simp, fun h => absurd h (by simp)⟩⟩, by simp⟩
  · have hml : m = cap := by simpa using hmm
    have hy : ∀ i : Fin len, ∃ y, (∃ cs', cs'.length = d.sz ∧ d.K W y cs' ∧ ∀ j u, cs'[j]? = some u → W.cell? (a.add (i.1 * d.sz + j)) = some u) ∧ Q y := by
      intro i
      obtain ⟨cs', h1, h2⟩ := hx i.1 (by omega)
      obtain ⟨y, hk, hq⟩ := he H enc n cs' _ h2
      refine ⟨y, ⟨cs', d.K_len hk, hk, fun j u hj => ?_⟩, hq⟩
      have := cells_at h1 j u hj
      rwa [hc, Addr.add_add] at this
    have hf : ∃ f : Fin len → α, ∀ i, (∃ cs', cs'.length = d.sz ∧ d.K W (f i) cs' ∧ ∀ j u, cs'[j]? = some u → W.cell? (a.add (i.1 * d.sz + j)) = some u) ∧ Q (f i) := ⟨fun i => Classical.choose (hy i), fun i => Classical.choose_spec (hy i)⟩
    obtain ⟨f, hf⟩ := hf
    refine ⟨List.ofFn f, ⟨some a, cap, by simp, by simpa using hl, ⟨rfl, by simp [maxLen] at hm ⊢; omega, fun _ => ⟨a, rfl, fun j p hj => ?_⟩⟩⟩, by simpa using Nat.le_trans hl hm, fun y hy => ?_⟩
    · obtain ⟨hlt, rfl⟩ := List.getElem?_eq_some_iff.1 hj
      have hjl : j < len := by simpa using hlt
      rw [List.getElem_ofFn]
      exact (hf ⟨j, hjl⟩).1
    · obtain ⟨j, hj, rfl⟩ := List.getElem_of_mem hy
      rw [List.getElem_ofFn]
      exact (hf _).2
theorem pair_mk {α β : Type} {a : Kd α} {b : Kd β} {x : α} {y : β} {cs : List Value} (s : Nat) (h0 : a.K W x (cs.take s)) (h1 : b.K W y (cs.drop s)) : (Kd.pair a b).K W (x, y) cs :=
  ⟨cs.take s, cs.drop s, (List.take_append_drop s cs).symm, h0, h1⟩
theorem field_at {α : Type} {d : Kd α} {Q : α → Prop} {fs : Array Field} {H : Type} {enc : TypeId × Value → H} {n : Nat} {cs : List Value} {xs : List (DataW H × List MemPlace)} (hl : xs.length = fs.size)
    (hf : ∀ (i : Nat) (f : Field), fs[i]? = some f → DataW.trod enc P W 0 (fun _ => true) true n f.type ((cs.drop f.offset).take (P.cellsOf f.type)) = xs[i]?)
    (i : Nat) {f : Field} (hi : fs[i]? = some f) {t off sz : Nat} (ht : f.type = t) (ho : f.offset = off) (hc : P.cellsOf t = sz) (hr : Reads P W d Q t) : ∃ y, d.K W y ((cs.drop off).take sz) ∧ Q y := by
  subst ht ho hc
  have h := hf i f hi
  have hlt : i < xs.length := by rw [hl]; exact (Array.getElem?_eq_some_iff.1 hi).1
  rw [List.getElem?_eq_getElem hlt] at h
  exact hr H enc n _ _ h
end
end Go.Proofs.Ytcgfpffgiimgmaa.Read
end

section
set_option linter.unusedVariables false
namespace Go.Proofs.Ytcgfpffgiimgmaa.Q
open Go.RowKit Go.Proofs.YtcgfpffgiimgmaaW.PrintWords Go.Proofs.Ytcgfpffgiimgmaa.Read
def q36 (x : S36) : Prop := True ∧ (Lit.int .u64 x.f1).wf = true ∧ (Lit.int .u64 x.f2).wf = true
theorem reads_k36 (W : World) : Reads Try.prog W k36 q36 36 := by
  intro H enc fuel cs x h
  obtain ⟨xs, n, rfl, _, hcl, hxl, hf⟩ := DataW.trod_struct Try.underlying36 h
  have hc : cs.length = 3 := hcl.trans (by kernel_rfl)
  obtain ⟨y0, h0, g0⟩ := field_at hxl hf 0 rfl (t := 4) (off := 0) (sz := 1) rfl rfl (by kernel_rfl) (reads_bool Try.underlying4)
  obtain ⟨y1, h1, g1⟩ := field_at hxl hf 1 rfl (t := 34) (off := 1) (sz := 1) rfl rfl (by kernel_rfl) (reads_int Try.underlying34)
  obtain ⟨y2, h2, g2⟩ := field_at hxl hf 2 rfl (t := 34) (off := 2) (sz := 1) rfl rfl (by kernel_rfl) (reads_int Try.underlying34)
  refine ⟨⟨y0, y1, y2⟩, ?_, ⟨g0, g1, g2⟩⟩
  rw [show (cs.drop 0).take 1 = (cs.drop 0).take 1 from rfl] at h0
  rw [show (cs.drop 1).take 1 = (cs.drop 1).take 1 from rfl] at h1
  rw [show (cs.drop 2).take 1 = (cs.drop 2) from List.take_of_length_le (by rw [List.length_drop, hc]; decide)] at h2
  skip
  simp only [show 2 = 1 + 1 from rfl, ← List.drop_drop] at h2
  have e0 : cs.drop 0 = cs := rfl
  rw [e0] at h0
  exact pair_mk (a := Kd.bool) 1 h0 (pair_mk (a := (Kd.int .u64)) 1 h1 (h2))
def q45 (x : S45) : Prop := q36 x.f0 ∧ (Lit.int .i64 x.f1).wf = true
theorem reads_k45 (W : World) : Reads Try.prog W k45 q45 45 := by
  intro H enc fuel cs x h
  obtain ⟨xs, n, rfl, _, hcl, hxl, hf⟩ := DataW.trod_struct Try.underlying45 h
  have hc : cs.length = 4 := hcl.trans (by kernel_rfl)
  obtain ⟨y0, h0, g0⟩ := field_at hxl hf 0 rfl (t := 36) (off := 0) (sz := 3) rfl rfl (by kernel_rfl) (reads_k36 W)
  obtain ⟨y1, h1, g1⟩ := field_at hxl hf 1 rfl (t := 3) (off := 3) (sz := 1) rfl rfl (by kernel_rfl) (reads_int Try.underlying3)
  refine ⟨⟨y0, y1⟩, ?_, ⟨g0, g1⟩⟩
  rw [show (cs.drop 0).take 3 = (cs.drop 0).take 3 from rfl] at h0
  rw [show (cs.drop 3).take 1 = (cs.drop 3) from List.take_of_length_le (by rw [List.length_drop, hc]; decide)] at h1
  skip
  have e0 : cs.drop 0 = cs := rfl
  rw [e0] at h0
  exact pair_mk (a := k36) 3 h0 (h1)
end Go.Proofs.Ytcgfpffgiimgmaa.Q
end

section
namespace Go.Proofs.Ytcgfpffgiimgmaa.Canon
abbrev Sp := Int × Int
def Mem (l : List Sp) (n : Int) : Prop := ∃ x, x ∈ l ∧ x.1 ≤ n ∧ n ≤ x.2
def CanFrom : Int → List Sp → Prop
  | _, [] => True
  | lo, x :: t => lo ≤ x.1 ∧ x.1 ≤ x.2 ∧ CanFrom (x.2 + 2) t
theorem mem_nil (n : Int) : Mem [] n ↔ False := by simp [Mem]
theorem mem_cons (x : Sp) (t : List Sp) (n : Int) : Mem (x :: t) n ↔ (x.1 ≤ n ∧ n ≤ x.2) ∨ Mem t n := by
  simp only [Mem, List.mem_cons]
  constructor
  · rintro ⟨y, rfl | hy, h⟩
    · exact .inl h
    · exact .inr ⟨y, hy, h⟩
  · rintro (h | ⟨y, hy, h⟩)
    · exact ⟨x, .inl rfl, h⟩
    · exact ⟨y, .inr hy, h⟩
theorem mem_append (a b : List Sp) (n : Int) : Mem (a ++ b) n ↔ Mem a n ∨ Mem b n := by
  induction a with
  | nil => simp [mem_nil]
  | cons x t ih => simp only [List.cons_append, mem_cons, ih]; exact or_assoc.symm
theorem CanFrom.mono {lo lo' : Int} {l : List Sp} (h : lo' ≤ lo) (c : CanFrom lo l) : CanFrom lo' l := by
  cases l with
  | nil => trivial
  | cons x t => exact ⟨Int.le_trans h c.1, c.2⟩
theorem CanFrom.ge : ∀ {l : List Sp} {lo n : Int}, CanFrom lo l → Mem l n → lo ≤ n
  | [], _, _, _, h => ((mem_nil _).1 h).elim
  | x :: t, lo, n, c, h => by
    rcases (mem_cons x t n).1 h with h | h
    · have := c.1; omega
    · have := CanFrom.ge c.2.2 h; have := c.1; have := c.2.1; omega
theorem uniq : ∀ (a b : List Sp) (lo : Int), CanFrom lo a → CanFrom lo b → (∀ n, Mem a n ↔ Mem b n) → a = b
  | [], [], _, _, _, _ => rfl
  | [], y :: t, _, _, cb, h => by
    have := (h y.1).2 ((mem_cons y t _).2 (.inl ⟨Int.le_refl _, cb.2.1⟩))
    exact ((mem_nil _).1 this).elim
  | x :: s, [], _, ca, _, h => by
    have := (h x.1).1 ((mem_cons x s _).2 (.inl ⟨Int.le_refl _, ca.2.1⟩))
    exact ((mem_nil _).1 this).elim
  | x :: s, y :: t, lo, ca, cb, h => by
    have hx : ∀ n, Mem (x :: s) n → x.1 ≤ n := fun n hn => CanFrom.ge (lo := x.1) (l := x :: s) ⟨Int.le_refl _, ca.2⟩ hn
    have hy : ∀ n, Mem (y :: t) n → y.1 ≤ n := fun n hn => CanFrom.ge (lo := y.1) (l := y :: t) ⟨Int.le_refl _, cb.2⟩ hn
    have e1 : x.1 = y.1 := by
      have a1 := hy _ ((h x.1).1 ((mem_cons x s _).2 (.inl ⟨Int.le_refl _, ca.2.1⟩)))
      have a2 := hx _ ((h y.1).2 ((mem_cons y t _).2 (.inl ⟨Int.le_refl _, cb.2.1⟩)))
      omega
    have e2 : x.2 = y.2 := by
      have k1 : ¬ x.2 < y.2 := fun hlt => by
        have := (h (x.2 + 1)).2 ((mem_cons y t _).2 (.inl ⟨by have := ca.2.1; omega, by omega⟩))
        rcases (mem_cons x s _).1 this with m | m
        · omega
        · have := ca.2.2.ge m; omega
      have k2 : ¬ y.2 < x.2 := fun hlt => by
        have := (h (y.2 + 1)).1 ((mem_cons x s _).2 (.inl ⟨by have := cb.2.1; omega, by omega⟩))
        rcases (mem_cons y t _).1 this with m | m
        · omega
        · have := cb.2.2.ge m; omega
      omega
    have e : x = y := Prod.ext e1 e2
    subst e
    rw [uniq s t (x.2 + 2) ca.2.2 cb.2.2 (fun n => by
      constructor
      · intro hn
        have g := ca.2.2.ge hn
        rcases (mem_cons x t _).1 ((h n).1 ((mem_cons x s _).2 (.inr hn))) with m | m
        · omega
        · exact m
      · intro hn
        have g := cb.2.2.ge hn
        rcases (mem_cons x s _).1 ((h n).2 ((mem_cons x t _).2 (.inr hn))) with m | m
        · omega
        · exact m)]
def ins (x : Sp) : List Sp → List Sp
  | [] => [x]
  | y :: t => if x.2 + 1 < y.1 then x :: y :: t else if y.2 + 1 < x.1 then y :: ins x t else ins (min x.1 y.1, max x.2 y.2) t
theorem ins_can : ∀ (l : List Sp) (x : Sp) (lo : Int), CanFrom lo l → lo ≤ x.1 → x.1 ≤ x.2 → CanFrom lo (ins x l)
  | [], x, lo, _, h1, h2 => ⟨h1, h2, trivial⟩
  | y :: t, x, lo, c, h1, h2 => by
    obtain ⟨c1, c2, c3⟩ := c
    unfold ins
    split
    · exact ⟨h1, h2, by omega, c2, c3⟩
    · split
      · exact ⟨c1, c2, ins_can t x _ c3 (by omega) h2⟩
      · refine ins_can t _ lo (c3.mono (by omega)) ?_ ?_
        · show lo ≤ min x.1 y.1; omega
        · show min x.1 y.1 ≤ max x.2 y.2; omega
theorem ins_mem : ∀ (l : List Sp) (x : Sp) (lo n : Int), CanFrom lo l → x.1 ≤ x.2 → (Mem (ins x l) n ↔ (x.1 ≤ n ∧ n ≤ x.2) ∨ Mem l n)
  | [], x, lo, n, _, _ => by simp [ins, mem_cons]
  | y :: t, x, lo, n, c, h2 => by
    obtain ⟨c1, c2, c3⟩ := c
    unfold ins
    split
    · rw [mem_cons]
    · split
      · rw [mem_cons, ins_mem t x _ n c3 h2, mem_cons]
        constructor
        · rintro (h | h | h)
          · exact .inr (.inl h)
          · exact .inl h
          · exact .inr (.inr h)
        · rintro (h | h | h)
          · exact .inr (.inl h)
          · exact .inl h
          · exact .inr (.inr h)
      · rw [ins_mem t _ _ n c3 (by show min x.1 y.1 ≤ max x.2 y.2; omega), mem_cons, ← or_assoc]
        refine or_congr_left ?_
        show (min x.1 y.1 ≤ n ∧ n ≤ max x.2 y.2) ↔ _
        omega
theorem can_append : ∀ (a b : List Sp) (lo : Int), CanFrom lo (a ++ b) ↔ CanFrom lo a ∧ (∀ x ∈ a, ∀ y ∈ b, x.2 + 1 < y.1) ∧ (∃ lo', CanFrom lo' b) ∧ (∀ y ∈ b, lo ≤ y.1)
  | [], b, lo => by
    constructor
    · intro c
      refine ⟨trivial, by simp, ⟨lo, c⟩, fun y hy => ?_⟩
      have hm : Mem b y.1 → lo ≤ y.1 := c.ge
      refine hm ⟨y, hy, Int.le_refl _, ?_⟩
      have : ∀ (b : List Sp) (lo : Int), CanFrom lo b → ∀ y ∈ b, y.1 ≤ y.2 := by
        intro b
        induction b with
        | nil => simp
        | cons z t ih =>
          intro lo c y hy
          rcases List.mem_cons.1 hy with rfl | hy
          · exact c.2.1
          · exact ih _ c.2.2 y hy
      exact this b lo c y hy
    · rintro ⟨_, _, ⟨lo', c⟩, h⟩
      cases b with
      | nil => trivial
      | cons z t => exact ⟨h z (List.mem_cons_self ..), c.2⟩
  | x :: a, b, lo => by
    have ih := can_append a b (x.2 + 2)
    constructor
    · rintro ⟨c1, c2, c3⟩
      obtain ⟨i1, i2, i3, i4⟩ := ih.1 c3
      refine ⟨⟨c1, c2, i1⟩, fun z hz y hy => ?_, i3, fun y hy => ?_⟩
      · rcases List.mem_cons.1 hz with rfl | hz
        · have := i4 y hy; omega
        · exact i2 z hz y hy
      · have := i4 y hy; omega
    · rintro ⟨⟨c1, c2, c3⟩, h2, h3, h4⟩
      refine ⟨c1, c2, ih.2 ⟨c3, fun z hz => h2 z (List.mem_cons_of_mem _ hz), h3, fun y hy => ?_⟩⟩
      have := h2 x (List.mem_cons_self ..) y hy
      omega
theorem can_wf : ∀ (b : List Sp) (lo : Int), CanFrom lo b → ∀ y ∈ b, lo ≤ y.1 ∧ y.1 ≤ y.2
  | [], _, _, y, hy => by simp at hy
  | z :: t, lo, c, y, hy => by
    rcases List.mem_cons.1 hy with rfl | hy
    · exact ⟨c.1, c.2.1⟩
    · have := can_wf t _ c.2.2 y hy
      have := c.1; have := c.2.1
      exact ⟨by omega, by omega⟩
end Go.Proofs.Ytcgfpffgiimgmaa.Canon
end

section
set_option linter.unusedVariables false
set_option linter.unusedSimpArgs false
namespace Go.Proofs.Ytcgfpffgiimgmaa.Q
open Go.RowKit Go.Proofs.YtcgfpffgiimgmaaW.PrintWords Go.Proofs.YtcgfpffgiimgmaaW.PrintLast Go.Proofs.YtcgfpffgiimgmaaW.PrintMore
def greaterA (a b : S36) : S36 := if 0 ≤ cmpA a b then a else b
def lessA (a b : S36) : S36 := if cmpA a b ≤ 0 then a else b
theorem greater_eq (a b : S36) : addrset_greater.f a.f0 a.f1 a.f2 b.f0 b.f1 b.f2 = some ((greaterA a b).f0, (greaterA a b).f1, (greaterA a b).f2) := by
  unfold addrset_greater.f address_Compare.f greaterA
  simp only [Option.bind_some, ge_iff_le]
  by_cases h : 0 ≤ cmpA a b
  · rw [if_pos h, if_pos h]
  · rw [if_neg h, if_neg h]
def bothR (r s : S66) : S66 := ⟨greaterA r.f0 s.f0, lessA r.f1 s.f1⟩
def interOne (r : S66) (xs : List S66) (s : S66) : List S66 := if r.f0.f0 = s.f0.f0 then addIf xs (bothR r s) else xs
def interRow (y : List S66) (xs : List S66) (r : S66) : List S66 := y.foldl (interOne r) xs
def addrset_Intersect.f (k : Nat) (l0 l1 : List S66) : Option (List S66) := (addrset_Normal.f k l1).bind fun y => (addrset_Normal.f k l0).bind fun x => if x.length * y.length < 2932031007402 then addrset_Normal.f k (x.foldl (interRow y) []) else none
theorem addrset_Intersect.mono : ∀ a0 a1 k, LeO (addrset_Intersect.f k a0 a1) (addrset_Intersect.f (k + 1) a0 a1) := by
  intro a0 a1 k
  unfold addrset_Intersect.f
  exact LeO.bind (addrset_Normal.mono _ _) (fun _ => LeO.bind (addrset_Normal.mono _ _) (fun _ => LeO.ite (addrset_Normal.mono _ _) (LeO.none _)))
structure InterAt (w W1 wr : World) (B : Nat) (v : Value) (xs : List S66) : Prop where
  cell : wr.heap[B]? = some (.cells #[v, .func (.func 71) #[] #[]] 69 (0, 0))
  row : Kd.R k66 66 wr w.heap.size (fun _ => True) v xs
  bel : Below w.heap.size w wr
  size : W1.heap.size ≤ wr.heap.size
  keep : ∀ q, q < W1.heap.size → q ≠ B → wr.heap[q]? = W1.heap[q]?
  own : ∀ q, v.ownBlock = some q → W1.heap.size ≤ q
end Go.Proofs.Ytcgfpffgiimgmaa.Q
end

section
set_option linter.unusedVariables false
set_option linter.unusedSimpArgs false
namespace Go.Proofs.Ytcgfpffgiimgmaa.Q
open Go.RowKit Go.Proofs.YtcgfpffgiimgmaaW.PrintWords Go.Proofs.YtcgfpffgiimgmaaW.PrintLast Go.Proofs.YtcgfpffgiimgmaaW.PrintMore Go.Proofs.Ytcgfpffgiimgmaa.Canon
abbrev Ad := S36
abbrev Rg := S66
abbrev Px := S45
def AW (a : Ad) : Prop := 0 ≤ a.f1 ∧ a.f1 < 18446744073709551616 ∧ 0 ≤ a.f2 ∧ a.f2 < 18446744073709551616
def av (a : Ad) : Int := (if a.f0 = true then 680564733841876926926749214863536422912 else 0) + a.f1 * 18446744073709551616 + a.f2
def AF (a : Ad) : Prop := AW a ∧ (a.f0 = true ∨ (a.f1 = 0 ∧ a.f2 ≤ 4294967295))
def RW (r : Rg) : Prop := AF r.f0 ∧ AF r.f1 ∧ r.f0.f0 = r.f1.f0 ∧ av r.f0 ≤ av r.f1
def RB (r : Rg) : Prop := AW r.f0 ∧ AW r.f1
theorem RW.b {r : Rg} (h : RW r) : RB r := ⟨h.1.1, h.2.1.1⟩
theorem wf_u64 {n : Int} (h : (Lit.int .u64 n).wf = true) : 0 ≤ n ∧ n < 18446744073709551616 := by
  simp only [Lit.wf, Bool.and_eq_true, decide_eq_true_eq] at h
  have e1 : IntKind.u64.min = 0 := by decide
  have e2 : IntKind.u64.max = 18446744073709551615 := by decide
  rw [e1, e2] at h
  omega
theorem aw_of {a : Ad} (h : q36 a) : AW a := by
  obtain ⟨_, h1, h2⟩ := h
  have := wf_u64 h1
  have := wf_u64 h2
  exact ⟨by omega, by omega, by omega, by omega⟩
theorem av_inj {a b : Ad} (ha : AW a) (hb : AW b) (h : av a = av b) : a = b := by
  obtain ⟨a0, a1, a2⟩ := a
  obtain ⟨b0, b1, b2⟩ := b
  unfold AW at ha hb
  unfold av at h
  cases a0 <;> cases b0 <;> simp at h ha hb ⊢ <;> omega
theorem av_eq {a b : Ad} (ha : AW a) (hb : AW b) : a = b ↔ av a = av b := ⟨fun h => by rw [h], av_inj ha hb⟩
theorem ltA_iff {a b : Ad} (ha : AW a) (hb : AW b) : ltA a b ↔ av a < av b := by
  obtain ⟨a0, a1, a2⟩ := a
  obtain ⟨b0, b1, b2⟩ := b
  unfold AW at ha hb
  unfold ltA av
  cases a0 <;> cases b0 <;> simp at ha hb ⊢ <;> omega
theorem cmpA_tri (a b : Ad) : cmpA a b = 0 ∨ cmpA a b = -1 ∨ cmpA a b = 1 := by
  unfold cmpA
  repeat' split
  all_goals simp
theorem cmpA_zero {a b : Ad} : cmpA a b = 0 ↔ a = b := by
  obtain ⟨a0, a1, a2⟩ := a
  obtain ⟨b0, b1, b2⟩ := b
  unfold cmpA
  simp only [Ad, S36.mk.injEq]
  by_cases h0 : a0 = b0
  · by_cases h1 : a1 = b1
    · by_cases h2 : a2 = b2
      · simp [h0, h1, h2]
      · simp only [h0, h1, h2, if_true, if_false]
        split <;> simp
    · simp only [h0, h1, if_true, if_false]
      split <;> simp
  · simp only [h0, if_false]
    split <;> simp
theorem cmp_lt' {a b : Ad} (ha : AW a) (hb : AW b) : cmpA a b < 0 ↔ av a < av b := (cmp_lt a b).trans (ltA_iff ha hb)
theorem cmp_le' {a b : Ad} (ha : AW a) (hb : AW b) : cmpA a b ≤ 0 ↔ av a ≤ av b := by
  have h1 := cmp_lt' ha hb
  have h2 := @cmpA_zero a b
  rw [av_eq ha hb] at h2
  rcases cmpA_tri a b with h | h | h <;> omega
theorem cmp_ge' {a b : Ad} (ha : AW a) (hb : AW b) : 0 ≤ cmpA a b ↔ av b ≤ av a := by
  have h1 := cmp_lt' ha hb
  omega
theorem fine_iff {a : Ad} (ha : AW a) : fineB a = true ↔ AF a := by
  unfold fineB AF
  simp only [Bool.or_eq_true, Bool.and_eq_true, decide_eq_true_eq]
  exact ⟨fun h => ⟨ha, h⟩, fun h => h.2⟩
theorem some_iff {r : Rg} (h : RB r) : someB r = true ↔ RW r := by
  unfold someB RW
  simp only [Bool.and_eq_true, fine_iff h.1, fine_iff h.2, beq_iff_eq, decide_eq_true_eq, cmp_le' h.1 h.2]
theorem AF.num {a : Ad} (h : AF a) : (a.f0 = false ∧ 0 ≤ av a ∧ av a ≤ 4294967295) ∨ (a.f0 = true ∧ 680564733841876926926749214863536422912 ≤ av a ∧ av a < 1020847100762815390390123822295304634368) := by
  obtain ⟨⟨h1, h2, h3, h4⟩, h5⟩ := h
  obtain ⟨a0, a1, a2⟩ := a
  unfold av
  cases a0 <;> simp at h1 h2 h3 h4 h5 ⊢ <;> omega
theorem RW.num {r : Rg} (h : RW r) : 0 ≤ av r.f0 ∧ av r.f0 ≤ av r.f1 ∧ ((r.f0.f0 = false ∧ r.f1.f0 = false ∧ av r.f1 ≤ 4294967295) ∨ (r.f0.f0 = true ∧ r.f1.f0 = true ∧ 680564733841876926926749214863536422912 ≤ av r.f0 ∧ av r.f1 < 1020847100762815390390123822295304634368)) := by
  obtain ⟨h1, h2, h3, h4⟩ := h
  rcases h1.num with n1 | n1 <;> rcases h2.num with n2 | n2
  · exact ⟨n1.2.1, h4, .inl ⟨n1.1, n2.1, n2.2.2⟩⟩
  · rw [n1.1, n2.1] at h3; cases h3
  · rw [n1.1, n2.1] at h3; cases h3
  · exact ⟨by omega, h4, .inr ⟨n1.1, n2.1, n1.2.1, n2.2.2⟩⟩
theorem before_eq (a b : Ad) (ha : AW a) (hb : AW b) : intrusionref07_Before.f a.f0 a.f1 a.f2 b.f0 b.f1 b.f2 = some (decide (av a < av b)) := by
  obtain ⟨a0, a1, a2⟩ := a
  obtain ⟨b0, b1, b2⟩ := b
  unfold AW at ha hb
  unfold intrusionref07_Before.f av
  cases a0 <;> cases b0 <;> simp at ha hb ⊢
  · by_cases h : a1 = b1
    · simp [h]
    · simp only [h, if_false, Option.some.injEq, decide_eq_decide]; omega
  · omega
  · omega
  · by_cases h : a1 = b1
    · simp [h]
    · simp only [h, if_false, Option.some.injEq, decide_eq_decide]; omega
theorem rfine_eq (a : Ad) (ha : AW a) : intrusionref07_Fine.f a.f0 a.f1 a.f2 = some (fineB a) := by
  unfold intrusionref07_Fine.f fineB
  cases a.f0
  · by_cases h : a.f1 = 0
    · simp [h]; omega
    · simp [h]
  · simp
theorem rsome_eq (r : Rg) (h : RB r) : intrusionref07_Some.f r.f0.f0 r.f0.f1 r.f0.f2 r.f1.f0 r.f1.f1 r.f1.f2 = some (someB r) := by
  unfold intrusionref07_Some.f someB
  rw [rfine_eq r.f0 h.1, rfine_eq r.f1 h.2]
  simp only [Option.bind_some]
  rw [before_eq r.f1 r.f0 h.2 h.1]
  have e : decide (cmpA r.f0 r.f1 ≤ 0) = !decide (av r.f1 < av r.f0) := by
    rw [Bool.eq_iff_iff, decide_eq_true_eq, cmp_le' h.1 h.2]
    simp
  rw [e]
  cases fineB r.f0 <;> cases fineB r.f1 <;> cases (r.f0.f0 == r.f1.f0) <;> simp
theorem cmp_f (a b : Ad) : address_Compare.f a.f0 a.f1 a.f2 b.f0 b.f1 b.f2 = some (cmpA a b) := rfl
theorem u64_id {n : Int} (h0 : 0 ≤ n) (h1 : n < 18446744073709551616) : IntKind.u64.wrap n = n := IntWalk.u64_in n ⟨h0, by omega⟩
instance decAd : DecidableEq Ad := fun a b => decidable_of_iff (a.f0 = b.f0 ∧ a.f1 = b.f1 ∧ a.f2 = b.f2) ⟨fun h => by cases a; cases b; simp at h; simp [h], fun h => by rw [h]; exact ⟨rfl, rfl, rfl⟩⟩
theorem u64_top : IntKind.u64.wrap 18446744073709551616 = 0 := by decide
def nextA (a : Ad) : Ad := ⟨a.f0, if IntKind.u64.wrap (a.f2 + 1) = 0 then IntKind.u64.wrap (a.f1 + 1) else a.f1, IntKind.u64.wrap (a.f2 + 1)⟩
def topA (f : Bool) : Ad := if f then ⟨true, 18446744073709551615, 18446744073709551615⟩ else ⟨false, 0, 4294967295⟩
theorem topA_AF (f : Bool) : AF (topA f) := by
  cases f
  · refine ⟨⟨?_, ?_, ?_, ?_⟩, .inr ⟨?_, ?_⟩⟩ <;> simp [topA]
  · refine ⟨⟨?_, ?_, ?_, ?_⟩, .inl ?_⟩ <;> simp [topA]
theorem topA_f0 (f : Bool) : (topA f).f0 = f := by cases f <;> rfl
theorem topA_max {a : Ad} (h : AF a) : av a ≤ av (topA a.f0) := by
  rcases h.num with ⟨e, _, h2⟩ | ⟨e, _, h2⟩
  · rw [e]; exact h2
  · rw [e]; show av a ≤ _; unfold topA av at *; simp at *; omega
theorem nextA_spec {a : Ad} (h : AF a) (hn : a ≠ topA a.f0) : AF (nextA a) ∧ (nextA a).f0 = a.f0 ∧ av (nextA a) = av a + 1 := by
  have hlt : av a < av (topA a.f0) := by
    have h1 := topA_max h
    have h2 : av a ≠ av (topA a.f0) := fun e => hn (av_inj h.1 (topA_AF _).1 e)
    omega
  obtain ⟨⟨h1, h2, h3, h4⟩, h5⟩ := h
  obtain ⟨a0, a1, a2⟩ := a
  simp only at h1 h2 h3 h4 h5
  by_cases c : a2 + 1 = 18446744073709551616
  · have e1 : IntKind.u64.wrap (a2 + 1) = 0 := by rw [c]; exact u64_top
    cases a0
    · simp at h5; omega
    · have h6 : a1 + 1 < 18446744073709551616 := by unfold topA av at hlt; simp at hlt; omega
      have e2 := u64_id (n := a1 + 1) (by omega) h6
      unfold nextA
      simp only [e1, e2, if_true]
      refine ⟨⟨⟨by simp; omega, by simp; omega, by simp, by simp⟩, .inl rfl⟩, by simp, ?_⟩
      unfold av; simp; omega
  · have e1 := u64_id (n := a2 + 1) (by omega) (by omega)
    unfold nextA
    have e3 : ¬ (a2 + 1 = 0) := by omega
    simp only [e1, e3, if_false]
    refine ⟨⟨⟨h1, h2, by simp; omega, by simp; omega⟩, ?_⟩, by simp, by unfold av; simp; omega⟩
    cases a0
    · simp at h5
      refine .inr ⟨h5.1, ?_⟩
      unfold topA av at hlt; simp at hlt ⊢; omega
    · exact .inl rfl
theorem after_eq (a : Ad) : intrusionref07_After.f a.f0 a.f1 a.f2 = some ((nextA a).f0, (nextA a).f1, (nextA a).f2) := rfl
theorem last_eq (a : Ad) (h : AF a) : intrusionref07_Last.f a.f0 a.f1 a.f2 = some (decide (a = topA a.f0)) := by
  obtain ⟨⟨h1, h2, h3, h4⟩, h5⟩ := h
  obtain ⟨a0, a1, a2⟩ := a
  simp only at h1 h2 h3 h4 h5
  unfold intrusionref07_Last.f topA
  cases a0
  · simp at h5 ⊢
    rw [Bool.eq_iff_iff]
    simp [h5.1]
  · have w : ∀ n : Int, 0 ≤ n → n < 18446744073709551616 → (IntKind.u64.wrap (n + 1) = 0 ↔ n = 18446744073709551615) := by
      intro n g0 g1
      constructor
      · intro e
        by_cases c : n + 1 = 18446744073709551616
        · omega
        · rw [u64_id (by omega) (by omega)] at e; omega
      · intro e; subst e; exact u64_top
    simp only [if_true, w a1 h1 h2]
    by_cases c : a1 = 18446744073709551615
    · simp only [c, if_true, Option.some.injEq]
      rw [Bool.eq_iff_iff, beq_iff_eq, w a2 h3 h4]
      simp
    · simp [c]
theorem next_eq (a : Ad) (h : AF a) : address_Next.f a.f0 a.f1 a.f2 = some (if a = topA a.f0 then (false, 0, 0, false) else ((nextA a).f0, (nextA a).f1, (nextA a).f2, true)) := by
  obtain ⟨a0, a1, a2⟩ := a
  have e : address_last.f a0 = some ((topA a0).f0, (topA a0).f1, (topA a0).f2) := by cases a0 <;> rfl
  unfold address_Next.f
  rw [e]
  simp only [Option.bind_some]
  have e2 : (a0 == (topA a0).f0 && (a1 == (topA a0).f1 && (a2 == (topA a0).f2))) = decide ((⟨a0, a1, a2⟩ : Ad) = topA a0) := by
    rw [Bool.eq_iff_iff]
    simp only [Bool.and_eq_true, beq_iff_eq, decide_eq_true_eq]
    constructor
    · rintro ⟨h1, h2, h3⟩
      cases a0 <;> simp [topA] at * <;> simp [h2, h3]
    · intro h
      rw [← h]
      exact ⟨rfl, rfl, rfl⟩
  rw [e2]
  by_cases c : (⟨a0, a1, a2⟩ : Ad) = topA a0
  · rw [if_pos (decide_eq_true c), if_pos c]
  · rw [if_neg (by simpa using c), if_neg c]
    unfold nextA
    by_cases d : IntKind.u64.wrap (a2 + 1) = 0
    · simp [d]
    · simp [d]
def prevA (a : Ad) : Ad := ⟨a.f0, if a.f2 = 0 then IntKind.u64.wrap (a.f1 - 1) else a.f1, IntKind.u64.wrap (a.f2 - 1)⟩
theorem prevA_spec {a : Ad} (h : AF a) (hn : ¬ (a.f1 = 0 ∧ a.f2 = 0)) : AF (prevA a) ∧ (prevA a).f0 = a.f0 ∧ av (prevA a) = av a - 1 := by
  obtain ⟨⟨h1, h2, h3, h4⟩, h5⟩ := h
  obtain ⟨a0, a1, a2⟩ := a
  simp only at h1 h2 h3 h4 h5 hn
  by_cases c : a2 = 0
  · subst c
    have e1 : IntKind.u64.wrap (0 - 1) = 18446744073709551615 := by decide
    cases a0
    · simp at h5; omega
    · have e2 := u64_id (n := a1 - 1) (by omega) (by omega)
      unfold prevA
      simp only [e1, e2, if_true]
      refine ⟨⟨⟨by simp; omega, by simp; omega, by simp, by simp⟩, .inl rfl⟩, by simp, ?_⟩
      unfold av; simp; omega
  · have e1 := u64_id (n := a2 - 1) (by omega) (by omega)
    unfold prevA
    rw [e1]
    simp only [c, if_false]
    refine ⟨⟨⟨h1, h2, by simp; omega, by simp; omega⟩, ?_⟩, by simp, by unfold av; simp; omega⟩
    rcases h5 with h5 | h5
    · exact .inl h5
    · exact .inr ⟨h5.1, by simp; omega⟩
theorem ahead_eq (a : Ad) : intrusionref07_Ahead.f a.f0 a.f1 a.f2 = some ((prevA a).f0, (prevA a).f1, (prevA a).f2) := rfl
theorem prev_eq (a : Ad) (hn : ¬ (a.f1 = 0 ∧ a.f2 = 0)) : address_Previous.f a.f0 a.f1 a.f2 = some ((prevA a).f0, (prevA a).f1, (prevA a).f2, true) := by
  unfold address_Previous.f prevA
  have e : (a.f1 == 0 && (a.f2 == 0)) = false := by
    rw [← Bool.not_eq_true]
    simpa using hn
  rw [e]
  by_cases c : a.f2 = 0 <;> simp [c]
def nearP (a b : Rg) : Prop := a.f0.f0 = b.f0.f0 ∧ av b.f0 ≤ av a.f1 + 1
instance (a b : Rg) : Decidable (nearP a b) := by unfold nearP; infer_instance
theorem nearP_iff {a b : Rg} (ha : RW a) (hb : RW b) (h : av a.f0 ≤ av b.f0) : nearP a b ↔ av b.f0 ≤ av a.f1 + 1 := by
  unfold nearP
  refine ⟨fun h => h.2, fun h2 => ⟨?_, h2⟩⟩
  rcases ha.num with ⟨_, _, n1 | n1⟩ <;> rcases hb.num with ⟨_, _, n2 | n2⟩
  · rw [n1.1, n2.1]
  · omega
  · omega
  · rw [n1.1, n2.1]
theorem near_eq (a b : Rg) (ha : RW a) (hb : RW b) : addrset_near.f a.f0.f0 a.f0.f1 a.f0.f2 a.f1.f0 a.f1.f1 a.f1.f2 b.f0.f0 b.f0.f1 b.f0.f2 b.f1.f0 b.f1.f1 b.f1.f2 = some (decide (nearP a b)) := by
  unfold addrset_near.f nearP
  rw [next_eq a.f1 ha.2.1]
  by_cases c : a.f1.f0 = b.f0.f0
  · have c2 : a.f0.f0 = b.f0.f0 := ha.2.2.1.trans c
    simp only [c, bne_self_eq_false, Bool.false_eq_true, if_false, Option.bind_some, c2, true_and]
    by_cases d : a.f1 = topA a.f1.f0
    · have h1 := topA_max hb.1
      rw [← c, ← d] at h1
      have h3 : av b.f0 ≤ av a.f1 + 1 := by omega
      rw [← c, if_pos d]
      simp [h3]
    · obtain ⟨n1, n2, n3⟩ := nextA_spec ha.2.1 d
      rw [← c, if_neg d]
      simp only [if_true]
      rw [n2]
      simp only [bne_self_eq_false, Bool.false_eq_true, if_false]
      have e : address_Compare.f a.f1.f0 b.f0.f1 b.f0.f2 a.f1.f0 (nextA a.f1).f1 (nextA a.f1).f2 = some (cmpA b.f0 (nextA a.f1)) := by
        have := cmp_f b.f0 (nextA a.f1)
        rw [n2, ← c] at this
        exact this
      rw [e]
      simp only [Option.bind_some, Option.some.injEq, decide_eq_decide]
      rw [cmp_le' hb.1.1 n1.1, n3]
  · have c2 : ¬ a.f0.f0 = b.f0.f0 := fun e => c (ha.2.2.1.symm.trans e)
    simp [c, c2]
theorem joined_eq (a b : Rg) (ha : RW a) (hb : RW b) : intrusionref07_joined.f a.f0.f0 a.f0.f1 a.f0.f2 a.f1.f0 a.f1.f1 a.f1.f2 b.f0.f0 b.f0.f1 b.f0.f2 b.f1.f0 b.f1.f1 b.f1.f2 = some (decide (nearP a b)) := by
  unfold intrusionref07_joined.f nearP
  rw [before_eq a.f1 b.f0 ha.2.1.1 hb.1.1, last_eq a.f1 ha.2.1, after_eq a.f1]
  by_cases c : a.f0.f0 = b.f0.f0
  · have c2 : a.f1.f0 = b.f0.f0 := ha.2.2.1.symm.trans c
    simp only [c, bne_self_eq_false, Bool.false_eq_true, if_false, Option.bind_some, true_and]
    by_cases e : av a.f1 < av b.f0
    · simp only [e, decide_true, if_true]
      by_cases d : a.f1 = topA a.f1.f0
      · exfalso
        have h1 := topA_max hb.1
        rw [← c2, ← d] at h1
        omega
      · obtain ⟨n1, n2, n3⟩ := nextA_spec ha.2.1 d
        simp only [d, decide_false, Bool.false_eq_true, if_false, Option.some.injEq]
        rw [Bool.eq_iff_iff]
        simp only [Bool.and_eq_true, beq_iff_eq, decide_eq_true_eq]
        have h2 := av_eq n1.1 hb.1.1
        constructor
        · rintro ⟨g1, g2, g3⟩
          have : nextA a.f1 = b.f0 := by
            cases h : nextA a.f1
            cases h' : b.f0
            rw [h, h'] at g1 g2 g3
            simp only at g1 g2 g3
            rw [g1, g2, g3]
          have := h2.1 this
          omega
        · intro g
          have := h2.2 (by omega)
          rw [this]
          exact ⟨rfl, rfl, rfl⟩
    · simp only [e, decide_false, Bool.false_eq_true, if_false, Option.some.injEq]
      rw [eq_comm, decide_eq_true_eq]
      omega
  · simp [c]
end Go.Proofs.Ytcgfpffgiimgmaa.Q
end

section
set_option linter.unusedVariables false
set_option linter.unusedSimpArgs false
namespace Go.Proofs.Ytcgfpffgiimgmaa.Q
open Go.RowKit Go.Proofs.YtcgfpffgiimgmaaW.PrintWords Go.Proofs.YtcgfpffgiimgmaaW.PrintLast Go.Proofs.YtcgfpffgiimgmaaW.PrintMore
def inSpan (n : Int) (x : S52) : Bool := decide (x.f0 ≤ n) && decide (n ≤ x.f1)
def interval_Contains.f (l0 : List S52) (a1 : Int) : Option Bool := some (decide (0 ≤ a1) && (decide (a1 ≤ 4294967296) && l0.any (inSpan a1)))
end Go.Proofs.Ytcgfpffgiimgmaa.Q
end

section
set_option linter.unusedVariables false
set_option linter.unusedSimpArgs false
namespace Go.Proofs.Ytcgfpffgiimgmaa.Q
open Go.RowKit Go.Proofs.YtcgfpffgiimgmaaW.PrintWords Go.Proofs.YtcgfpffgiimgmaaW.PrintLast Go.Proofs.YtcgfpffgiimgmaaW.PrintMore
theorem rd_getR (l : List S66) (k : Nat) (hk : k < l.length) : rd_T66 l (k : Int) = l[k] := by
  simp [rd_T66, List.getD_eq_getElem?_getD, List.getElem?_eq_getElem hk]
def inRange (a : S36) (x : S66) : Bool := someB x && ((x.f0.f0 == a.f0) && (decide (cmpA x.f0 a ≤ 0) && decide (cmpA a x.f1 ≤ 0)))
def addrset_Contains.f (l0 : List S66) (a1_0 : Bool) (a1_1 : Int) (a1_2 : Int) : Option Bool := some (fineB ⟨a1_0, a1_1, a1_2⟩ && l0.any (inRange ⟨a1_0, a1_1, a1_2⟩))
end Go.Proofs.Ytcgfpffgiimgmaa.Q
end
