/- The law AddrsetOperates answers true for every input and leaves its arguments as they were. No condition. (Part 5 of 6: the kit's printed words and walks, hand-made contracts and plain laws, joined in build order, without what the theorem does not reach.) -/
import Derived.Laws.EntriesVeiled
import Derived.Test.YtcgfpffgiimgmaaGAddrsetOperates4
section
namespace Go.Proofs.Ytcgfpffgiimgmaa.Q
open Go.RowKit Go.Proofs.YtcgfpffgiimgmaaW.PrintWords Go.Proofs.YtcgfpffgiimgmaaW.PrintLast Go.Proofs.YtcgfpffgiimgmaaW.PrintMore
attribute [local go_sem] max2_int min2_int max_two min_two max_three min_three max_four min_four
set_option linter.unusedVariables false
set_option linter.unusedSimpArgs false
mutual
def intrusionref07_Intersect.l0 : Nat → List (S66) → List (S66) → List (S66) → Int → Option ((List (S66)))
  | 0, _, _, _, _ => none
  | k + 1, x0, x1, x5, x6 => if x6 < (x0.length : Int) then (intrusionref07_Intersect.l1 k x0 x1 x5 x6 0) else (some x5)
def intrusionref07_Intersect.l1 : Nat → List (S66) → List (S66) → List (S66) → Int → Int → Option ((List (S66)))
  | 0, _, _, _, _, _ => none
  | k + 1, x0, x1, x5, x6, x7 => if x7 < (x1.length : Int) then (if 0 ≤ x6 then (if x6 < (x0.length : Int) then (if 0 ≤ x7 then ((intrusionref07_Some.f ((rd_T66 x0 x6).f0.f0) ((rd_T66 x0 x6).f0.f1) ((rd_T66 x0 x6).f0.f2) ((rd_T66 x0 x6).f1.f0) ((rd_T66 x0 x6).f1.f1) ((rd_T66 x0 x6).f1.f2)).bind fun t844 => (if t844 = true then ((intrusionref07_Some.f ((rd_T66 x1 x7).f0.f0) ((rd_T66 x1 x7).f0.f1) ((rd_T66 x1 x7).f0.f2) ((rd_T66 x1 x7).f1.f0) ((rd_T66 x1 x7).f1.f1) ((rd_T66 x1 x7).f1.f2)).bind fun t845 => (if t845 = true then (intrusionref07_Intersect.j2 k x0 x1 x5 x6 x7 (((rd_T66 x0 x6).f0.f0) != ((rd_T66 x1 x7).f0.f0)) ((rd_T66 x0 x6).f0.f0) ((rd_T66 x0 x6).f0.f1) ((rd_T66 x0 x6).f0.f2) ((rd_T66 x0 x6).f1.f0) ((rd_T66 x0 x6).f1.f1) ((rd_T66 x0 x6).f1.f2) ((rd_T66 x1 x7).f0.f0) ((rd_T66 x1 x7).f0.f1) ((rd_T66 x1 x7).f0.f2) ((rd_T66 x1 x7).f1.f0) ((rd_T66 x1 x7).f1.f1) ((rd_T66 x1 x7).f1.f2)) else (intrusionref07_Intersect.j2 k x0 x1 x5 x6 x7 true ((rd_T66 x0 x6).f0.f0) ((rd_T66 x0 x6).f0.f1) ((rd_T66 x0 x6).f0.f2) ((rd_T66 x0 x6).f1.f0) ((rd_T66 x0 x6).f1.f1) ((rd_T66 x0 x6).f1.f2) ((rd_T66 x1 x7).f0.f0) ((rd_T66 x1 x7).f0.f1) ((rd_T66 x1 x7).f0.f2) ((rd_T66 x1 x7).f1.f0) ((rd_T66 x1 x7).f1.f1) ((rd_T66 x1 x7).f1.f2)))) else (intrusionref07_Intersect.j2 k x0 x1 x5 x6 x7 true ((rd_T66 x0 x6).f0.f0) ((rd_T66 x0 x6).f0.f1) ((rd_T66 x0 x6).f0.f2) ((rd_T66 x0 x6).f1.f0) ((rd_T66 x0 x6).f1.f1) ((rd_T66 x0 x6).f1.f2) ((rd_T66 x1 x7).f0.f0) ((rd_T66 x1 x7).f0.f1) ((rd_T66 x1 x7).f0.f2) ((rd_T66 x1 x7).f1.f0) ((rd_T66 x1 x7).f1.f1) ((rd_T66 x1 x7).f1.f2)))) else (none)) else (none)) else (none)) else (intrusionref07_Intersect.l0 k x0 x1 x5 (wrap64 (x6 + 1)))
def intrusionref07_Intersect.j2 : Nat → List (S66) → List (S66) → List (S66) → Int → Int → Bool → Bool → Int → Int → Bool → Int → Int → Bool → Int → Int → Bool → Int → Int → Option ((List (S66)))
  | 0, _, _, _, _, _, _, _, _, _, _, _, _, _, _, _, _, _, _ => none
  | k + 1, x0, x1, x5, x6, x7, x46, x843000, x843001, x843002, x843003, x843004, x843005, x844000, x844001, x844002, x844003, x844004, x844005 => if x46 = true then (intrusionref07_Intersect.l1 k x0 x1 x5 x6 (wrap64 (x7 + 1))) else ((intrusionref07_Before.f x843000 x843001 x843002 x844000 x844001 x844002).bind fun t846 => (if t846 = true then (intrusionref07_Intersect.j3 k x0 x1 x5 x6 x7 x844000 x844001 x844002 x843003 x843004 x843005 x844000 x844001 x844002 x844003 x844004 x844005) else (intrusionref07_Intersect.j3 k x0 x1 x5 x6 x7 x843000 x843001 x843002 x843003 x843004 x843005 x844000 x844001 x844002 x844003 x844004 x844005)))
def intrusionref07_Intersect.j3 : Nat → List (S66) → List (S66) → List (S66) → Int → Int → Bool → Int → Int → Bool → Int → Int → Bool → Int → Int → Bool → Int → Int → Option ((List (S66)))
  | 0, _, _, _, _, _, _, _, _, _, _, _, _, _, _, _, _, _ => none
  | k + 1, x0, x1, x5, x6, x7, x843000, x843001, x843002, x843003, x843004, x843005, x844000, x844001, x844002, x844003, x844004, x844005 => (intrusionref07_Before.f x844003 x844004 x844005 x843003 x843004 x843005).bind fun t847 => (if t847 = true then (intrusionref07_Intersect.j4 k x0 x1 x5 x6 x7 x843000 x843001 x843002 x844003 x844004 x844005) else (intrusionref07_Intersect.j4 k x0 x1 x5 x6 x7 x843000 x843001 x843002 x843003 x843004 x843005))
def intrusionref07_Intersect.j4 : Nat → List (S66) → List (S66) → List (S66) → Int → Int → Bool → Int → Int → Bool → Int → Int → Option ((List (S66)))
  | 0, _, _, _, _, _, _, _, _, _, _, _ => none
  | k + 1, x0, x1, x5, x6, x7, x843000, x843001, x843002, x843003, x843004, x843005 => (intrusionref07_Some.f x843000 x843001 x843002 x843003 x843004 x843005).bind fun t848 => (if t848 = true then ((intrusionref07_add.f k x5 x843000 x843001 x843002 x843003 x843004 x843005).bind fun t849 => (intrusionref07_Intersect.l1 k x0 x1 t849 x6 (wrap64 (x7 + 1)))) else (intrusionref07_Intersect.l1 k x0 x1 x5 x6 (wrap64 (x7 + 1))))
end
def intrusionref07_Intersect.f (k : Nat) (l0 : List (S66)) (l1 : List (S66)) : Option ((List (S66))) := intrusionref07_Intersect.l0 k l0 l1 ([] : List (S66)) 0
theorem intrusionref07_Intersect.mono_l : ∀ k, (∀ y0 y1 y2 y3, LeO (intrusionref07_Intersect.l0 k y0 y1 y2 y3) (intrusionref07_Intersect.l0 (k + 1) y0 y1 y2 y3)) ∧ (∀ y0 y1 y2 y3 y4, LeO (intrusionref07_Intersect.l1 k y0 y1 y2 y3 y4) (intrusionref07_Intersect.l1 (k + 1) y0 y1 y2 y3 y4)) ∧ (∀ y0 y1 y2 y3 y4 y5 y6 y7 y8 y9 y10 y11 y12 y13 y14 y15 y16 y17, LeO (intrusionref07_Intersect.j2 k y0 y1 y2 y3 y4 y5 y6 y7 y8 y9 y10 y11 y12 y13 y14 y15 y16 y17) (intrusionref07_Intersect.j2 (k + 1) y0 y1 y2 y3 y4 y5 y6 y7 y8 y9 y10 y11 y12 y13 y14 y15 y16 y17)) ∧ (∀ y0 y1 y2 y3 y4 y5 y6 y7 y8 y9 y10 y11 y12 y13 y14 y15 y16, LeO (intrusionref07_Intersect.j3 k y0 y1 y2 y3 y4 y5 y6 y7 y8 y9 y10 y11 y12 y13 y14 y15 y16) (intrusionref07_Intersect.j3 (k + 1) y0 y1 y2 y3 y4 y5 y6 y7 y8 y9 y10 y11 y12 y13 y14 y15 y16)) ∧ (∀ y0 y1 y2 y3 y4 y5 y6 y7 y8 y9 y10, LeO (intrusionref07_Intersect.j4 k y0 y1 y2 y3 y4 y5 y6 y7 y8 y9 y10) (intrusionref07_Intersect.j4 (k + 1) y0 y1 y2 y3 y4 y5 y6 y7 y8 y9 y10))
  | 0 => ⟨fun _ _ _ _ r h => by simp [intrusionref07_Intersect.l0] at h, fun _ _ _ _ _ r h => by simp [intrusionref07_Intersect.l1] at h, fun _ _ _ _ _ _ _ _ _ _ _ _ _ _ _ _ _ _ r h => by simp [intrusionref07_Intersect.j2] at h, fun _ _ _ _ _ _ _ _ _ _ _ _ _ _ _ _ _ r h => by simp [intrusionref07_Intersect.j3] at h, fun _ _ _ _ _ _ _ _ _ _ _ r h => by simp [intrusionref07_Intersect.j4] at h⟩
  | k + 1 => by
    obtain ⟨ih0, ih1, ih2, ih3, ih4⟩ := intrusionref07_Intersect.mono_l k
    refine ⟨?_, ?_, ?_, ?_, ?_⟩
    · intro y0 y1 y2 y3
      unfold intrusionref07_Intersect.l0
      repeat' first
      | (with_reducible exact ih0 _ _ _ _)
      | (with_reducible exact ih1 _ _ _ _ _)
      | (with_reducible exact ih2 _ _ _ _ _ _ _ _ _ _ _ _ _ _ _ _ _ _)
      | (with_reducible exact ih3 _ _ _ _ _ _ _ _ _ _ _ _ _ _ _ _ _)
      | (with_reducible exact ih4 _ _ _ _ _ _ _ _ _ _ _)
      | (with_reducible exact intrusionref07_add.mono _ _ _ _ _ _ _ _)
      | (with_reducible exact LeO.refl _)
      | (with_reducible exact LeO.none _)
      | (with_reducible refine LeO.ite ?_ ?_)
      | (with_reducible refine LeO.bind ?_ (fun _ => ?_))
      | exact ih0 _ _ _ _
      | exact ih1 _ _ _ _ _
      | exact ih2 _ _ _ _ _ _ _ _ _ _ _ _ _ _ _ _ _ _
      | exact ih3 _ _ _ _ _ _ _ _ _ _ _ _ _ _ _ _ _
      | exact ih4 _ _ _ _ _ _ _ _ _ _ _
      | exact intrusionref07_add.mono _ _ _ _ _ _ _ _
      | exact LeO.none _
      | refine LeO.ite ?_ ?_
      | refine LeO.bind ?_ (fun _ => ?_)
    · intro y0 y1 y2 y3 y4
      unfold intrusionref07_Intersect.l1
      repeat' first
      | (with_reducible exact ih0 _ _ _ _)
      | (with_reducible exact ih1 _ _ _ _ _)
      | (with_reducible exact ih2 _ _ _ _ _ _ _ _ _ _ _ _ _ _ _ _ _ _)
      | (with_reducible exact ih3 _ _ _ _ _ _ _ _ _ _ _ _ _ _ _ _ _)
      | (with_reducible exact ih4 _ _ _ _ _ _ _ _ _ _ _)
      | (with_reducible exact intrusionref07_add.mono _ _ _ _ _ _ _ _)
      | (with_reducible exact LeO.refl _)
      | (with_reducible exact LeO.none _)
      | (with_reducible refine LeO.ite ?_ ?_)
      | (with_reducible refine LeO.bind ?_ (fun _ => ?_))
      | exact ih0 _ _ _ _
      | exact ih1 _ _ _ _ _
      | exact ih2 _ _ _ _ _ _ _ _ _ _ _ _ _ _ _ _ _ _
      | exact ih3 _ _ _ _ _ _ _ _ _ _ _ _ _ _ _ _ _
      | exact ih4 _ _ _ _ _ _ _ _ _ _ _
      | exact intrusionref07_add.mono _ _ _ _ _ _ _ _
      | exact LeO.none _
      | refine LeO.ite ?_ ?_
      | refine LeO.bind ?_ (fun _ => ?_)
    · intro y0 y1 y2 y3 y4 y5 y6 y7 y8 y9 y10 y11 y12 y13 y14 y15 y16 y17
      unfold intrusionref07_Intersect.j2
      repeat' first
      | (with_reducible exact ih0 _ _ _ _)
      | (with_reducible exact ih1 _ _ _ _ _)
      | (with_reducible exact ih2 _ _ _ _ _ _ _ _ _ _ _ _ _ _ _ _ _ _)
      | (with_reducible exact ih3 _ _ _ _ _ _ _ _ _ _ _ _ _ _ _ _ _)
      | (with_reducible exact ih4 _ _ _ _ _ _ _ _ _ _ _)
      | (with_reducible exact intrusionref07_add.mono _ _ _ _ _ _ _ _)
      | (with_reducible exact LeO.refl _)
      | (with_reducible exact LeO.none _)
      | (with_reducible refine LeO.ite ?_ ?_)
      | (with_reducible refine LeO.bind ?_ (fun _ => ?_))
      | exact ih0 _ _ _ _
      | exact ih1 _ _ _ _ _
      | exact ih2 _ _ _ _ _ _ _ _ _ _ _ _ _ _ _ _ _ _
      | exact ih3 _ _ _ _ _ _ _ _ _ _ _ _ _ _ _ _ _
      | exact ih4 _ _ _ _ _ _ _ _ _ _ _
      | exact intrusionref07_add.mono _ _ _ _ _ _ _ _
      | exact LeO.none _
      | refine LeO.ite ?_ ?_
      | refine LeO.bind ?_ (fun _ => ?_)
    · intro y0 y1 y2 y3 y4 y5 y6 y7 y8 y9 y10 y11 y12 y13 y14 y15 y16
      unfold intrusionref07_Intersect.j3
      repeat' first
      | (with_reducible exact ih0 _ _ _ _)
      | (with_reducible exact ih1 _ _ _ _ _)
      | (with_reducible exact ih2 _ _ _ _ _ _ _ _ _ _ _ _ _ _ _ _ _ _)
      | (with_reducible exact ih3 _ _ _ _ _ _ _ _ _ _ _ _ _ _ _ _ _)
      | (with_reducible exact ih4 _ _ _ _ _ _ _ _ _ _ _)
      | (with_reducible exact intrusionref07_add.mono _ _ _ _ _ _ _ _)
      | (with_reducible exact LeO.refl _)
      | (with_reducible exact LeO.none _)
      | (with_reducible refine LeO.ite ?_ ?_)
      | (with_reducible refine LeO.bind ?_ (fun _ => ?_))
      | exact ih0 _ _ _ _
      | exact ih1 _ _ _ _ _
      | exact ih2 _ _ _ _ _ _ _ _ _ _ _ _ _ _ _ _ _ _
      | exact ih3 _ _ _ _ _ _ _ _ _ _ _ _ _ _ _ _ _
      | exact ih4 _ _ _ _ _ _ _ _ _ _ _
      | exact intrusionref07_add.mono _ _ _ _ _ _ _ _
      | exact LeO.none _
      | refine LeO.ite ?_ ?_
      | refine LeO.bind ?_ (fun _ => ?_)
    · intro y0 y1 y2 y3 y4 y5 y6 y7 y8 y9 y10
      unfold intrusionref07_Intersect.j4
      repeat' first
      | (with_reducible exact ih0 _ _ _ _)
      | (with_reducible exact ih1 _ _ _ _ _)
      | (with_reducible exact ih2 _ _ _ _ _ _ _ _ _ _ _ _ _ _ _ _ _ _)
      | (with_reducible exact ih3 _ _ _ _ _ _ _ _ _ _ _ _ _ _ _ _ _)
      | (with_reducible exact ih4 _ _ _ _ _ _ _ _ _ _ _)
      | (with_reducible exact intrusionref07_add.mono _ _ _ _ _ _ _ _)
      | (with_reducible exact LeO.refl _)
      | (with_reducible exact LeO.none _)
      | (with_reducible refine LeO.ite ?_ ?_)
      | (with_reducible refine LeO.bind ?_ (fun _ => ?_))
      | exact ih0 _ _ _ _
      | exact ih1 _ _ _ _ _
      | exact ih2 _ _ _ _ _ _ _ _ _ _ _ _ _ _ _ _ _ _
      | exact ih3 _ _ _ _ _ _ _ _ _ _ _ _ _ _ _ _ _
      | exact ih4 _ _ _ _ _ _ _ _ _ _ _
      | exact intrusionref07_add.mono _ _ _ _ _ _ _ _
      | exact LeO.none _
      | refine LeO.ite ?_ ?_
      | refine LeO.bind ?_ (fun _ => ?_)
theorem intrusionref07_Intersect.mono : ∀ a0 a1 k, LeO (intrusionref07_Intersect.f k a0 a1) (intrusionref07_Intersect.f (k + 1) a0 a1) := by
  intro a0 a1 k
  obtain ⟨ih0, ih1, ih2, ih3, ih4⟩ := intrusionref07_Intersect.mono_l k
  unfold intrusionref07_Intersect.f
  repeat' first
      | (with_reducible exact ih0 _ _ _ _)
      | (with_reducible exact ih1 _ _ _ _ _)
      | (with_reducible exact ih2 _ _ _ _ _ _ _ _ _ _ _ _ _ _ _ _ _ _)
      | (with_reducible exact ih3 _ _ _ _ _ _ _ _ _ _ _ _ _ _ _ _ _)
      | (with_reducible exact ih4 _ _ _ _ _ _ _ _ _ _ _)
      | (with_reducible exact intrusionref07_add.mono _ _ _ _ _ _ _ _)
      | (with_reducible exact LeO.refl _)
      | (with_reducible exact LeO.none _)
      | (with_reducible refine LeO.ite ?_ ?_)
      | (with_reducible refine LeO.bind ?_ (fun _ => ?_))
      | exact ih0 _ _ _ _
      | exact ih1 _ _ _ _ _
      | exact ih2 _ _ _ _ _ _ _ _ _ _ _ _ _ _ _ _ _ _
      | exact ih3 _ _ _ _ _ _ _ _ _ _ _ _ _ _ _ _ _
      | exact ih4 _ _ _ _ _ _ _ _ _ _ _
      | exact intrusionref07_add.mono _ _ _ _ _ _ _ _
      | exact LeO.none _
      | refine LeO.ite ?_ ?_
      | refine LeO.bind ?_ (fun _ => ?_)
def intrusionref07_Intersect.T8 : Bool × List (List Nat × List Nat) := (true, [([], []), ([], []), ([0, 1], [0, 1]), ([2], [2]), ([], []), ([], []), ([4, 5], [4, 5]), ([6], [6]), ([], []), ([], []), ([8, 3, 0, 1, 2, 3, 8, 9], [3, 8]), ([9, 7, 10, 0, 1, 2, 3, 4, 5, 6, 7, 8, 9, 10], [7, 9])])
def intrusionref07_Intersect.B8 : List Nat := [0, 0, 3, 7, 0, 0, 48, 112, 0, 0, 783, 2047]
theorem intrusionref07_Intersect.tab8 : rtab .any (opsOf Try.f55 8) = intrusionref07_Intersect.T8 := by kernel_rfl
theorem intrusionref07_Intersect.bits8 : waitsOk intrusionref07_Intersect.T8.2 intrusionref07_Intersect.B8 = true := by kernel_rfl
set_option maxHeartbeats 8000000 in
set_option maxRecDepth 100000 in
theorem intrusionref07_Intersect.calls (k : Nat) (A0 : Option Addr) (c0 : Nat) (l0 : List (S66)) (A1 : Option Addr) (c1 : Nat) (l1 : List (S66)) (r : List (S66)) (w : World) (hr0 : Kd.C k66 w A0 l0.length l0) (hc0 : l0.length ≤ c0) (hr1 : Kd.C k66 w A1 l1.length l1) (hc1 : l1.length ≤ c1) (h : intrusionref07_Intersect.f k l0 l1 = some r) :
 Calls Try.prog 55 #[.slice A0 l0.length c0, .slice A1 l1.length c1] w fun e w' => ∃ v0_ : Value, e = .returned (v0_) ∧ Kd.R k66 66 w' w.heap.size (fun _ => True) v0_ r ∧ Below w.heap.size w w' := by
 have hu66 := Try.underlying66
 have hu36 := Try.underlying36
 have HR0 := Aside0.mk hr0
 have HC0 := Aside0.mk hc0
 clear hr0 hc0
 have HR1 := Aside0.mk hr1
 have HC1 := Aside0.mk hc1
 clear hr1 hc1
 have HB := Aside0.mk (Below.refl w.heap.size w)
 unfold intrusionref07_Intersect.f at h; have H := h
 clear h
 have H' := Aside0.mk H
 clear H
 go_enter Try.func55, Try.ntmps55
 go_wp2
 go_loopg [5, 6] k (fun kq v5 v6 w' => ∃ (x5_1 : List (S66)) (x6_1 : Int), v6 = .int .i64 x6_1 ∧ Aside0 (intrusionref07_Intersect.l0 kq l0 l1 x5_1 x6_1 = some r) ∧ Aside0 (kq ≤ k) ∧ Aside0 (Kd.R k66 66 w' w.heap.size (fun _ => True) v5 x5_1) ∧ Aside0 (Below w.heap.size w w'))
 case atStart => exact ⟨(([] : List (S66))), (0), (by first | rfl | (simp; done) | (simp [*]; done)), H', ⟨Nat.le_refl _⟩, ⟨by first | exact Kd.R_nil _ _ _ _ _ | exact Kd.N_nil _ _ _ _ _ | exact Kd.V_nil _ _ _ _ _ | exact Kd.Q_nil _ _ _ _ _ | exact Kd.S_nil _ _ _ _ _⟩, ⟨zB HB⟩⟩
 case round =>
  clear H'
  try clear c1
  try clear p2
  obtain ⟨x5_1, x6_1, rfl, HA, HK1, HO_5, HB⟩ := hrel
  cases gk with
  | zero => exact absurd HA.out (by simp [intrusionref07_Intersect.l0])
  | succ k1 =>
   have H := HA.out
   clear HA
   simp only [intrusionref07_Intersect.l0] at H
   by_cases c3 : x6_1 < (l0.length : Int)
   · rw [if_pos c3] at H
     have c3b0 : decide (x6_1 < (l0.length : Int)) = true := decide_eq_true c3
     clear c3
     have H' := Aside0.mk H
     clear H
     go_wp2
     go_loopg [5, 7] k1 (fun kq v5 v7 w' => ∃ (x5_2 : List (S66)) (x7_2 : Int), v7 = .int .i64 x7_2 ∧ Aside0 (intrusionref07_Intersect.l1 kq l0 l1 x5_2 x6_1 x7_2 = some r) ∧ Aside0 (kq ≤ k1) ∧ Aside0 (Kd.R k66 66 w' w.heap.size (fun _ => True) v5 x5_2) ∧ Aside0 (Below w.heap.size w w'))
     case atStart => exact ⟨(x5_1), (0), (by first | rfl | (simp; done) | (simp [*]; done)), H', ⟨Nat.le_refl _⟩, ⟨zR HO_5⟩, ⟨zB HB⟩⟩
     case round =>
      clear H'
      try clear c1
      try clear p2
      try clear c3
      try clear c3b0
      try clear p2
      obtain ⟨x5_2, x7_2, rfl, HA, HK2, HO_5, HB⟩ := hrel
      cases gk with
      | zero => exact absurd HA.out (by simp [intrusionref07_Intersect.l1])
      | succ k2 =>
       have H := HA.out
       clear HA
       simp only [intrusionref07_Intersect.l1] at H
       by_cases c4 : x7_2 < (l1.length : Int)
       · rw [if_pos c4] at H
         have c4b0 : decide (x7_2 < (l1.length : Int)) = true := decide_eq_true c4
         clear c4
         by_cases c5 : 0 ≤ x6_1
         · rw [if_pos c5] at H
           have c5b0 : decide (0 ≤ x6_1) = true := decide_eq_true c5
           clear c5
           by_cases c6 : x6_1 < (l0.length : Int)
           · rw [if_pos c6] at H
             have c6b0 : decide (x6_1 < (l0.length : Int)) = true := decide_eq_true c6
             clear c6
             by_cases c7 : 0 ≤ x7_2
             · rw [if_pos c7] at H
               have c7b0 : decide (0 ≤ x7_2) = true := decide_eq_true c7
               clear c7
               have HC8 := Aside0.mk H
               clear H
               try go_wp2
               replace HO_5 := Aside0.mk (Kd.R_drew HO_5.out)
               replace HB := Aside0.mk (below_drew1 HB.out)
               have p840 : 0 ≤ (x6_1 : Int) := za
               have q840 : x6_1 < (l0.length : Int) := za
               obtain ⟨ad840, e840, hx840_0, hx840_1, hx840_2, hx840_3, hx840_4, hx840_5⟩ := at_T66 HR0.out x6_1 p840 q840
               have hw840_5 := hx840_5
               have hw840_4 := hx840_4
               have hw840_3 := hx840_3
               have hw840_2 := hx840_2
               have hw840_1 := hx840_1
               have hw840_0 := hx840_0
               cases e840
               replace hx840_0 := zh HB hx840_0
               replace hx840_1 := zh HB hx840_1
               replace hx840_2 := zh HB hx840_2
               replace hx840_3 := zh HB hx840_3
               replace hx840_4 := zh HB hx840_4
               replace hx840_5 := zh HB hx840_5
               replace p840 := eq_true p840
               replace q840 := eq_true q840
               have p841 : 0 ≤ (x7_2 : Int) := za
               have q841 : x7_2 < (l1.length : Int) := za
               obtain ⟨ad841, e841, hx841_0, hx841_1, hx841_2, hx841_3, hx841_4, hx841_5⟩ := at_T66 HR1.out x7_2 p841 q841
               have hw841_5 := hx841_5
               have hw841_4 := hx841_4
               have hw841_3 := hx841_3
               have hw841_2 := hx841_2
               have hw841_1 := hx841_1
               have hw841_0 := hx841_0
               cases e841
               replace hx841_0 := zh HB hx841_0
               replace hx841_1 := zh HB hx841_1
               replace hx841_2 := zh HB hx841_2
               replace hx841_3 := zh HB hx841_3
               replace hx841_4 := zh HB hx841_4
               replace hx841_5 := zh HB hx841_5
               replace p841 := eq_true p841
               replace q841 := eq_true q841
               refine start_ (n := 12) (S := fun w' => w'.cell? (ad840.add ((x6_1).toNat * 6)) = some (.bool ((rd_T66 l0 x6_1).f0.f0)) ∧ w'.cell? ⟨(ad840.add ((x6_1).toNat * 6)).block, (ad840.add ((x6_1).toNat * 6)).off + 1, none⟩ = some (.int .u64 ((rd_T66 l0 x6_1).f0.f1)) ∧ w'.cell? ⟨(ad840.add ((x6_1).toNat * 6)).block, (ad840.add ((x6_1).toNat * 6)).off + 2, none⟩ = some (.int .u64 ((rd_T66 l0 x6_1).f0.f2)) ∧ w'.cell? ⟨(ad840.add ((x6_1).toNat * 6)).block, (ad840.add ((x6_1).toNat * 6)).off + 3, none⟩ = some (.bool ((rd_T66 l0 x6_1).f1.f0)) ∧ w'.cell? ⟨(ad840.add ((x6_1).toNat * 6)).block, (ad840.add ((x6_1).toNat * 6)).off + 4, none⟩ = some (.int .u64 ((rd_T66 l0 x6_1).f1.f1)) ∧ w'.cell? ⟨(ad840.add ((x6_1).toNat * 6)).block, (ad840.add ((x6_1).toNat * 6)).off + 5, none⟩ = some (.int .u64 ((rd_T66 l0 x6_1).f1.f2)) ∧ w'.cell? (ad841.add ((x7_2).toNat * 6)) = some (.bool ((rd_T66 l1 x7_2).f0.f0)) ∧ w'.cell? ⟨(ad841.add ((x7_2).toNat * 6)).block, (ad841.add ((x7_2).toNat * 6)).off + 1, none⟩ = some (.int .u64 ((rd_T66 l1 x7_2).f0.f1)) ∧ w'.cell? ⟨(ad841.add ((x7_2).toNat * 6)).block, (ad841.add ((x7_2).toNat * 6)).off + 2, none⟩ = some (.int .u64 ((rd_T66 l1 x7_2).f0.f2)) ∧ w'.cell? ⟨(ad841.add ((x7_2).toNat * 6)).block, (ad841.add ((x7_2).toNat * 6)).off + 3, none⟩ = some (.bool ((rd_T66 l1 x7_2).f1.f0)) ∧ w'.cell? ⟨(ad841.add ((x7_2).toNat * 6)).block, (ad841.add ((x7_2).toNat * 6)).off + 4, none⟩ = some (.int .u64 ((rd_T66 l1 x7_2).f1.f1)) ∧ w'.cell? ⟨(ad841.add ((x7_2).toNat * 6)).block, (ad841.add ((x7_2).toNat * 6)).off + 5, none⟩ = some (.int .u64 ((rd_T66 l1 x7_2).f1.f2))) (ds := []) #[false, false, false, false, false, false, false, false, false, false, false, false] (by kernel_rfl) rfl rfl ⟨(zh HB hw840_0), (zh HB hw840_1), (zh HB hw840_2), (zh HB hw840_3), (zh HB hw840_4), (zh HB hw840_5), (zh HB hw841_0), (zh HB hw841_1), (zh HB hw841_2), (zh HB hw841_3), (zh HB hw841_4), (zh HB hw841_5)⟩ (fun hHeld => ?_); refine with_tabW intrusionref07_Intersect.tab8 intrusionref07_Intersect.bits8 (fun HT_ HW_ => ?_)
               generalize wr.drew = w9 at HO_5 HB hx840_0 hx840_1 hx840_2 hx840_3 hx840_4 hx840_5 hx841_0 hx841_1 hx841_2 hx841_3 hx841_4 hx841_5 hHeld ⊢
               refine zp 0 22 HT_ ?_; refine zp 1 23 HT_ ?_; refine zp 2 24 HT_ ?_; refine zp 4 26 HT_ ?_; refine zp 5 27 HT_ ?_; refine zp 6 28 HT_ ?_; refine zt 3 25 HT_ HW_ hHeld ?_; refine zt 7 29 HT_ HW_ hHeld ?_
               refine join_ (σ := Nat × Nat) 2 #[true, true, true, true, true, true, true, true, true, true, false, false] (fun s_ => [(8, .pointer (some ⟨s_.1, 0, none⟩)), (9, .pointer (some ⟨s_.2, 0, none⟩))]) (fun s_ w' => (w'.cell? (ad840.add ((x6_1).toNat * 6)) = some (.bool ((rd_T66 l0 x6_1).f0.f0)) ∧ w'.cell? ⟨(ad840.add ((x6_1).toNat * 6)).block, (ad840.add ((x6_1).toNat * 6)).off + 1, none⟩ = some (.int .u64 ((rd_T66 l0 x6_1).f0.f1)) ∧ w'.cell? ⟨(ad840.add ((x6_1).toNat * 6)).block, (ad840.add ((x6_1).toNat * 6)).off + 2, none⟩ = some (.int .u64 ((rd_T66 l0 x6_1).f0.f2)) ∧ w'.cell? ⟨(ad840.add ((x6_1).toNat * 6)).block, (ad840.add ((x6_1).toNat * 6)).off + 3, none⟩ = some (.bool ((rd_T66 l0 x6_1).f1.f0)) ∧ w'.cell? ⟨(ad840.add ((x6_1).toNat * 6)).block, (ad840.add ((x6_1).toNat * 6)).off + 4, none⟩ = some (.int .u64 ((rd_T66 l0 x6_1).f1.f1)) ∧ w'.cell? ⟨(ad840.add ((x6_1).toNat * 6)).block, (ad840.add ((x6_1).toNat * 6)).off + 5, none⟩ = some (.int .u64 ((rd_T66 l0 x6_1).f1.f2)) ∧ w'.cell? (ad841.add ((x7_2).toNat * 6)) = some (.bool ((rd_T66 l1 x7_2).f0.f0)) ∧ w'.cell? ⟨(ad841.add ((x7_2).toNat * 6)).block, (ad841.add ((x7_2).toNat * 6)).off + 1, none⟩ = some (.int .u64 ((rd_T66 l1 x7_2).f0.f1)) ∧ w'.cell? ⟨(ad841.add ((x7_2).toNat * 6)).block, (ad841.add ((x7_2).toNat * 6)).off + 2, none⟩ = some (.int .u64 ((rd_T66 l1 x7_2).f0.f2)) ∧ w'.cell? ⟨(ad841.add ((x7_2).toNat * 6)).block, (ad841.add ((x7_2).toNat * 6)).off + 3, none⟩ = some (.bool ((rd_T66 l1 x7_2).f1.f0)) ∧ w'.cell? ⟨(ad841.add ((x7_2).toNat * 6)).block, (ad841.add ((x7_2).toNat * 6)).off + 4, none⟩ = some (.int .u64 ((rd_T66 l1 x7_2).f1.f1)) ∧ w'.cell? ⟨(ad841.add ((x7_2).toNat * 6)).block, (ad841.add ((x7_2).toNat * 6)).off + 5, none⟩ = some (.int .u64 ((rd_T66 l1 x7_2).f1.f2))) ∧ (Kd.R k66 66 w' w.heap.size (fun k_ => k_ ≠ s_.1 ∧ k_ ≠ s_.2) u5 x5_2) ∧ (w'.heap[s_.1]? = some (.cells #[.bool false, .int .u64 0, .int .u64 0, .bool false, .int .u64 0, .int .u64 0] 66 (0, 0))) ∧ (w'.heap[s_.2]? = some (.cells #[.bool false, .int .u64 0, .int .u64 0, .bool false, .int .u64 0, .int .u64 0] 66 (0, 0))) ∧ (w.heap.size ≤ s_.1) ∧ (w.heap.size ≤ s_.1) ∧ (s_.2 ≠ s_.1) ∧ (s_.1 ≠ s_.2) ∧ (w.heap.size ≤ s_.2) ∧ (w.heap.size ≤ s_.2) ∧ (Below w.heap.size w w')) ?_ ?_
               rotate_left
               · intro hCont
                 refine two_ (i := 8) (j := 9) (Ni := some 8) (Nj := some 9) #[true, true, true, true, true, true, true, true, true, false, false, false] #[true, true, true, true, true, true, true, true, false, true, false, false] rfl rfl rfl rfl (two_of HT_.out (by kernel_rfl)) (by decide) (by decide) (fun K hK => ?_) (fun K hK => ?_)
                 · skip
                   refine box_step ?hg (N := 8) ?hd (cs := #[.bool false, .int .u64 0, .int .u64 0, .bool false, .int .u64 0, .int .u64 0]) (t := 66) ?hr ?_; (case hd => rfl); (case hg => rfl); (case hr => first | (go_simp; done) | (go_simp; rfl))
                   intro gb842 hg w10 hbox hb
                   replace HO_5 := Aside0.mk (Kd.R_below (Kd.R_elderB (zR HO_5) gb842 (Nat.le_of_eq hg.symm)) hb)
                   have BK842 := Aside0.mk (hbox)
                   have GW842 := Aside0.mk ((by rw [hg]; exact (below_size (zB HB)) : w.heap.size ≤ gb842))
                   have GE842 := Aside0.mk ((by rw [hg]; exact (below_size (zB HB)) : w.heap.size ≤ gb842))
                   replace HB := Aside0.mk (below_step (zB HB) hb)
                   clear hb hbox hg
                   refine hK.out _ _ ⟨(zh HB hw840_0), (zh HB hw840_1), (zh HB hw840_2), (zh HB hw840_3), (zh HB hw840_4), (zh HB hw840_5), (zh HB hw841_0), (zh HB hw841_1), (zh HB hw841_2), (zh HB hw841_3), (zh HB hw841_4), (zh HB hw841_5)⟩ (fun hHeld => ?_)
                   clear hK K
                   refine zn 8 ?_; refine zo 9 9 HT_ (fun K hK => ?_)
                   refine box_step ?hg (N := 9) ?hd (cs := #[.bool false, .int .u64 0, .int .u64 0, .bool false, .int .u64 0, .int .u64 0]) (t := 66) ?hr ?_; (case hd => rfl); (case hg => rfl); (case hr => first | (go_simp; done) | (go_simp; rfl))
                   intro gb843 hg w11 hbox hb
                   replace HO_5 := Aside0.mk (Kd.R_below (Kd.R_elderB (zR HO_5) gb843 (Nat.le_of_eq hg.symm)) hb)
                   have BK843 := Aside0.mk (hbox)
                   have GW843 := Aside0.mk ((by rw [hg]; exact (below_size (zB HB)) : w.heap.size ≤ gb843))
                   have GE843 := Aside0.mk ((by rw [hg]; exact (below_size (zB HB)) : w.heap.size ≤ gb843))
                   replace HB := Aside0.mk (below_step (zB HB) hb)
                   have NB842_843 := Aside0.mk ((by rw [hg]; exact Nat.ne_of_lt (blk_lt (g := gb842) (o := .cells #[.bool false, .int .u64 0, .int .u64 0, .bool false, .int .u64 0, .int .u64 0] 66 (0, 0)) (zK BK842)) : gb842 ≠ gb843))
                   have NB843_842 := Aside0.mk ((by rw [hg]; exact Nat.ne_of_gt (blk_lt (g := gb842) (o := .cells #[.bool false, .int .u64 0, .int .u64 0, .bool false, .int .u64 0, .int .u64 0] 66 (0, 0)) (zK BK842)) : gb843 ≠ gb842))
                   replace BK842 := Aside0.mk (blk_below (g := gb842) (o := .cells #[.bool false, .int .u64 0, .int .u64 0, .bool false, .int .u64 0, .int .u64 0] 66 (0, 0)) (zK BK842) hb)
                   clear hb hbox hg
                   refine hK.out _ _ ⟨(zh HB hw840_0), (zh HB hw840_1), (zh HB hw840_2), (zh HB hw840_3), (zh HB hw840_4), (zh HB hw840_5), (zh HB hw841_0), (zh HB hw841_1), (zh HB hw841_2), (zh HB hw841_3), (zh HB hw841_4), (zh HB hw841_5)⟩ (fun hHeld => ?_)
                   clear hK K
                   refine zn 9 ?_
                   exact norm_ (by simp only [putAll, Act.put, List.setIfInBounds_toArray, List.set_cons_zero, List.set_cons_succ]) (hCont (gb842, gb843) _ ⟨hHeld, (by (with_reducible repeat (first | apply Kd.R_alloc | apply Kd.R_drewN | apply Kd.R_drew)); exact Kd.R_mono HO_5.out (fun _ hk => ⟨hk.1.2, hk.2⟩)), (zK BK842), (zK BK843), GW842.out, GE842.out, NB843_842.out, NB842_843.out, GW843.out, GE843.out, (zB HB)⟩)
                 · skip
                   refine box_step ?hg (N := 9) ?hd (cs := #[.bool false, .int .u64 0, .int .u64 0, .bool false, .int .u64 0, .int .u64 0]) (t := 66) ?hr ?_; (case hd => rfl); (case hg => rfl); (case hr => first | (go_simp; done) | (go_simp; rfl))
                   intro gb843 hg w10 hbox hb
                   replace HO_5 := Aside0.mk (Kd.R_below (Kd.R_elderB (zR HO_5) gb843 (Nat.le_of_eq hg.symm)) hb)
                   have BK843 := Aside0.mk (hbox)
                   have GW843 := Aside0.mk ((by rw [hg]; exact (below_size (zB HB)) : w.heap.size ≤ gb843))
                   have GE843 := Aside0.mk ((by rw [hg]; exact (below_size (zB HB)) : w.heap.size ≤ gb843))
                   replace HB := Aside0.mk (below_step (zB HB) hb)
                   clear hb hbox hg
                   refine hK.out _ _ ⟨(zh HB hw840_0), (zh HB hw840_1), (zh HB hw840_2), (zh HB hw840_3), (zh HB hw840_4), (zh HB hw840_5), (zh HB hw841_0), (zh HB hw841_1), (zh HB hw841_2), (zh HB hw841_3), (zh HB hw841_4), (zh HB hw841_5)⟩ (fun hHeld => ?_)
                   clear hK K
                   refine zn 9 ?_; refine zo 8 8 HT_ (fun K hK => ?_)
                   refine box_step ?hg (N := 8) ?hd (cs := #[.bool false, .int .u64 0, .int .u64 0, .bool false, .int .u64 0, .int .u64 0]) (t := 66) ?hr ?_; (case hd => rfl); (case hg => rfl); (case hr => first | (go_simp; done) | (go_simp; rfl))
                   intro gb842 hg w11 hbox hb
                   replace HO_5 := Aside0.mk (Kd.R_below (Kd.R_elderB (zR HO_5) gb842 (Nat.le_of_eq hg.symm)) hb)
                   have BK842 := Aside0.mk (hbox)
                   have GW842 := Aside0.mk ((by rw [hg]; exact (below_size (zB HB)) : w.heap.size ≤ gb842))
                   have GE842 := Aside0.mk ((by rw [hg]; exact (below_size (zB HB)) : w.heap.size ≤ gb842))
                   replace HB := Aside0.mk (below_step (zB HB) hb)
                   have NB843_842 := Aside0.mk ((by rw [hg]; exact Nat.ne_of_lt (blk_lt (g := gb843) (o := .cells #[.bool false, .int .u64 0, .int .u64 0, .bool false, .int .u64 0, .int .u64 0] 66 (0, 0)) (zK BK843)) : gb843 ≠ gb842))
                   have NB842_843 := Aside0.mk ((by rw [hg]; exact Nat.ne_of_gt (blk_lt (g := gb843) (o := .cells #[.bool false, .int .u64 0, .int .u64 0, .bool false, .int .u64 0, .int .u64 0] 66 (0, 0)) (zK BK843)) : gb842 ≠ gb843))
                   replace BK843 := Aside0.mk (blk_below (g := gb843) (o := .cells #[.bool false, .int .u64 0, .int .u64 0, .bool false, .int .u64 0, .int .u64 0] 66 (0, 0)) (zK BK843) hb)
                   clear hb hbox hg
                   refine hK.out _ _ ⟨(zh HB hw840_0), (zh HB hw840_1), (zh HB hw840_2), (zh HB hw840_3), (zh HB hw840_4), (zh HB hw840_5), (zh HB hw841_0), (zh HB hw841_1), (zh HB hw841_2), (zh HB hw841_3), (zh HB hw841_4), (zh HB hw841_5)⟩ (fun hHeld => ?_)
                   clear hK K
                   refine zn 8 ?_
                   exact norm_ (by simp only [putAll, Act.put, List.setIfInBounds_toArray, List.set_cons_zero, List.set_cons_succ]) (hCont (gb842, gb843) _ ⟨hHeld, (by (with_reducible repeat (first | apply Kd.R_alloc | apply Kd.R_drewN | apply Kd.R_drew)); exact Kd.R_mono HO_5.out (fun _ hk => ⟨hk.2, hk.1.2⟩)), (zK BK842), (zK BK843), GW842.out, GE842.out, NB843_842.out, NB842_843.out, GW843.out, GE843.out, (zB HB)⟩)
               rintro ⟨gb842, gb843⟩ w12 ⟨hS_, h0_, h1_, h2_, h3_, h4_, h5_, h6_, h7_, h8_, h9_⟩
               have n0_ : Aside0 (Kd.R k66 66 w12 w.heap.size (fun k_ => k_ ≠ gb842 ∧ k_ ≠ gb843) u5 x5_2) := ⟨h0_⟩
               have n1_ : Aside0 (w12.heap[gb842]? = some (.cells #[.bool false, .int .u64 0, .int .u64 0, .bool false, .int .u64 0, .int .u64 0] 66 (0, 0))) := ⟨h1_⟩
               have n2_ : Aside0 (w12.heap[gb843]? = some (.cells #[.bool false, .int .u64 0, .int .u64 0, .bool false, .int .u64 0, .int .u64 0] 66 (0, 0))) := ⟨h2_⟩
               have n3_ : Aside0 (w.heap.size ≤ gb842) := ⟨h3_⟩
               have n4_ : Aside0 (w.heap.size ≤ gb842) := ⟨h4_⟩
               have n5_ : Aside0 (gb843 ≠ gb842) := ⟨h5_⟩
               have n6_ : Aside0 (gb842 ≠ gb843) := ⟨h6_⟩
               have n7_ : Aside0 (w.heap.size ≤ gb843) := ⟨h7_⟩
               have n8_ : Aside0 (w.heap.size ≤ gb843) := ⟨h8_⟩
               have n9_ : Aside0 (Below w.heap.size w w12) := ⟨h9_⟩
               clear HO_5
               clear HB
               clear h0_ h1_ h2_ h3_ h4_ h5_ h6_ h7_ h8_ h9_
               have HO_5 := n0_
               have BK842 := n1_
               have BK843 := n2_
               have GW842 := n3_
               have GE842 := n4_
               have NB843_842 := n5_
               have NB842_843 := n6_
               have GW843 := n7_
               have GE843 := n8_
               have HB := n9_
               clear n0_ n1_ n2_ n3_ n4_ n5_ n6_ n7_ n8_ n9_
               have hHeld : w12.cell? (ad840.add ((x6_1).toNat * 6)) = some (.bool ((rd_T66 l0 x6_1).f0.f0)) ∧ w12.cell? ⟨(ad840.add ((x6_1).toNat * 6)).block, (ad840.add ((x6_1).toNat * 6)).off + 1, none⟩ = some (.int .u64 ((rd_T66 l0 x6_1).f0.f1)) ∧ w12.cell? ⟨(ad840.add ((x6_1).toNat * 6)).block, (ad840.add ((x6_1).toNat * 6)).off + 2, none⟩ = some (.int .u64 ((rd_T66 l0 x6_1).f0.f2)) ∧ w12.cell? ⟨(ad840.add ((x6_1).toNat * 6)).block, (ad840.add ((x6_1).toNat * 6)).off + 3, none⟩ = some (.bool ((rd_T66 l0 x6_1).f1.f0)) ∧ w12.cell? ⟨(ad840.add ((x6_1).toNat * 6)).block, (ad840.add ((x6_1).toNat * 6)).off + 4, none⟩ = some (.int .u64 ((rd_T66 l0 x6_1).f1.f1)) ∧ w12.cell? ⟨(ad840.add ((x6_1).toNat * 6)).block, (ad840.add ((x6_1).toNat * 6)).off + 5, none⟩ = some (.int .u64 ((rd_T66 l0 x6_1).f1.f2)) ∧ w12.cell? (ad841.add ((x7_2).toNat * 6)) = some (.bool ((rd_T66 l1 x7_2).f0.f0)) ∧ w12.cell? ⟨(ad841.add ((x7_2).toNat * 6)).block, (ad841.add ((x7_2).toNat * 6)).off + 1, none⟩ = some (.int .u64 ((rd_T66 l1 x7_2).f0.f1)) ∧ w12.cell? ⟨(ad841.add ((x7_2).toNat * 6)).block, (ad841.add ((x7_2).toNat * 6)).off + 2, none⟩ = some (.int .u64 ((rd_T66 l1 x7_2).f0.f2)) ∧ w12.cell? ⟨(ad841.add ((x7_2).toNat * 6)).block, (ad841.add ((x7_2).toNat * 6)).off + 3, none⟩ = some (.bool ((rd_T66 l1 x7_2).f1.f0)) ∧ w12.cell? ⟨(ad841.add ((x7_2).toNat * 6)).block, (ad841.add ((x7_2).toNat * 6)).off + 4, none⟩ = some (.int .u64 ((rd_T66 l1 x7_2).f1.f1)) ∧ w12.cell? ⟨(ad841.add ((x7_2).toNat * 6)).block, (ad841.add ((x7_2).toNat * 6)).off + 5, none⟩ = some (.int .u64 ((rd_T66 l1 x7_2).f1.f2)) := hS_
               refine norm_ (a' := ?_) ?_ ?_
               rotate_left
               · simp only [putAll, Act.put, List.setIfInBounds_toArray, List.set_cons_zero, List.set_cons_succ]
                 rfl
               refine one_ (i := 10) (N := none) #[true, true, true, true, true, true, true, true, true, true, true, false] rfl rfl (one_of HT_.out (by kernel_rfl)) (by decide) (fun K hK => ?_)
               have hs13 : w12.cell? ⟨gb842, 0, none⟩ = some (.bool false) := zc BK842 0
               have hfs13 := blk_frozen BK842.out 0
               have hns13_1 := NB843_842.out
               have hms13_1 := NB842_843.out
               have hs14 : w12.cell? ⟨gb842, 1, none⟩ = some (.int .u64 0) := zc BK842 1
               have hfs14 := blk_frozen BK842.out 1
               have hns14_1 := NB843_842.out
               have hms14_1 := NB842_843.out
               have hs15 : w12.cell? ⟨gb842, 2, none⟩ = some (.int .u64 0) := zc BK842 2
               have hfs15 := blk_frozen BK842.out 2
               have hns15_1 := NB843_842.out
               have hms15_1 := NB842_843.out
               have hs16 : w12.cell? ⟨gb842, 3, none⟩ = some (.bool false) := zc BK842 3
               have hfs16 := blk_frozen BK842.out 3
               have hns16_1 := NB843_842.out
               have hms16_1 := NB842_843.out
               have hs17 : w12.cell? ⟨gb842, 4, none⟩ = some (.int .u64 0) := zc BK842 4
               have hfs17 := blk_frozen BK842.out 4
               have hns17_1 := NB843_842.out
               have hms17_1 := NB842_843.out
               have hs18 : w12.cell? ⟨gb842, 5, none⟩ = some (.int .u64 0) := zc BK842 5
               have hfs18 := blk_frozen BK842.out 5
               have hns18_1 := NB843_842.out
               have hms18_1 := NB842_843.out
               refine skip_ (w1 := ?_) (by rfl) rfl ?_ ?_
               rotate_left
               · go_simp
                 rfl
               refine hK.out _ _ ⟨((cell_far (p := ⟨gb842, _, none⟩) (zw hw840_0 GW842) _).trans (((cell_far (p := ⟨gb842, _, none⟩) (zw hw840_0 GW842) _).trans (((cell_far (p := ⟨gb842, _, none⟩) (zw hw840_0 GW842) _).trans (((cell_far (p := ⟨gb842, _, none⟩) (zw hw840_0 GW842) _).trans (((cell_far (p := ⟨gb842, _, none⟩) (zw hw840_0 GW842) _).trans (((cell_far (p := ⟨gb842, _, none⟩) (zw hw840_0 GW842) _).trans (hHeld.1)))))))))))), ((cell_far (p := ⟨gb842, _, none⟩) (zw hw840_1 GW842) _).trans (((cell_far (p := ⟨gb842, _, none⟩) (zw hw840_1 GW842) _).trans (((cell_far (p := ⟨gb842, _, none⟩) (zw hw840_1 GW842) _).trans (((cell_far (p := ⟨gb842, _, none⟩) (zw hw840_1 GW842) _).trans (((cell_far (p := ⟨gb842, _, none⟩) (zw hw840_1 GW842) _).trans (((cell_far (p := ⟨gb842, _, none⟩) (zw hw840_1 GW842) _).trans (hHeld.2.1)))))))))))), ((cell_far (p := ⟨gb842, _, none⟩) (zw hw840_2 GW842) _).trans (((cell_far (p := ⟨gb842, _, none⟩) (zw hw840_2 GW842) _).trans (((cell_far (p := ⟨gb842, _, none⟩) (zw hw840_2 GW842) _).trans (((cell_far (p := ⟨gb842, _, none⟩) (zw hw840_2 GW842) _).trans (((cell_far (p := ⟨gb842, _, none⟩) (zw hw840_2 GW842) _).trans (((cell_far (p := ⟨gb842, _, none⟩) (zw hw840_2 GW842) _).trans (hHeld.2.2.1)))))))))))), ((cell_far (p := ⟨gb842, _, none⟩) (zw hw840_3 GW842) _).trans (((cell_far (p := ⟨gb842, _, none⟩) (zw hw840_3 GW842) _).trans (((cell_far (p := ⟨gb842, _, none⟩) (zw hw840_3 GW842) _).trans (((cell_far (p := ⟨gb842, _, none⟩) (zw hw840_3 GW842) _).trans (((cell_far (p := ⟨gb842, _, none⟩) (zw hw840_3 GW842) _).trans (((cell_far (p := ⟨gb842, _, none⟩) (zw hw840_3 GW842) _).trans (hHeld.2.2.2.1)))))))))))), ((cell_far (p := ⟨gb842, _, none⟩) (zw hw840_4 GW842) _).trans (((cell_far (p := ⟨gb842, _, none⟩) (zw hw840_4 GW842) _).trans (((cell_far (p := ⟨gb842, _, none⟩) (zw hw840_4 GW842) _).trans (((cell_far (p := ⟨gb842, _, none⟩) (zw hw840_4 GW842) _).trans (((cell_far (p := ⟨gb842, _, none⟩) (zw hw840_4 GW842) _).trans (((cell_far (p := ⟨gb842, _, none⟩) (zw hw840_4 GW842) _).trans (hHeld.2.2.2.2.1)))))))))))), ((cell_far (p := ⟨gb842, _, none⟩) (zw hw840_5 GW842) _).trans (((cell_far (p := ⟨gb842, _, none⟩) (zw hw840_5 GW842) _).trans (((cell_far (p := ⟨gb842, _, none⟩) (zw hw840_5 GW842) _).trans (((cell_far (p := ⟨gb842, _, none⟩) (zw hw840_5 GW842) _).trans (((cell_far (p := ⟨gb842, _, none⟩) (zw hw840_5 GW842) _).trans (((cell_far (p := ⟨gb842, _, none⟩) (zw hw840_5 GW842) _).trans (hHeld.2.2.2.2.2.1)))))))))))), ((cell_far (p := ⟨gb842, _, none⟩) (zw hw841_0 GW842) _).trans (((cell_far (p := ⟨gb842, _, none⟩) (zw hw841_0 GW842) _).trans (((cell_far (p := ⟨gb842, _, none⟩) (zw hw841_0 GW842) _).trans (((cell_far (p := ⟨gb842, _, none⟩) (zw hw841_0 GW842) _).trans (((cell_far (p := ⟨gb842, _, none⟩) (zw hw841_0 GW842) _).trans (((cell_far (p := ⟨gb842, _, none⟩) (zw hw841_0 GW842) _).trans (hHeld.2.2.2.2.2.2.1)))))))))))), ((cell_far (p := ⟨gb842, _, none⟩) (zw hw841_1 GW842) _).trans (((cell_far (p := ⟨gb842, _, none⟩) (zw hw841_1 GW842) _).trans (((cell_far (p := ⟨gb842, _, none⟩) (zw hw841_1 GW842) _).trans (((cell_far (p := ⟨gb842, _, none⟩) (zw hw841_1 GW842) _).trans (((cell_far (p := ⟨gb842, _, none⟩) (zw hw841_1 GW842) _).trans (((cell_far (p := ⟨gb842, _, none⟩) (zw hw841_1 GW842) _).trans (hHeld.2.2.2.2.2.2.2.1)))))))))))), ((cell_far (p := ⟨gb842, _, none⟩) (zw hw841_2 GW842) _).trans (((cell_far (p := ⟨gb842, _, none⟩) (zw hw841_2 GW842) _).trans (((cell_far (p := ⟨gb842, _, none⟩) (zw hw841_2 GW842) _).trans (((cell_far (p := ⟨gb842, _, none⟩) (zw hw841_2 GW842) _).trans (((cell_far (p := ⟨gb842, _, none⟩) (zw hw841_2 GW842) _).trans (((cell_far (p := ⟨gb842, _, none⟩) (zw hw841_2 GW842) _).trans (hHeld.2.2.2.2.2.2.2.2.1)))))))))))), ((cell_far (p := ⟨gb842, _, none⟩) (zw hw841_3 GW842) _).trans (((cell_far (p := ⟨gb842, _, none⟩) (zw hw841_3 GW842) _).trans (((cell_far (p := ⟨gb842, _, none⟩) (zw hw841_3 GW842) _).trans (((cell_far (p := ⟨gb842, _, none⟩) (zw hw841_3 GW842) _).trans (((cell_far (p := ⟨gb842, _, none⟩) (zw hw841_3 GW842) _).trans (((cell_far (p := ⟨gb842, _, none⟩) (zw hw841_3 GW842) _).trans (hHeld.2.2.2.2.2.2.2.2.2.1)))))))))))), ((cell_far (p := ⟨gb842, _, none⟩) (zw hw841_4 GW842) _).trans (((cell_far (p := ⟨gb842, _, none⟩) (zw hw841_4 GW842) _).trans (((cell_far (p := ⟨gb842, _, none⟩) (zw hw841_4 GW842) _).trans (((cell_far (p := ⟨gb842, _, none⟩) (zw hw841_4 GW842) _).trans (((cell_far (p := ⟨gb842, _, none⟩) (zw hw841_4 GW842) _).trans (((cell_far (p := ⟨gb842, _, none⟩) (zw hw841_4 GW842) _).trans (hHeld.2.2.2.2.2.2.2.2.2.2.1)))))))))))), ((cell_far (p := ⟨gb842, _, none⟩) (zw hw841_5 GW842) _).trans (((cell_far (p := ⟨gb842, _, none⟩) (zw hw841_5 GW842) _).trans (((cell_far (p := ⟨gb842, _, none⟩) (zw hw841_5 GW842) _).trans (((cell_far (p := ⟨gb842, _, none⟩) (zw hw841_5 GW842) _).trans (((cell_far (p := ⟨gb842, _, none⟩) (zw hw841_5 GW842) _).trans (((cell_far (p := ⟨gb842, _, none⟩) (zw hw841_5 GW842) _).trans (hHeld.2.2.2.2.2.2.2.2.2.2.2))))))))))))⟩ (fun hHeld => ?_)
               clear hK K
               refine one_ (i := 11) (N := none) #[true, true, true, true, true, true, true, true, true, true, true, true] rfl rfl (one_of HT_.out (by kernel_rfl)) (by decide) (fun K hK => ?_)
               have hs19 : w12.cell? ⟨gb843, 0, none⟩ = some (.bool false) := zc BK843 0
               have hfs19 := blk_frozen BK843.out 0
               have hns19_0 := NB842_843.out
               have hms19_0 := NB843_842.out
               have hs20 : w12.cell? ⟨gb843, 1, none⟩ = some (.int .u64 0) := zc BK843 1
               have hfs20 := blk_frozen BK843.out 1
               have hns20_0 := NB842_843.out
               have hms20_0 := NB843_842.out
               have hs21 : w12.cell? ⟨gb843, 2, none⟩ = some (.int .u64 0) := zc BK843 2
               have hfs21 := blk_frozen BK843.out 2
               have hns21_0 := NB842_843.out
               have hms21_0 := NB843_842.out
               have hs22 : w12.cell? ⟨gb843, 3, none⟩ = some (.bool false) := zc BK843 3
               have hfs22 := blk_frozen BK843.out 3
               have hns22_0 := NB842_843.out
               have hms22_0 := NB843_842.out
               have hs23 : w12.cell? ⟨gb843, 4, none⟩ = some (.int .u64 0) := zc BK843 4
               have hfs23 := blk_frozen BK843.out 4
               have hns23_0 := NB842_843.out
               have hms23_0 := NB843_842.out
               have hs24 : w12.cell? ⟨gb843, 5, none⟩ = some (.int .u64 0) := zc BK843 5
               have hfs24 := blk_frozen BK843.out 5
               have hns24_0 := NB842_843.out
               have hms24_0 := NB843_842.out
               refine skip_ (w1 := ?_) (by rfl) rfl ?_ ?_
               rotate_left
               · go_simp
                 rfl
               refine hK.out _ _ ⟨((cell_far (p := ⟨gb843, _, none⟩) (zw hw840_0 GW843) _).trans (((cell_far (p := ⟨gb843, _, none⟩) (zw hw840_0 GW843) _).trans (((cell_far (p := ⟨gb843, _, none⟩) (zw hw840_0 GW843) _).trans (((cell_far (p := ⟨gb843, _, none⟩) (zw hw840_0 GW843) _).trans (((cell_far (p := ⟨gb843, _, none⟩) (zw hw840_0 GW843) _).trans (((cell_far (p := ⟨gb843, _, none⟩) (zw hw840_0 GW843) _).trans (hHeld.1)))))))))))), ((cell_far (p := ⟨gb843, _, none⟩) (zw hw840_1 GW843) _).trans (((cell_far (p := ⟨gb843, _, none⟩) (zw hw840_1 GW843) _).trans (((cell_far (p := ⟨gb843, _, none⟩) (zw hw840_1 GW843) _).trans (((cell_far (p := ⟨gb843, _, none⟩) (zw hw840_1 GW843) _).trans (((cell_far (p := ⟨gb843, _, none⟩) (zw hw840_1 GW843) _).trans (((cell_far (p := ⟨gb843, _, none⟩) (zw hw840_1 GW843) _).trans (hHeld.2.1)))))))))))), ((cell_far (p := ⟨gb843, _, none⟩) (zw hw840_2 GW843) _).trans (((cell_far (p := ⟨gb843, _, none⟩) (zw hw840_2 GW843) _).trans (((cell_far (p := ⟨gb843, _, none⟩) (zw hw840_2 GW843) _).trans (((cell_far (p := ⟨gb843, _, none⟩) (zw hw840_2 GW843) _).trans (((cell_far (p := ⟨gb843, _, none⟩) (zw hw840_2 GW843) _).trans (((cell_far (p := ⟨gb843, _, none⟩) (zw hw840_2 GW843) _).trans (hHeld.2.2.1)))))))))))), ((cell_far (p := ⟨gb843, _, none⟩) (zw hw840_3 GW843) _).trans (((cell_far (p := ⟨gb843, _, none⟩) (zw hw840_3 GW843) _).trans (((cell_far (p := ⟨gb843, _, none⟩) (zw hw840_3 GW843) _).trans (((cell_far (p := ⟨gb843, _, none⟩) (zw hw840_3 GW843) _).trans (((cell_far (p := ⟨gb843, _, none⟩) (zw hw840_3 GW843) _).trans (((cell_far (p := ⟨gb843, _, none⟩) (zw hw840_3 GW843) _).trans (hHeld.2.2.2.1)))))))))))), ((cell_far (p := ⟨gb843, _, none⟩) (zw hw840_4 GW843) _).trans (((cell_far (p := ⟨gb843, _, none⟩) (zw hw840_4 GW843) _).trans (((cell_far (p := ⟨gb843, _, none⟩) (zw hw840_4 GW843) _).trans (((cell_far (p := ⟨gb843, _, none⟩) (zw hw840_4 GW843) _).trans (((cell_far (p := ⟨gb843, _, none⟩) (zw hw840_4 GW843) _).trans (((cell_far (p := ⟨gb843, _, none⟩) (zw hw840_4 GW843) _).trans (hHeld.2.2.2.2.1)))))))))))), ((cell_far (p := ⟨gb843, _, none⟩) (zw hw840_5 GW843) _).trans (((cell_far (p := ⟨gb843, _, none⟩) (zw hw840_5 GW843) _).trans (((cell_far (p := ⟨gb843, _, none⟩) (zw hw840_5 GW843) _).trans (((cell_far (p := ⟨gb843, _, none⟩) (zw hw840_5 GW843) _).trans (((cell_far (p := ⟨gb843, _, none⟩) (zw hw840_5 GW843) _).trans (((cell_far (p := ⟨gb843, _, none⟩) (zw hw840_5 GW843) _).trans (hHeld.2.2.2.2.2.1)))))))))))), ((cell_far (p := ⟨gb843, _, none⟩) (zw hw841_0 GW843) _).trans (((cell_far (p := ⟨gb843, _, none⟩) (zw hw841_0 GW843) _).trans (((cell_far (p := ⟨gb843, _, none⟩) (zw hw841_0 GW843) _).trans (((cell_far (p := ⟨gb843, _, none⟩) (zw hw841_0 GW843) _).trans (((cell_far (p := ⟨gb843, _, none⟩) (zw hw841_0 GW843) _).trans (((cell_far (p := ⟨gb843, _, none⟩) (zw hw841_0 GW843) _).trans (hHeld.2.2.2.2.2.2.1)))))))))))), ((cell_far (p := ⟨gb843, _, none⟩) (zw hw841_1 GW843) _).trans (((cell_far (p := ⟨gb843, _, none⟩) (zw hw841_1 GW843) _).trans (((cell_far (p := ⟨gb843, _, none⟩) (zw hw841_1 GW843) _).trans (((cell_far (p := ⟨gb843, _, none⟩) (zw hw841_1 GW843) _).trans (((cell_far (p := ⟨gb843, _, none⟩) (zw hw841_1 GW843) _).trans (((cell_far (p := ⟨gb843, _, none⟩) (zw hw841_1 GW843) _).trans (hHeld.2.2.2.2.2.2.2.1)))))))))))), ((cell_far (p := ⟨gb843, _, none⟩) (zw hw841_2 GW843) _).trans (((cell_far (p := ⟨gb843, _, none⟩) (zw hw841_2 GW843) _).trans (((cell_far (p := ⟨gb843, _, none⟩) (zw hw841_2 GW843) _).trans (((cell_far (p := ⟨gb843, _, none⟩) (zw hw841_2 GW843) _).trans (((cell_far (p := ⟨gb843, _, none⟩) (zw hw841_2 GW843) _).trans (((cell_far (p := ⟨gb843, _, none⟩) (zw hw841_2 GW843) _).trans (hHeld.2.2.2.2.2.2.2.2.1)))))))))))), ((cell_far (p := ⟨gb843, _, none⟩) (zw hw841_3 GW843) _).trans (((cell_far (p := ⟨gb843, _, none⟩) (zw hw841_3 GW843) _).trans (((cell_far (p := ⟨gb843, _, none⟩) (zw hw841_3 GW843) _).trans (((cell_far (p := ⟨gb843, _, none⟩) (zw hw841_3 GW843) _).trans (((cell_far (p := ⟨gb843, _, none⟩) (zw hw841_3 GW843) _).trans (((cell_far (p := ⟨gb843, _, none⟩) (zw hw841_3 GW843) _).trans (hHeld.2.2.2.2.2.2.2.2.2.1)))))))))))), ((cell_far (p := ⟨gb843, _, none⟩) (zw hw841_4 GW843) _).trans (((cell_far (p := ⟨gb843, _, none⟩) (zw hw841_4 GW843) _).trans (((cell_far (p := ⟨gb843, _, none⟩) (zw hw841_4 GW843) _).trans (((cell_far (p := ⟨gb843, _, none⟩) (zw hw841_4 GW843) _).trans (((cell_far (p := ⟨gb843, _, none⟩) (zw hw841_4 GW843) _).trans (((cell_far (p := ⟨gb843, _, none⟩) (zw hw841_4 GW843) _).trans (hHeld.2.2.2.2.2.2.2.2.2.2.1)))))))))))), ((cell_far (p := ⟨gb843, _, none⟩) (zw hw841_5 GW843) _).trans (((cell_far (p := ⟨gb843, _, none⟩) (zw hw841_5 GW843) _).trans (((cell_far (p := ⟨gb843, _, none⟩) (zw hw841_5 GW843) _).trans (((cell_far (p := ⟨gb843, _, none⟩) (zw hw841_5 GW843) _).trans (((cell_far (p := ⟨gb843, _, none⟩) (zw hw841_5 GW843) _).trans (((cell_far (p := ⟨gb843, _, none⟩) (zw hw841_5 GW843) _).trans (hHeld.2.2.2.2.2.2.2.2.2.2.2))))))))))))⟩ (fun hHeld => ?_)
               clear hK K
               refine zd HT_ ?_
               go_upto_region 9 with (fail)
               go_cut [46] (fun v46 wc => ∃ (kq : Nat) (x46_7 : Bool), v46 = .bool x46_7 ∧ Aside0 (intrusionref07_Intersect.j2 kq l0 l1 x5_2 x6_1 x7_2 x46_7 ((rd_T66 l0 x6_1).f0.f0) ((rd_T66 l0 x6_1).f0.f1) ((rd_T66 l0 x6_1).f0.f2) ((rd_T66 l0 x6_1).f1.f0) ((rd_T66 l0 x6_1).f1.f1) ((rd_T66 l0 x6_1).f1.f2) ((rd_T66 l1 x7_2).f0.f0) ((rd_T66 l1 x7_2).f0.f1) ((rd_T66 l1 x7_2).f0.f2) ((rd_T66 l1 x7_2).f1.f0) ((rd_T66 l1 x7_2).f1.f1) ((rd_T66 l1 x7_2).f1.f2) = some r) ∧ Aside0 (kq ≤ k2) ∧ Aside0 (Kd.R k66 66 wc w.heap.size (fun k_ => k_ ≠ gb842 ∧ k_ ≠ gb843) u5 x5_2) ∧ Aside0 (wc.heap[gb842]? = some (.cells #[.bool ((rd_T66 l0 x6_1).f0.f0), .int .u64 ((rd_T66 l0 x6_1).f0.f1), .int .u64 ((rd_T66 l0 x6_1).f0.f2), .bool ((rd_T66 l0 x6_1).f1.f0), .int .u64 ((rd_T66 l0 x6_1).f1.f1), .int .u64 ((rd_T66 l0 x6_1).f1.f2)] 66 (0, 0))) ∧ Aside0 (wc.heap[gb843]? = some (.cells #[.bool ((rd_T66 l1 x7_2).f0.f0), .int .u64 ((rd_T66 l1 x7_2).f0.f1), .int .u64 ((rd_T66 l1 x7_2).f0.f2), .bool ((rd_T66 l1 x7_2).f1.f0), .int .u64 ((rd_T66 l1 x7_2).f1.f1), .int .u64 ((rd_T66 l1 x7_2).f1.f2)] 66 (0, 0))) ∧ Aside0 (Below w.heap.size w wc))
               case first =>
                have H := HC8.out
                clear HC8
                replace H := Option.bind_eq_some_iff.mp H
                obtain ⟨t844, A250, H⟩ := H
                try dsimp only at H
                have A25 := Aside0.mk A250
                clear A250
                by_cases c26 : t844 = true
                · subst c26
                  rw [if_pos rfl] at H
                  replace H := Option.bind_eq_some_iff.mp H
                  obtain ⟨t845, A270, H⟩ := H
                  try dsimp only at H
                  have A27 := Aside0.mk A270
                  clear A270
                  by_cases c28 : t845 = true
                  · subst c28
                    rw [if_pos rfl] at H
                    have H' := Aside0.mk H
                    clear H
                    have hnb29 := NB842_843.out
                    have hnc29 := NB843_842.out
                    obtain ⟨hcz30_0, hcz30_1, hcz30_2, hcz30_3, hcz30_4, hcz30_5⟩ := zc6 BK842
                    obtain ⟨hfz30_0, hfz30_1, hfz30_2, hfz30_3, hfz30_4, hfz30_5⟩ := zf6 BK842
                    go_wp2_with (first | ((with_reducible refine gate_callee (f := 78) rfl ?_); refine goesL_ (some 31) rfl rfl Try.func78 (by kernel_rfl) rfl #[.agg #[.bool ((rd_T66 l0 x6_1).f0.f0), .int .u64 ((rd_T66 l0 x6_1).f0.f1), .int .u64 ((rd_T66 l0 x6_1).f0.f2), .bool ((rd_T66 l0 x6_1).f1.f0), .int .u64 ((rd_T66 l0 x6_1).f1.f1), .int .u64 ((rd_T66 l0 x6_1).f1.f2)]] rfl (by (try simp only [List.map_toArray, List.map_cons, List.map_nil]); first | done | rfl | (simp only [List.length_drop, List.length_take]; rfl)) ?_; (with_reducible refine (intrusionref07_Some.calls ((rd_T66 l0 x6_1).f0.f0) ((rd_T66 l0 x6_1).f0.f1) ((rd_T66 l0 x6_1).f0.f2) ((rd_T66 l0 x6_1).f1.f0) ((rd_T66 l0 x6_1).f1.f1) ((rd_T66 l0 x6_1).f1.f2) true _ A25.out).mono ?_); rintro e w31 ⟨rfl, hb⟩; refine ⟨_, rfl, ?_⟩; replace HO_5 := Aside0.mk (Kd.R_below (zQ (Kd.R_mono (Kd.R_mono (Kd.R_far (p := ⟨gb843, 5, none⟩) (Kd.R_far (p := ⟨gb843, 4, none⟩) (Kd.R_far (p := ⟨gb843, 3, none⟩) (Kd.R_far (p := ⟨gb843, 2, none⟩) (Kd.R_far (p := ⟨gb843, 1, none⟩) (Kd.R_far (p := ⟨gb843, 0, none⟩) (Kd.R_far (p := ⟨gb842, 5, none⟩) (Kd.R_far (p := ⟨gb842, 4, none⟩) (Kd.R_far (p := ⟨gb842, 3, none⟩) (Kd.R_far (p := ⟨gb842, 2, none⟩) (Kd.R_far (p := ⟨gb842, 1, none⟩) (Kd.R_far (p := ⟨gb842, 0, none⟩) (Kd.R_mono (Kd.R_mono HO_5.out (fun k_ hk => (⟨hk, hk.1⟩ : _ ∧ k_ ≠ gb842))) (fun k_ hk => (⟨hk, hk.1.2⟩ : _ ∧ k_ ≠ gb843))) (fun _ hk => hk.1.2) (.bool ((rd_T66 l0 x6_1).f0.f0))) (fun _ hk => hk.1.2) (.int .u64 ((rd_T66 l0 x6_1).f0.f1))) (fun _ hk => hk.1.2) (.int .u64 ((rd_T66 l0 x6_1).f0.f2))) (fun _ hk => hk.1.2) (.bool ((rd_T66 l0 x6_1).f1.f0))) (fun _ hk => hk.1.2) (.int .u64 ((rd_T66 l0 x6_1).f1.f1))) (fun _ hk => hk.1.2) (.int .u64 ((rd_T66 l0 x6_1).f1.f2))) (fun _ hk => hk.2) (.bool ((rd_T66 l1 x7_2).f0.f0))) (fun _ hk => hk.2) (.int .u64 ((rd_T66 l1 x7_2).f0.f1))) (fun _ hk => hk.2) (.int .u64 ((rd_T66 l1 x7_2).f0.f2))) (fun _ hk => hk.2) (.bool ((rd_T66 l1 x7_2).f1.f0))) (fun _ hk => hk.2) (.int .u64 ((rd_T66 l1 x7_2).f1.f1))) (fun _ hk => hk.2) (.int .u64 ((rd_T66 l1 x7_2).f1.f2))) (fun _ h_ => h_.1)) (fun _ h_ => h_.1))) hb); replace BK842 := Aside0.mk (blk_below (g := gb842) (o := .cells #[.bool ((rd_T66 l0 x6_1).f0.f0), .int .u64 ((rd_T66 l0 x6_1).f0.f1), .int .u64 ((rd_T66 l0 x6_1).f0.f2), .bool ((rd_T66 l0 x6_1).f1.f0), .int .u64 ((rd_T66 l0 x6_1).f1.f1), .int .u64 ((rd_T66 l0 x6_1).f1.f2)] 66 (0, 0)) (by refine zL ?_; refine blk_far ?_ NB842_843.out _; refine zL ?_; refine blk_far ?_ NB842_843.out _; refine zL ?_; refine blk_far ?_ NB842_843.out _; refine zL ?_; refine blk_far ?_ NB842_843.out _; refine zL ?_; refine blk_far ?_ NB842_843.out _; refine zL ?_; refine blk_far ?_ NB842_843.out _; refine zL ?_; refine blk_put (cs := #[.bool ((rd_T66 l0 x6_1).f0.f0), .int .u64 ((rd_T66 l0 x6_1).f0.f1), .int .u64 ((rd_T66 l0 x6_1).f0.f2), .bool ((rd_T66 l0 x6_1).f1.f0), .int .u64 ((rd_T66 l0 x6_1).f1.f1), .int .u64 0]) ?_ 5 _ rfl; refine zL ?_; refine blk_put (cs := #[.bool ((rd_T66 l0 x6_1).f0.f0), .int .u64 ((rd_T66 l0 x6_1).f0.f1), .int .u64 ((rd_T66 l0 x6_1).f0.f2), .bool ((rd_T66 l0 x6_1).f1.f0), .int .u64 0, .int .u64 0]) ?_ 4 _ rfl; refine zL ?_; refine blk_put (cs := #[.bool ((rd_T66 l0 x6_1).f0.f0), .int .u64 ((rd_T66 l0 x6_1).f0.f1), .int .u64 ((rd_T66 l0 x6_1).f0.f2), .bool false, .int .u64 0, .int .u64 0]) ?_ 3 _ rfl; refine zL ?_; refine blk_put (cs := #[.bool ((rd_T66 l0 x6_1).f0.f0), .int .u64 ((rd_T66 l0 x6_1).f0.f1), .int .u64 0, .bool false, .int .u64 0, .int .u64 0]) ?_ 2 _ rfl; refine zL ?_; refine blk_put (cs := #[.bool ((rd_T66 l0 x6_1).f0.f0), .int .u64 0, .int .u64 0, .bool false, .int .u64 0, .int .u64 0]) ?_ 1 _ rfl; refine zL ?_; refine blk_put (cs := #[.bool false, .int .u64 0, .int .u64 0, .bool false, .int .u64 0, .int .u64 0]) ?_ 0 _ rfl; refine zL ?_; exact BK842.out) hb); replace BK843 := Aside0.mk (blk_below (g := gb843) (o := .cells #[.bool ((rd_T66 l1 x7_2).f0.f0), .int .u64 ((rd_T66 l1 x7_2).f0.f1), .int .u64 ((rd_T66 l1 x7_2).f0.f2), .bool ((rd_T66 l1 x7_2).f1.f0), .int .u64 ((rd_T66 l1 x7_2).f1.f1), .int .u64 ((rd_T66 l1 x7_2).f1.f2)] 66 (0, 0)) (by refine zL ?_; refine blk_put (cs := #[.bool ((rd_T66 l1 x7_2).f0.f0), .int .u64 ((rd_T66 l1 x7_2).f0.f1), .int .u64 ((rd_T66 l1 x7_2).f0.f2), .bool ((rd_T66 l1 x7_2).f1.f0), .int .u64 ((rd_T66 l1 x7_2).f1.f1), .int .u64 0]) ?_ 5 _ rfl; refine zL ?_; refine blk_put (cs := #[.bool ((rd_T66 l1 x7_2).f0.f0), .int .u64 ((rd_T66 l1 x7_2).f0.f1), .int .u64 ((rd_T66 l1 x7_2).f0.f2), .bool ((rd_T66 l1 x7_2).f1.f0), .int .u64 0, .int .u64 0]) ?_ 4 _ rfl; refine zL ?_; refine blk_put (cs := #[.bool ((rd_T66 l1 x7_2).f0.f0), .int .u64 ((rd_T66 l1 x7_2).f0.f1), .int .u64 ((rd_T66 l1 x7_2).f0.f2), .bool false, .int .u64 0, .int .u64 0]) ?_ 3 _ rfl; refine zL ?_; refine blk_put (cs := #[.bool ((rd_T66 l1 x7_2).f0.f0), .int .u64 ((rd_T66 l1 x7_2).f0.f1), .int .u64 0, .bool false, .int .u64 0, .int .u64 0]) ?_ 2 _ rfl; refine zL ?_; refine blk_put (cs := #[.bool ((rd_T66 l1 x7_2).f0.f0), .int .u64 0, .int .u64 0, .bool false, .int .u64 0, .int .u64 0]) ?_ 1 _ rfl; refine zL ?_; refine blk_put (cs := #[.bool false, .int .u64 0, .int .u64 0, .bool false, .int .u64 0, .int .u64 0]) ?_ 0 _ rfl; refine zL ?_; refine blk_far ?_ NB843_842.out _; refine zL ?_; refine blk_far ?_ NB843_842.out _; refine zL ?_; refine blk_far ?_ NB843_842.out _; refine zL ?_; refine blk_far ?_ NB843_842.out _; refine zL ?_; refine blk_far ?_ NB843_842.out _; refine zL ?_; refine blk_far ?_ NB843_842.out _; refine zL ?_; exact BK843.out) hb); replace HB := Aside0.mk (below_step (zB HB) hb); (try clear hb); obtain ⟨hcz32_0, hcz32_1, hcz32_2, hcz32_3, hcz32_4, hcz32_5⟩ := zc6 BK843; obtain ⟨hfz32_0, hfz32_1, hfz32_2, hfz32_3, hfz32_4, hfz32_5⟩ := zf6 BK843) | (go_at_call 78; (with_reducible refine (intrusionref07_Some.calls ((rd_T66 l1 x7_2).f0.f0) ((rd_T66 l1 x7_2).f0.f1) ((rd_T66 l1 x7_2).f0.f2) ((rd_T66 l1 x7_2).f1.f0) ((rd_T66 l1 x7_2).f1.f1) ((rd_T66 l1 x7_2).f1.f2) true _ A27.out).mono ?_); rintro e w33 ⟨rfl, hb⟩; replace HO_5 := Aside0.mk (Kd.R_below (zR HO_5) hb); replace BK842 := Aside0.mk (blk_below (g := gb842) (o := .cells #[.bool ((rd_T66 l0 x6_1).f0.f0), .int .u64 ((rd_T66 l0 x6_1).f0.f1), .int .u64 ((rd_T66 l0 x6_1).f0.f2), .bool ((rd_T66 l0 x6_1).f1.f0), .int .u64 ((rd_T66 l0 x6_1).f1.f1), .int .u64 ((rd_T66 l0 x6_1).f1.f2)] 66 (0, 0)) (zK BK842) hb); replace BK843 := Aside0.mk (blk_below (g := gb843) (o := .cells #[.bool ((rd_T66 l1 x7_2).f0.f0), .int .u64 ((rd_T66 l1 x7_2).f0.f1), .int .u64 ((rd_T66 l1 x7_2).f0.f2), .bool ((rd_T66 l1 x7_2).f1.f0), .int .u64 ((rd_T66 l1 x7_2).f1.f1), .int .u64 ((rd_T66 l1 x7_2).f1.f2)] 66 (0, 0)) (zK BK843) hb); replace HB := Aside0.mk (below_step (zB HB) hb); (try clear hb); obtain ⟨hcz34_0, hcz34_1, hcz34_2, hcz34_3, hcz34_4, hcz34_5⟩ := zc6 BK842; obtain ⟨hfz34_0, hfz34_1, hfz34_2, hfz34_3, hfz34_4, hfz34_5⟩ := zf6 BK842; obtain ⟨hcz35_0, hcz35_1, hcz35_2, hcz35_3, hcz35_4, hcz35_5⟩ := zc6 BK843; obtain ⟨hfz35_0, hfz35_1, hfz35_2, hfz35_3, hfz35_4, hfz35_5⟩ := zf6 BK843))
                    go_meet
                    case rel => exact ⟨_, ((((rd_T66 l0 x6_1).f0.f0) != ((rd_T66 l1 x7_2).f0.f0))), (by first | rfl | (simp; done) | (simp [*]; done)), H', ⟨by have := HK1.out; have := HK2.out; first | omega | exact Nat.le_refl _⟩, ⟨zR HO_5⟩, ⟨zK BK842⟩, ⟨zK BK843⟩, ⟨zB HB⟩⟩
                  · replace c28 := Bool.eq_false_iff.mpr c28
                    subst c28
                    rw [if_neg zF] at H
                    have H' := Aside0.mk H
                    clear H
                    have hnb36 := NB842_843.out
                    have hnc36 := NB843_842.out
                    obtain ⟨hcz37_0, hcz37_1, hcz37_2, hcz37_3, hcz37_4, hcz37_5⟩ := zc6 BK842
                    obtain ⟨hfz37_0, hfz37_1, hfz37_2, hfz37_3, hfz37_4, hfz37_5⟩ := zf6 BK842
                    go_wp2_with (first | ((with_reducible refine gate_callee (f := 78) rfl ?_); refine goesL_ (some 31) rfl rfl Try.func78 (by kernel_rfl) rfl #[.agg #[.bool ((rd_T66 l0 x6_1).f0.f0), .int .u64 ((rd_T66 l0 x6_1).f0.f1), .int .u64 ((rd_T66 l0 x6_1).f0.f2), .bool ((rd_T66 l0 x6_1).f1.f0), .int .u64 ((rd_T66 l0 x6_1).f1.f1), .int .u64 ((rd_T66 l0 x6_1).f1.f2)]] rfl (by (try simp only [List.map_toArray, List.map_cons, List.map_nil]); first | done | rfl | (simp only [List.length_drop, List.length_take]; rfl)) ?_; (with_reducible refine (intrusionref07_Some.calls ((rd_T66 l0 x6_1).f0.f0) ((rd_T66 l0 x6_1).f0.f1) ((rd_T66 l0 x6_1).f0.f2) ((rd_T66 l0 x6_1).f1.f0) ((rd_T66 l0 x6_1).f1.f1) ((rd_T66 l0 x6_1).f1.f2) true _ A25.out).mono ?_); rintro e w38 ⟨rfl, hb⟩; refine ⟨_, rfl, ?_⟩; replace HO_5 := Aside0.mk (Kd.R_below (zQ (Kd.R_mono (Kd.R_mono (Kd.R_far (p := ⟨gb843, 5, none⟩) (Kd.R_far (p := ⟨gb843, 4, none⟩) (Kd.R_far (p := ⟨gb843, 3, none⟩) (Kd.R_far (p := ⟨gb843, 2, none⟩) (Kd.R_far (p := ⟨gb843, 1, none⟩) (Kd.R_far (p := ⟨gb843, 0, none⟩) (Kd.R_far (p := ⟨gb842, 5, none⟩) (Kd.R_far (p := ⟨gb842, 4, none⟩) (Kd.R_far (p := ⟨gb842, 3, none⟩) (Kd.R_far (p := ⟨gb842, 2, none⟩) (Kd.R_far (p := ⟨gb842, 1, none⟩) (Kd.R_far (p := ⟨gb842, 0, none⟩) (Kd.R_mono (Kd.R_mono HO_5.out (fun k_ hk => (⟨hk, hk.1⟩ : _ ∧ k_ ≠ gb842))) (fun k_ hk => (⟨hk, hk.1.2⟩ : _ ∧ k_ ≠ gb843))) (fun _ hk => hk.1.2) (.bool ((rd_T66 l0 x6_1).f0.f0))) (fun _ hk => hk.1.2) (.int .u64 ((rd_T66 l0 x6_1).f0.f1))) (fun _ hk => hk.1.2) (.int .u64 ((rd_T66 l0 x6_1).f0.f2))) (fun _ hk => hk.1.2) (.bool ((rd_T66 l0 x6_1).f1.f0))) (fun _ hk => hk.1.2) (.int .u64 ((rd_T66 l0 x6_1).f1.f1))) (fun _ hk => hk.1.2) (.int .u64 ((rd_T66 l0 x6_1).f1.f2))) (fun _ hk => hk.2) (.bool ((rd_T66 l1 x7_2).f0.f0))) (fun _ hk => hk.2) (.int .u64 ((rd_T66 l1 x7_2).f0.f1))) (fun _ hk => hk.2) (.int .u64 ((rd_T66 l1 x7_2).f0.f2))) (fun _ hk => hk.2) (.bool ((rd_T66 l1 x7_2).f1.f0))) (fun _ hk => hk.2) (.int .u64 ((rd_T66 l1 x7_2).f1.f1))) (fun _ hk => hk.2) (.int .u64 ((rd_T66 l1 x7_2).f1.f2))) (fun _ h_ => h_.1)) (fun _ h_ => h_.1))) hb); replace BK842 := Aside0.mk (blk_below (g := gb842) (o := .cells #[.bool ((rd_T66 l0 x6_1).f0.f0), .int .u64 ((rd_T66 l0 x6_1).f0.f1), .int .u64 ((rd_T66 l0 x6_1).f0.f2), .bool ((rd_T66 l0 x6_1).f1.f0), .int .u64 ((rd_T66 l0 x6_1).f1.f1), .int .u64 ((rd_T66 l0 x6_1).f1.f2)] 66 (0, 0)) (by refine zL ?_; refine blk_far ?_ NB842_843.out _; refine zL ?_; refine blk_far ?_ NB842_843.out _; refine zL ?_; refine blk_far ?_ NB842_843.out _; refine zL ?_; refine blk_far ?_ NB842_843.out _; refine zL ?_; refine blk_far ?_ NB842_843.out _; refine zL ?_; refine blk_far ?_ NB842_843.out _; refine zL ?_; refine blk_put (cs := #[.bool ((rd_T66 l0 x6_1).f0.f0), .int .u64 ((rd_T66 l0 x6_1).f0.f1), .int .u64 ((rd_T66 l0 x6_1).f0.f2), .bool ((rd_T66 l0 x6_1).f1.f0), .int .u64 ((rd_T66 l0 x6_1).f1.f1), .int .u64 0]) ?_ 5 _ rfl; refine zL ?_; refine blk_put (cs := #[.bool ((rd_T66 l0 x6_1).f0.f0), .int .u64 ((rd_T66 l0 x6_1).f0.f1), .int .u64 ((rd_T66 l0 x6_1).f0.f2), .bool ((rd_T66 l0 x6_1).f1.f0), .int .u64 0, .int .u64 0]) ?_ 4 _ rfl; refine zL ?_; refine blk_put (cs := #[.bool ((rd_T66 l0 x6_1).f0.f0), .int .u64 ((rd_T66 l0 x6_1).f0.f1), .int .u64 ((rd_T66 l0 x6_1).f0.f2), .bool false, .int .u64 0, .int .u64 0]) ?_ 3 _ rfl; refine zL ?_; refine blk_put (cs := #[.bool ((rd_T66 l0 x6_1).f0.f0), .int .u64 ((rd_T66 l0 x6_1).f0.f1), .int .u64 0, .bool false, .int .u64 0, .int .u64 0]) ?_ 2 _ rfl; refine zL ?_; refine blk_put (cs := #[.bool ((rd_T66 l0 x6_1).f0.f0), .int .u64 0, .int .u64 0, .bool false, .int .u64 0, .int .u64 0]) ?_ 1 _ rfl; refine zL ?_; refine blk_put (cs := #[.bool false, .int .u64 0, .int .u64 0, .bool false, .int .u64 0, .int .u64 0]) ?_ 0 _ rfl; refine zL ?_; exact BK842.out) hb); replace BK843 := Aside0.mk (blk_below (g := gb843) (o := .cells #[.bool ((rd_T66 l1 x7_2).f0.f0), .int .u64 ((rd_T66 l1 x7_2).f0.f1), .int .u64 ((rd_T66 l1 x7_2).f0.f2), .bool ((rd_T66 l1 x7_2).f1.f0), .int .u64 ((rd_T66 l1 x7_2).f1.f1), .int .u64 ((rd_T66 l1 x7_2).f1.f2)] 66 (0, 0)) (by refine zL ?_; refine blk_put (cs := #[.bool ((rd_T66 l1 x7_2).f0.f0), .int .u64 ((rd_T66 l1 x7_2).f0.f1), .int .u64 ((rd_T66 l1 x7_2).f0.f2), .bool ((rd_T66 l1 x7_2).f1.f0), .int .u64 ((rd_T66 l1 x7_2).f1.f1), .int .u64 0]) ?_ 5 _ rfl; refine zL ?_; refine blk_put (cs := #[.bool ((rd_T66 l1 x7_2).f0.f0), .int .u64 ((rd_T66 l1 x7_2).f0.f1), .int .u64 ((rd_T66 l1 x7_2).f0.f2), .bool ((rd_T66 l1 x7_2).f1.f0), .int .u64 0, .int .u64 0]) ?_ 4 _ rfl; refine zL ?_; refine blk_put (cs := #[.bool ((rd_T66 l1 x7_2).f0.f0), .int .u64 ((rd_T66 l1 x7_2).f0.f1), .int .u64 ((rd_T66 l1 x7_2).f0.f2), .bool false, .int .u64 0, .int .u64 0]) ?_ 3 _ rfl; refine zL ?_; refine blk_put (cs := #[.bool ((rd_T66 l1 x7_2).f0.f0), .int .u64 ((rd_T66 l1 x7_2).f0.f1), .int .u64 0, .bool false, .int .u64 0, .int .u64 0]) ?_ 2 _ rfl; refine zL ?_; refine blk_put (cs := #[.bool ((rd_T66 l1 x7_2).f0.f0), .int .u64 0, .int .u64 0, .bool false, .int .u64 0, .int .u64 0]) ?_ 1 _ rfl; refine zL ?_; refine blk_put (cs := #[.bool false, .int .u64 0, .int .u64 0, .bool false, .int .u64 0, .int .u64 0]) ?_ 0 _ rfl; refine zL ?_; refine blk_far ?_ NB843_842.out _; refine zL ?_; refine blk_far ?_ NB843_842.out _; refine zL ?_; refine blk_far ?_ NB843_842.out _; refine zL ?_; refine blk_far ?_ NB843_842.out _; refine zL ?_; refine blk_far ?_ NB843_842.out _; refine zL ?_; refine blk_far ?_ NB843_842.out _; refine zL ?_; exact BK843.out) hb); replace HB := Aside0.mk (below_step (zB HB) hb); (try clear hb); obtain ⟨hcz39_0, hcz39_1, hcz39_2, hcz39_3, hcz39_4, hcz39_5⟩ := zc6 BK843; obtain ⟨hfz39_0, hfz39_1, hfz39_2, hfz39_3, hfz39_4, hfz39_5⟩ := zf6 BK843) | (go_at_call 78; (with_reducible refine (intrusionref07_Some.calls ((rd_T66 l1 x7_2).f0.f0) ((rd_T66 l1 x7_2).f0.f1) ((rd_T66 l1 x7_2).f0.f2) ((rd_T66 l1 x7_2).f1.f0) ((rd_T66 l1 x7_2).f1.f1) ((rd_T66 l1 x7_2).f1.f2) false _ A27.out).mono ?_); rintro e w40 ⟨rfl, hb⟩; replace HO_5 := Aside0.mk (Kd.R_below (zR HO_5) hb); replace BK842 := Aside0.mk (blk_below (g := gb842) (o := .cells #[.bool ((rd_T66 l0 x6_1).f0.f0), .int .u64 ((rd_T66 l0 x6_1).f0.f1), .int .u64 ((rd_T66 l0 x6_1).f0.f2), .bool ((rd_T66 l0 x6_1).f1.f0), .int .u64 ((rd_T66 l0 x6_1).f1.f1), .int .u64 ((rd_T66 l0 x6_1).f1.f2)] 66 (0, 0)) (zK BK842) hb); replace BK843 := Aside0.mk (blk_below (g := gb843) (o := .cells #[.bool ((rd_T66 l1 x7_2).f0.f0), .int .u64 ((rd_T66 l1 x7_2).f0.f1), .int .u64 ((rd_T66 l1 x7_2).f0.f2), .bool ((rd_T66 l1 x7_2).f1.f0), .int .u64 ((rd_T66 l1 x7_2).f1.f1), .int .u64 ((rd_T66 l1 x7_2).f1.f2)] 66 (0, 0)) (zK BK843) hb); replace HB := Aside0.mk (below_step (zB HB) hb); (try clear hb)))
                    go_meet
                    case rel => exact ⟨_, (true), (by first | rfl | (simp; done) | (simp [*]; done)), H', ⟨by have := HK1.out; have := HK2.out; first | omega | exact Nat.le_refl _⟩, ⟨zR HO_5⟩, ⟨zK BK842⟩, ⟨zK BK843⟩, ⟨zB HB⟩⟩
                · replace c26 := Bool.eq_false_iff.mpr c26
                  subst c26
                  rw [if_neg zF] at H
                  have H' := Aside0.mk H
                  clear H
                  have hnb41 := NB842_843.out
                  have hnc41 := NB843_842.out
                  obtain ⟨hcz42_0, hcz42_1, hcz42_2, hcz42_3, hcz42_4, hcz42_5⟩ := zc6 BK842
                  obtain ⟨hfz42_0, hfz42_1, hfz42_2, hfz42_3, hfz42_4, hfz42_5⟩ := zf6 BK842
                  go_wp2_with (first | ((with_reducible refine gate_callee (f := 78) rfl ?_); refine goesL_ (some 31) rfl rfl Try.func78 (by kernel_rfl) rfl #[.agg #[.bool ((rd_T66 l0 x6_1).f0.f0), .int .u64 ((rd_T66 l0 x6_1).f0.f1), .int .u64 ((rd_T66 l0 x6_1).f0.f2), .bool ((rd_T66 l0 x6_1).f1.f0), .int .u64 ((rd_T66 l0 x6_1).f1.f1), .int .u64 ((rd_T66 l0 x6_1).f1.f2)]] rfl (by (try simp only [List.map_toArray, List.map_cons, List.map_nil]); first | done | rfl | (simp only [List.length_drop, List.length_take]; rfl)) ?_; (with_reducible refine (intrusionref07_Some.calls ((rd_T66 l0 x6_1).f0.f0) ((rd_T66 l0 x6_1).f0.f1) ((rd_T66 l0 x6_1).f0.f2) ((rd_T66 l0 x6_1).f1.f0) ((rd_T66 l0 x6_1).f1.f1) ((rd_T66 l0 x6_1).f1.f2) false _ A25.out).mono ?_); rintro e w43 ⟨rfl, hb⟩; refine ⟨_, rfl, ?_⟩; replace HO_5 := Aside0.mk (Kd.R_below (zQ (Kd.R_mono (Kd.R_mono (Kd.R_far (p := ⟨gb843, 5, none⟩) (Kd.R_far (p := ⟨gb843, 4, none⟩) (Kd.R_far (p := ⟨gb843, 3, none⟩) (Kd.R_far (p := ⟨gb843, 2, none⟩) (Kd.R_far (p := ⟨gb843, 1, none⟩) (Kd.R_far (p := ⟨gb843, 0, none⟩) (Kd.R_far (p := ⟨gb842, 5, none⟩) (Kd.R_far (p := ⟨gb842, 4, none⟩) (Kd.R_far (p := ⟨gb842, 3, none⟩) (Kd.R_far (p := ⟨gb842, 2, none⟩) (Kd.R_far (p := ⟨gb842, 1, none⟩) (Kd.R_far (p := ⟨gb842, 0, none⟩) (Kd.R_mono (Kd.R_mono HO_5.out (fun k_ hk => (⟨hk, hk.1⟩ : _ ∧ k_ ≠ gb842))) (fun k_ hk => (⟨hk, hk.1.2⟩ : _ ∧ k_ ≠ gb843))) (fun _ hk => hk.1.2) (.bool ((rd_T66 l0 x6_1).f0.f0))) (fun _ hk => hk.1.2) (.int .u64 ((rd_T66 l0 x6_1).f0.f1))) (fun _ hk => hk.1.2) (.int .u64 ((rd_T66 l0 x6_1).f0.f2))) (fun _ hk => hk.1.2) (.bool ((rd_T66 l0 x6_1).f1.f0))) (fun _ hk => hk.1.2) (.int .u64 ((rd_T66 l0 x6_1).f1.f1))) (fun _ hk => hk.1.2) (.int .u64 ((rd_T66 l0 x6_1).f1.f2))) (fun _ hk => hk.2) (.bool ((rd_T66 l1 x7_2).f0.f0))) (fun _ hk => hk.2) (.int .u64 ((rd_T66 l1 x7_2).f0.f1))) (fun _ hk => hk.2) (.int .u64 ((rd_T66 l1 x7_2).f0.f2))) (fun _ hk => hk.2) (.bool ((rd_T66 l1 x7_2).f1.f0))) (fun _ hk => hk.2) (.int .u64 ((rd_T66 l1 x7_2).f1.f1))) (fun _ hk => hk.2) (.int .u64 ((rd_T66 l1 x7_2).f1.f2))) (fun _ h_ => h_.1)) (fun _ h_ => h_.1))) hb); replace BK842 := Aside0.mk (blk_below (g := gb842) (o := .cells #[.bool ((rd_T66 l0 x6_1).f0.f0), .int .u64 ((rd_T66 l0 x6_1).f0.f1), .int .u64 ((rd_T66 l0 x6_1).f0.f2), .bool ((rd_T66 l0 x6_1).f1.f0), .int .u64 ((rd_T66 l0 x6_1).f1.f1), .int .u64 ((rd_T66 l0 x6_1).f1.f2)] 66 (0, 0)) (by refine zL ?_; refine blk_far ?_ NB842_843.out _; refine zL ?_; refine blk_far ?_ NB842_843.out _; refine zL ?_; refine blk_far ?_ NB842_843.out _; refine zL ?_; refine blk_far ?_ NB842_843.out _; refine zL ?_; refine blk_far ?_ NB842_843.out _; refine zL ?_; refine blk_far ?_ NB842_843.out _; refine zL ?_; refine blk_put (cs := #[.bool ((rd_T66 l0 x6_1).f0.f0), .int .u64 ((rd_T66 l0 x6_1).f0.f1), .int .u64 ((rd_T66 l0 x6_1).f0.f2), .bool ((rd_T66 l0 x6_1).f1.f0), .int .u64 ((rd_T66 l0 x6_1).f1.f1), .int .u64 0]) ?_ 5 _ rfl; refine zL ?_; refine blk_put (cs := #[.bool ((rd_T66 l0 x6_1).f0.f0), .int .u64 ((rd_T66 l0 x6_1).f0.f1), .int .u64 ((rd_T66 l0 x6_1).f0.f2), .bool ((rd_T66 l0 x6_1).f1.f0), .int .u64 0, .int .u64 0]) ?_ 4 _ rfl; refine zL ?_; refine blk_put (cs := #[.bool ((rd_T66 l0 x6_1).f0.f0), .int .u64 ((rd_T66 l0 x6_1).f0.f1), .int .u64 ((rd_T66 l0 x6_1).f0.f2), .bool false, .int .u64 0, .int .u64 0]) ?_ 3 _ rfl; refine zL ?_; refine blk_put (cs := #[.bool ((rd_T66 l0 x6_1).f0.f0), .int .u64 ((rd_T66 l0 x6_1).f0.f1), .int .u64 0, .bool false, .int .u64 0, .int .u64 0]) ?_ 2 _ rfl; refine zL ?_; refine blk_put (cs := #[.bool ((rd_T66 l0 x6_1).f0.f0), .int .u64 0, .int .u64 0, .bool false, .int .u64 0, .int .u64 0]) ?_ 1 _ rfl; refine zL ?_; refine blk_put (cs := #[.bool false, .int .u64 0, .int .u64 0, .bool false, .int .u64 0, .int .u64 0]) ?_ 0 _ rfl; refine zL ?_; exact BK842.out) hb); replace BK843 := Aside0.mk (blk_below (g := gb843) (o := .cells #[.bool ((rd_T66 l1 x7_2).f0.f0), .int .u64 ((rd_T66 l1 x7_2).f0.f1), .int .u64 ((rd_T66 l1 x7_2).f0.f2), .bool ((rd_T66 l1 x7_2).f1.f0), .int .u64 ((rd_T66 l1 x7_2).f1.f1), .int .u64 ((rd_T66 l1 x7_2).f1.f2)] 66 (0, 0)) (by refine zL ?_; refine blk_put (cs := #[.bool ((rd_T66 l1 x7_2).f0.f0), .int .u64 ((rd_T66 l1 x7_2).f0.f1), .int .u64 ((rd_T66 l1 x7_2).f0.f2), .bool ((rd_T66 l1 x7_2).f1.f0), .int .u64 ((rd_T66 l1 x7_2).f1.f1), .int .u64 0]) ?_ 5 _ rfl; refine zL ?_; refine blk_put (cs := #[.bool ((rd_T66 l1 x7_2).f0.f0), .int .u64 ((rd_T66 l1 x7_2).f0.f1), .int .u64 ((rd_T66 l1 x7_2).f0.f2), .bool ((rd_T66 l1 x7_2).f1.f0), .int .u64 0, .int .u64 0]) ?_ 4 _ rfl; refine zL ?_; refine blk_put (cs := #[.bool ((rd_T66 l1 x7_2).f0.f0), .int .u64 ((rd_T66 l1 x7_2).f0.f1), .int .u64 ((rd_T66 l1 x7_2).f0.f2), .bool false, .int .u64 0, .int .u64 0]) ?_ 3 _ rfl; refine zL ?_; refine blk_put (cs := #[.bool ((rd_T66 l1 x7_2).f0.f0), .int .u64 ((rd_T66 l1 x7_2).f0.f1), .int .u64 0, .bool false, .int .u64 0, .int .u64 0]) ?_ 2 _ rfl; refine zL ?_; refine blk_put (cs := #[.bool ((rd_T66 l1 x7_2).f0.f0), .int .u64 0, .int .u64 0, .bool false, .int .u64 0, .int .u64 0]) ?_ 1 _ rfl; refine zL ?_; refine blk_put (cs := #[.bool false, .int .u64 0, .int .u64 0, .bool false, .int .u64 0, .int .u64 0]) ?_ 0 _ rfl; refine zL ?_; refine blk_far ?_ NB843_842.out _; refine zL ?_; refine blk_far ?_ NB843_842.out _; refine zL ?_; refine blk_far ?_ NB843_842.out _; refine zL ?_; refine blk_far ?_ NB843_842.out _; refine zL ?_; refine blk_far ?_ NB843_842.out _; refine zL ?_; refine blk_far ?_ NB843_842.out _; refine zL ?_; exact BK843.out) hb); replace HB := Aside0.mk (below_step (zB HB) hb); (try clear hb)))
                  go_meet
                  case rel => exact ⟨_, (true), (by first | rfl | (simp; done) | (simp [*]; done)), H', ⟨by have := HK1.out; have := HK2.out; first | omega | exact Nat.le_refl _⟩, ⟨zR HO_5⟩, ⟨zK BK842⟩, ⟨zK BK843⟩, ⟨zB HB⟩⟩
               case rest =>
                clear HC8
                try clear c1
                try clear c2
                try clear p2
                try clear c3
                try clear c3b0
                try clear c4
                try clear c4b0
                try clear c5
                try clear c5b0
                try clear c6
                try clear c6b0
                try clear c7
                try clear c7b0
                try clear p8
                try clear q8
                try clear hx8
                try clear c26
                try clear c28
                try clear c29
                try clear c36
                try clear c41
                try clear hcz30_0
                try clear hcz30_1
                try clear hcz30_2
                try clear hcz30_3
                try clear hcz30_4
                try clear hcz30_5
                try clear hcz32_0
                try clear hcz32_1
                try clear hcz32_2
                try clear hcz32_3
                try clear hcz32_4
                try clear hcz32_5
                try clear hcz34_0
                try clear hcz34_1
                try clear hcz34_2
                try clear hcz34_3
                try clear hcz34_4
                try clear hcz34_5
                try clear hcz35_0
                try clear hcz35_1
                try clear hcz35_2
                try clear hcz35_3
                try clear hcz35_4
                try clear hcz35_5
                try clear hcz37_0
                try clear hcz37_1
                try clear hcz37_2
                try clear hcz37_3
                try clear hcz37_4
                try clear hcz37_5
                try clear hcz39_0
                try clear hcz39_1
                try clear hcz39_2
                try clear hcz39_3
                try clear hcz39_4
                try clear hcz39_5
                try clear hcz42_0
                try clear hcz42_1
                try clear hcz42_2
                try clear hcz42_3
                try clear hcz42_4
                try clear hcz42_5
                try clear hfz30_0
                try clear hfz30_1
                try clear hfz30_2
                try clear hfz30_3
                try clear hfz30_4
                try clear hfz30_5
                try clear hfz32_0
                try clear hfz32_1
                try clear hfz32_2
                try clear hfz32_3
                try clear hfz32_4
                try clear hfz32_5
                try clear hfz34_0
                try clear hfz34_1
                try clear hfz34_2
                try clear hfz34_3
                try clear hfz34_4
                try clear hfz34_5
                try clear hfz35_0
                try clear hfz35_1
                try clear hfz35_2
                try clear hfz35_3
                try clear hfz35_4
                try clear hfz35_5
                try clear hfz37_0
                try clear hfz37_1
                try clear hfz37_2
                try clear hfz37_3
                try clear hfz37_4
                try clear hfz37_5
                try clear hfz39_0
                try clear hfz39_1
                try clear hfz39_2
                try clear hfz39_3
                try clear hfz39_4
                try clear hfz39_5
                try clear hfz42_0
                try clear hfz42_1
                try clear hfz42_2
                try clear hfz42_3
                try clear hfz42_4
                try clear hfz42_5
                try clear hx840_0
                try clear hx840_1
                try clear hx840_2
                try clear hx840_3
                try clear hx840_4
                try clear hx840_5
                try clear hx841_0
                try clear hx841_1
                try clear hx841_2
                try clear hx841_3
                try clear hx841_4
                try clear hx841_5
                try clear p2
                try clear p840
                try clear p841
                try clear q840
                try clear q841
                obtain ⟨kq, x46_7, rfl, HA, HJ7, HO_5, BK842, BK843, HB⟩ := hcut
                cases kq with
                | zero => exact absurd HA.out (by simp [intrusionref07_Intersect.j2])
                | succ kj7 =>
                 have H := HA.out
                 clear HA
                 simp only [intrusionref07_Intersect.j2] at H
                 by_cases c44 : x46_7 = true
                 · subst c44
                   rw [if_pos rfl] at H
                   have H' := Aside0.mk H
                   clear H
                   go_wp2
                   go_roundg kj7
                   case measure => have := HK1.out; have := HK2.out; have := HJ7.out; omega
                   case rel => exact ⟨(x5_2), (wrap64 (x7_2 + 1)), (by first | rfl | (simp; done) | (simp [*]; done)), H', ⟨by have := HK1.out; have := HK2.out; have := HJ7.out; omega⟩, ⟨by (with_reducible repeat (first | apply Kd.R_alloc | apply Kd.R_drewN | apply Kd.R_drew)); exact Kd.R_mono HO_5.out (fun _ hk => trivial)⟩, ⟨zB HB⟩⟩
                 · replace c44 := Bool.eq_false_iff.mpr c44
                   subst c44
                   rw [if_neg zF] at H
                   replace H := Option.bind_eq_some_iff.mp H
                   obtain ⟨t846, A450, H⟩ := H
                   try dsimp only at H
                   have A45 := Aside0.mk A450
                   clear A450
                   have HC46 := Aside0.mk H
                   clear H
                   have hnb47 := NB842_843.out
                   have hnc47 := NB843_842.out
                   obtain ⟨hcz48_0, hcz48_1, hcz48_2, hcz48_3, hcz48_4, hcz48_5⟩ := zc6 BK842
                   obtain ⟨hfz48_0, hfz48_1, hfz48_2, hfz48_3, hfz48_4, hfz48_5⟩ := zf6 BK842
                   obtain ⟨hcz49_0, hcz49_1, hcz49_2, hcz49_3, hcz49_4, hcz49_5⟩ := zc6 BK843
                   obtain ⟨hfz49_0, hfz49_1, hfz49_2, hfz49_3, hfz49_4, hfz49_5⟩ := zf6 BK843
                   go_upto_if 51 with (first | ((with_reducible refine gate_callee (f := 80) rfl ?_); refine goesL_ (some 51) rfl rfl Try.func80 (by kernel_rfl) rfl #[.agg #[.bool ((rd_T66 l0 x6_1).f0.f0), .int .u64 ((rd_T66 l0 x6_1).f0.f1), .int .u64 ((rd_T66 l0 x6_1).f0.f2)], .agg #[.bool ((rd_T66 l1 x7_2).f0.f0), .int .u64 ((rd_T66 l1 x7_2).f0.f1), .int .u64 ((rd_T66 l1 x7_2).f0.f2)]] rfl (by (try simp only [List.map_toArray, List.map_cons, List.map_nil]); first | done | rfl | (simp only [List.length_drop, List.length_take]; rfl)) ?_; (with_reducible refine (intrusionref07_Before.calls ((rd_T66 l0 x6_1).f0.f0) ((rd_T66 l0 x6_1).f0.f1) ((rd_T66 l0 x6_1).f0.f2) ((rd_T66 l1 x7_2).f0.f0) ((rd_T66 l1 x7_2).f0.f1) ((rd_T66 l1 x7_2).f0.f2) t846 _ A45.out).mono ?_); rintro e w50 ⟨rfl, hb⟩; refine ⟨_, rfl, ?_⟩; replace HO_5 := Aside0.mk (Kd.R_below (zR HO_5) hb); replace BK842 := Aside0.mk (blk_below (g := gb842) (o := .cells #[.bool ((rd_T66 l0 x6_1).f0.f0), .int .u64 ((rd_T66 l0 x6_1).f0.f1), .int .u64 ((rd_T66 l0 x6_1).f0.f2), .bool ((rd_T66 l0 x6_1).f1.f0), .int .u64 ((rd_T66 l0 x6_1).f1.f1), .int .u64 ((rd_T66 l0 x6_1).f1.f2)] 66 (0, 0)) (zK BK842) hb); replace BK843 := Aside0.mk (blk_below (g := gb843) (o := .cells #[.bool ((rd_T66 l1 x7_2).f0.f0), .int .u64 ((rd_T66 l1 x7_2).f0.f1), .int .u64 ((rd_T66 l1 x7_2).f0.f2), .bool ((rd_T66 l1 x7_2).f1.f0), .int .u64 ((rd_T66 l1 x7_2).f1.f1), .int .u64 ((rd_T66 l1 x7_2).f1.f2)] 66 (0, 0)) (zK BK843) hb); replace HB := Aside0.mk (below_step (zB HB) hb); (try clear hb)))
                   (try simp only [Act.put, List.setIfInBounds_toArray, List.set_cons_zero, List.set_cons_succ])
                   go_cut [] (fun wc => ∃ (kq : Nat) (x843000_45 : Bool) (x843001_45 : Int) (x843002_45 : Int), Aside0 (intrusionref07_Intersect.j3 kq l0 l1 x5_2 x6_1 x7_2 x843000_45 x843001_45 x843002_45 ((rd_T66 l0 x6_1).f1.f0) ((rd_T66 l0 x6_1).f1.f1) ((rd_T66 l0 x6_1).f1.f2) ((rd_T66 l1 x7_2).f0.f0) ((rd_T66 l1 x7_2).f0.f1) ((rd_T66 l1 x7_2).f0.f2) ((rd_T66 l1 x7_2).f1.f0) ((rd_T66 l1 x7_2).f1.f1) ((rd_T66 l1 x7_2).f1.f2) = some r) ∧ Aside0 (kq ≤ kj7) ∧ Aside0 (Kd.R k66 66 wc w.heap.size (fun k_ => k_ ≠ gb842 ∧ k_ ≠ gb843) u5 x5_2) ∧ Aside0 (wc.heap[gb842]? = some (.cells #[.bool x843000_45, .int .u64 x843001_45, .int .u64 x843002_45, .bool ((rd_T66 l0 x6_1).f1.f0), .int .u64 ((rd_T66 l0 x6_1).f1.f1), .int .u64 ((rd_T66 l0 x6_1).f1.f2)] 66 (0, 0))) ∧ Aside0 (wc.heap[gb843]? = some (.cells #[.bool ((rd_T66 l1 x7_2).f0.f0), .int .u64 ((rd_T66 l1 x7_2).f0.f1), .int .u64 ((rd_T66 l1 x7_2).f0.f2), .bool ((rd_T66 l1 x7_2).f1.f0), .int .u64 ((rd_T66 l1 x7_2).f1.f1), .int .u64 ((rd_T66 l1 x7_2).f1.f2)] 66 (0, 0))) ∧ Aside0 (Below w.heap.size w wc))
                   case first =>
                    have H := HC46.out
                    clear HC46
                    by_cases c51 : t846 = true
                    · subst c51
                      rw [if_pos rfl] at H
                      have H' := Aside0.mk H
                      clear H
                      have hnb52 := NB843_842.out
                      have hnc52 := NB842_843.out
                      obtain ⟨hcz53_0, hcz53_1, hcz53_2, hcz53_3, hcz53_4, hcz53_5⟩ := zc6 BK843
                      obtain ⟨hfz53_0, hfz53_1, hfz53_2, hfz53_3, hfz53_4, hfz53_5⟩ := zf6 BK843
                      obtain ⟨hcz54_0, hcz54_1, hcz54_2, hcz54_3, hcz54_4, hcz54_5⟩ := zc6 BK842
                      obtain ⟨hfz54_0, hfz54_1, hfz54_2, hfz54_3, hfz54_4, hfz54_5⟩ := zf6 BK842
                      go_wp2
                      go_meet
                      case rel => exact ⟨_, (((rd_T66 l1 x7_2).f0.f0)), (((rd_T66 l1 x7_2).f0.f1)), (((rd_T66 l1 x7_2).f0.f2)), H', ⟨by have := HK1.out; have := HK2.out; have := HJ7.out; first | omega | exact Nat.le_refl _⟩, ⟨by (with_reducible repeat (first | apply Kd.R_alloc | apply Kd.R_drewN | apply Kd.R_drew)); exact Kd.R_mono (Kd.R_far (p := ⟨gb842, 2, none⟩) (Kd.R_far (p := ⟨gb842, 1, none⟩) (Kd.R_far (p := ⟨gb842, 0, none⟩) (Kd.R_mono HO_5.out (fun k_ hk => (⟨hk, hk.1⟩ : _ ∧ k_ ≠ gb842))) (fun _ hk => hk.2) (.bool ((rd_T66 l1 x7_2).f0.f0))) (fun _ hk => hk.2) (.int .u64 ((rd_T66 l1 x7_2).f0.f1))) (fun _ hk => hk.2) (.int .u64 ((rd_T66 l1 x7_2).f0.f2))) (fun _ hk => ⟨hk.1.1, hk.1.2⟩)⟩, ⟨by refine zL ?_; refine blk_put (cs := #[.bool ((rd_T66 l1 x7_2).f0.f0), .int .u64 ((rd_T66 l1 x7_2).f0.f1), .int .u64 ((rd_T66 l0 x6_1).f0.f2), .bool ((rd_T66 l0 x6_1).f1.f0), .int .u64 ((rd_T66 l0 x6_1).f1.f1), .int .u64 ((rd_T66 l0 x6_1).f1.f2)]) ?_ 2 _ rfl; refine zL ?_; refine blk_put (cs := #[.bool ((rd_T66 l1 x7_2).f0.f0), .int .u64 ((rd_T66 l0 x6_1).f0.f1), .int .u64 ((rd_T66 l0 x6_1).f0.f2), .bool ((rd_T66 l0 x6_1).f1.f0), .int .u64 ((rd_T66 l0 x6_1).f1.f1), .int .u64 ((rd_T66 l0 x6_1).f1.f2)]) ?_ 1 _ rfl; refine zL ?_; refine blk_put (cs := #[.bool ((rd_T66 l0 x6_1).f0.f0), .int .u64 ((rd_T66 l0 x6_1).f0.f1), .int .u64 ((rd_T66 l0 x6_1).f0.f2), .bool ((rd_T66 l0 x6_1).f1.f0), .int .u64 ((rd_T66 l0 x6_1).f1.f1), .int .u64 ((rd_T66 l0 x6_1).f1.f2)]) ?_ 0 _ rfl; refine zL ?_; exact BK842.out⟩, ⟨by refine zL ?_; refine blk_far ?_ NB843_842.out _; refine zL ?_; refine blk_far ?_ NB843_842.out _; refine zL ?_; refine blk_far ?_ NB843_842.out _; refine zL ?_; exact BK843.out⟩, ⟨zB HB⟩⟩
                    · replace c51 := Bool.eq_false_iff.mpr c51
                      subst c51
                      rw [if_neg zF] at H
                      have H' := Aside0.mk H
                      clear H
                      go_wp2
                      go_meet
                      case rel => exact ⟨_, (((rd_T66 l0 x6_1).f0.f0)), (((rd_T66 l0 x6_1).f0.f1)), (((rd_T66 l0 x6_1).f0.f2)), H', ⟨by have := HK1.out; have := HK2.out; have := HJ7.out; first | omega | exact Nat.le_refl _⟩, ⟨zR HO_5⟩, ⟨zK BK842⟩, ⟨zK BK843⟩, ⟨zB HB⟩⟩
                   case rest =>
                    clear HC46
                    try clear c1
                    try clear c2
                    try clear p2
                    try clear c3
                    try clear c3b0
                    try clear c4
                    try clear c4b0
                    try clear c5
                    try clear c5b0
                    try clear c6
                    try clear c6b0
                    try clear p6
                    try clear c7
                    try clear c7b0
                    try clear c8
                    try clear p8
                    try clear q8
                    try clear hx8
                    try clear c26
                    try clear c28
                    try clear c29
                    try clear c36
                    try clear c41
                    try clear c44
                    try clear c47
                    try clear c51
                    try clear c52
                    try clear hcz30_0
                    try clear hcz30_1
                    try clear hcz30_2
                    try clear hcz30_3
                    try clear hcz30_4
                    try clear hcz30_5
                    try clear hcz32_0
                    try clear hcz32_1
                    try clear hcz32_2
                    try clear hcz32_3
                    try clear hcz32_4
                    try clear hcz32_5
                    try clear hcz34_0
                    try clear hcz34_1
                    try clear hcz34_2
                    try clear hcz34_3
                    try clear hcz34_4
                    try clear hcz34_5
                    try clear hcz35_0
                    try clear hcz35_1
                    try clear hcz35_2
                    try clear hcz35_3
                    try clear hcz35_4
                    try clear hcz35_5
                    try clear hcz37_0
                    try clear hcz37_1
                    try clear hcz37_2
                    try clear hcz37_3
                    try clear hcz37_4
                    try clear hcz37_5
                    try clear hcz39_0
                    try clear hcz39_1
                    try clear hcz39_2
                    try clear hcz39_3
                    try clear hcz39_4
                    try clear hcz39_5
                    try clear hcz42_0
                    try clear hcz42_1
                    try clear hcz42_2
                    try clear hcz42_3
                    try clear hcz42_4
                    try clear hcz42_5
                    try clear hcz48_0
                    try clear hcz48_1
                    try clear hcz48_2
                    try clear hcz48_3
                    try clear hcz48_4
                    try clear hcz48_5
                    try clear hcz49_0
                    try clear hcz49_1
                    try clear hcz49_2
                    try clear hcz49_3
                    try clear hcz49_4
                    try clear hcz49_5
                    try clear hcz53_0
                    try clear hcz53_1
                    try clear hcz53_2
                    try clear hcz53_3
                    try clear hcz53_4
                    try clear hcz53_5
                    try clear hcz54_0
                    try clear hcz54_1
                    try clear hcz54_2
                    try clear hcz54_3
                    try clear hcz54_4
                    try clear hcz54_5
                    try clear hfz30_0
                    try clear hfz30_1
                    try clear hfz30_2
                    try clear hfz30_3
                    try clear hfz30_4
                    try clear hfz30_5
                    try clear hfz32_0
                    try clear hfz32_1
                    try clear hfz32_2
                    try clear hfz32_3
                    try clear hfz32_4
                    try clear hfz32_5
                    try clear hfz34_0
                    try clear hfz34_1
                    try clear hfz34_2
                    try clear hfz34_3
                    try clear hfz34_4
                    try clear hfz34_5
                    try clear hfz35_0
                    try clear hfz35_1
                    try clear hfz35_2
                    try clear hfz35_3
                    try clear hfz35_4
                    try clear hfz35_5
                    try clear hfz37_0
                    try clear hfz37_1
                    try clear hfz37_2
                    try clear hfz37_3
                    try clear hfz37_4
                    try clear hfz37_5
                    try clear hfz39_0
                    try clear hfz39_1
                    try clear hfz39_2
                    try clear hfz39_3
                    try clear hfz39_4
                    try clear hfz39_5
                    try clear hfz42_0
                    try clear hfz42_1
                    try clear hfz42_2
                    try clear hfz42_3
                    try clear hfz42_4
                    try clear hfz42_5
                    try clear hfz48_0
                    try clear hfz48_1
                    try clear hfz48_2
                    try clear hfz48_3
                    try clear hfz48_4
                    try clear hfz48_5
                    try clear hfz49_0
                    try clear hfz49_1
                    try clear hfz49_2
                    try clear hfz49_3
                    try clear hfz49_4
                    try clear hfz49_5
                    try clear hfz53_0
                    try clear hfz53_1
                    try clear hfz53_2
                    try clear hfz53_3
                    try clear hfz53_4
                    try clear hfz53_5
                    try clear hfz54_0
                    try clear hfz54_1
                    try clear hfz54_2
                    try clear hfz54_3
                    try clear hfz54_4
                    try clear hfz54_5
                    try clear hx840_0
                    try clear hx840_1
                    try clear hx840_2
                    try clear hx840_3
                    try clear hx840_4
                    try clear hx840_5
                    try clear hx841_0
                    try clear hx841_1
                    try clear hx841_2
                    try clear hx841_3
                    try clear hx841_4
                    try clear hx841_5
                    try clear p2
                    try clear p8
                    try clear p840
                    try clear p841
                    try clear q8
                    try clear q840
                    try clear q841
                    obtain ⟨kq, x843000_45, x843001_45, x843002_45, HA, HJ45, HO_5, BK842, BK843, HB⟩ := hcut
                    cases kq with
                    | zero => exact absurd HA.out (by simp [intrusionref07_Intersect.j3])
                    | succ kj45 =>
                     have H := HA.out
                     clear HA
                     simp only [intrusionref07_Intersect.j3] at H
                     replace H := Option.bind_eq_some_iff.mp H
                     obtain ⟨t847, A550, H⟩ := H
                     try dsimp only at H
                     have A55 := Aside0.mk A550
                     clear A550
                     have HC56 := Aside0.mk H
                     clear H
                     have hnb57 := NB843_842.out
                     have hnc57 := NB842_843.out
                     obtain ⟨hcz58_0, hcz58_1, hcz58_2, hcz58_3, hcz58_4, hcz58_5⟩ := zc6 BK843
                     obtain ⟨hfz58_0, hfz58_1, hfz58_2, hfz58_3, hfz58_4, hfz58_5⟩ := zf6 BK843
                     obtain ⟨hcz59_0, hcz59_1, hcz59_2, hcz59_3, hcz59_4, hcz59_5⟩ := zc6 BK842
                     obtain ⟨hfz59_0, hfz59_1, hfz59_2, hfz59_3, hfz59_4, hfz59_5⟩ := zf6 BK842
                     go_upto_if 59 with (first | ((with_reducible refine gate_callee (f := 80) rfl ?_); refine goesL_ (some 59) rfl rfl Try.func80 (by kernel_rfl) rfl #[.agg #[.bool ((rd_T66 l1 x7_2).f1.f0), .int .u64 ((rd_T66 l1 x7_2).f1.f1), .int .u64 ((rd_T66 l1 x7_2).f1.f2)], .agg #[.bool ((rd_T66 l0 x6_1).f1.f0), .int .u64 ((rd_T66 l0 x6_1).f1.f1), .int .u64 ((rd_T66 l0 x6_1).f1.f2)]] rfl (by (try simp only [List.map_toArray, List.map_cons, List.map_nil]); first | done | rfl | (simp only [List.length_drop, List.length_take]; rfl)) ?_; (with_reducible refine (intrusionref07_Before.calls ((rd_T66 l1 x7_2).f1.f0) ((rd_T66 l1 x7_2).f1.f1) ((rd_T66 l1 x7_2).f1.f2) ((rd_T66 l0 x6_1).f1.f0) ((rd_T66 l0 x6_1).f1.f1) ((rd_T66 l0 x6_1).f1.f2) t847 _ A55.out).mono ?_); rintro e w60 ⟨rfl, hb⟩; refine ⟨_, rfl, ?_⟩; replace HO_5 := Aside0.mk (Kd.R_below (zR HO_5) hb); replace BK842 := Aside0.mk (blk_below (g := gb842) (o := .cells #[.bool x843000_45, .int .u64 x843001_45, .int .u64 x843002_45, .bool ((rd_T66 l0 x6_1).f1.f0), .int .u64 ((rd_T66 l0 x6_1).f1.f1), .int .u64 ((rd_T66 l0 x6_1).f1.f2)] 66 (0, 0)) (zK BK842) hb); replace BK843 := Aside0.mk (blk_below (g := gb843) (o := .cells #[.bool ((rd_T66 l1 x7_2).f0.f0), .int .u64 ((rd_T66 l1 x7_2).f0.f1), .int .u64 ((rd_T66 l1 x7_2).f0.f2), .bool ((rd_T66 l1 x7_2).f1.f0), .int .u64 ((rd_T66 l1 x7_2).f1.f1), .int .u64 ((rd_T66 l1 x7_2).f1.f2)] 66 (0, 0)) (zK BK843) hb); replace HB := Aside0.mk (below_step (zB HB) hb); (try clear hb)))
                     (try simp only [Act.put, List.setIfInBounds_toArray, List.set_cons_zero, List.set_cons_succ])
                     go_cut [] (fun wc => ∃ (kq : Nat) (x843003_55 : Bool) (x843004_55 : Int) (x843005_55 : Int), Aside0 (intrusionref07_Intersect.j4 kq l0 l1 x5_2 x6_1 x7_2 x843000_45 x843001_45 x843002_45 x843003_55 x843004_55 x843005_55 = some r) ∧ Aside0 (kq ≤ kj45) ∧ Aside0 (Kd.R k66 66 wc w.heap.size (fun k_ => k_ ≠ gb842 ∧ k_ ≠ gb843) u5 x5_2) ∧ Aside0 (wc.heap[gb842]? = some (.cells #[.bool x843000_45, .int .u64 x843001_45, .int .u64 x843002_45, .bool x843003_55, .int .u64 x843004_55, .int .u64 x843005_55] 66 (0, 0))) ∧ Aside0 (wc.heap[gb843]? = some (.cells #[.bool ((rd_T66 l1 x7_2).f0.f0), .int .u64 ((rd_T66 l1 x7_2).f0.f1), .int .u64 ((rd_T66 l1 x7_2).f0.f2), .bool ((rd_T66 l1 x7_2).f1.f0), .int .u64 ((rd_T66 l1 x7_2).f1.f1), .int .u64 ((rd_T66 l1 x7_2).f1.f2)] 66 (0, 0))) ∧ Aside0 (Below w.heap.size w wc))
                     case first =>
                      have H := HC56.out
                      clear HC56
                      by_cases c61 : t847 = true
                      · subst c61
                        rw [if_pos rfl] at H
                        have H' := Aside0.mk H
                        clear H
                        have hnb62 := NB843_842.out
                        have hnc62 := NB842_843.out
                        obtain ⟨hcz63_0, hcz63_1, hcz63_2, hcz63_3, hcz63_4, hcz63_5⟩ := zc6 BK843
                        obtain ⟨hfz63_0, hfz63_1, hfz63_2, hfz63_3, hfz63_4, hfz63_5⟩ := zf6 BK843
                        obtain ⟨hcz64_0, hcz64_1, hcz64_2, hcz64_3, hcz64_4, hcz64_5⟩ := zc6 BK842
                        obtain ⟨hfz64_0, hfz64_1, hfz64_2, hfz64_3, hfz64_4, hfz64_5⟩ := zf6 BK842
                        go_wp2
                        go_meet
                        case rel => exact ⟨_, (((rd_T66 l1 x7_2).f1.f0)), (((rd_T66 l1 x7_2).f1.f1)), (((rd_T66 l1 x7_2).f1.f2)), H', ⟨by have := HK1.out; have := HK2.out; have := HJ7.out; have := HJ45.out; first | omega | exact Nat.le_refl _⟩, ⟨by (with_reducible repeat (first | apply Kd.R_alloc | apply Kd.R_drewN | apply Kd.R_drew)); exact Kd.R_mono (Kd.R_far (p := ⟨gb842, 5, none⟩) (Kd.R_far (p := ⟨gb842, 4, none⟩) (Kd.R_far (p := ⟨gb842, 3, none⟩) (Kd.R_mono HO_5.out (fun k_ hk => (⟨hk, hk.1⟩ : _ ∧ k_ ≠ gb842))) (fun _ hk => hk.2) (.bool ((rd_T66 l1 x7_2).f1.f0))) (fun _ hk => hk.2) (.int .u64 ((rd_T66 l1 x7_2).f1.f1))) (fun _ hk => hk.2) (.int .u64 ((rd_T66 l1 x7_2).f1.f2))) (fun _ hk => ⟨hk.1.1, hk.1.2⟩)⟩, ⟨by refine zL ?_; refine blk_put (cs := #[.bool x843000_45, .int .u64 x843001_45, .int .u64 x843002_45, .bool ((rd_T66 l1 x7_2).f1.f0), .int .u64 ((rd_T66 l1 x7_2).f1.f1), .int .u64 ((rd_T66 l0 x6_1).f1.f2)]) ?_ 5 _ rfl; refine zL ?_; refine blk_put (cs := #[.bool x843000_45, .int .u64 x843001_45, .int .u64 x843002_45, .bool ((rd_T66 l1 x7_2).f1.f0), .int .u64 ((rd_T66 l0 x6_1).f1.f1), .int .u64 ((rd_T66 l0 x6_1).f1.f2)]) ?_ 4 _ rfl; refine zL ?_; refine blk_put (cs := #[.bool x843000_45, .int .u64 x843001_45, .int .u64 x843002_45, .bool ((rd_T66 l0 x6_1).f1.f0), .int .u64 ((rd_T66 l0 x6_1).f1.f1), .int .u64 ((rd_T66 l0 x6_1).f1.f2)]) ?_ 3 _ rfl; refine zL ?_; exact BK842.out⟩, ⟨by refine zL ?_; refine blk_far ?_ NB843_842.out _; refine zL ?_; refine blk_far ?_ NB843_842.out _; refine zL ?_; refine blk_far ?_ NB843_842.out _; refine zL ?_; exact BK843.out⟩, ⟨zB HB⟩⟩
                      · replace c61 := Bool.eq_false_iff.mpr c61
                        subst c61
                        rw [if_neg zF] at H
                        have H' := Aside0.mk H
                        clear H
                        go_wp2
                        go_meet
                        case rel => exact ⟨_, (((rd_T66 l0 x6_1).f1.f0)), (((rd_T66 l0 x6_1).f1.f1)), (((rd_T66 l0 x6_1).f1.f2)), H', ⟨by have := HK1.out; have := HK2.out; have := HJ7.out; have := HJ45.out; first | omega | exact Nat.le_refl _⟩, ⟨zR HO_5⟩, ⟨zK BK842⟩, ⟨zK BK843⟩, ⟨zB HB⟩⟩
                     case rest =>
                      clear HC56
                      try clear c1
                      try clear c2
                      try clear p2
                      try clear c3
                      try clear c3b0
                      try clear c4
                      try clear c4b0
                      try clear c5
                      try clear c5b0
                      try clear c6
                      try clear c6b0
                      try clear p6
                      try clear c7
                      try clear c7b0
                      try clear c8
                      try clear p8
                      try clear q8
                      try clear hx8
                      try clear c26
                      try clear c28
                      try clear c29
                      try clear c36
                      try clear c41
                      try clear c44
                      try clear c47
                      try clear c51
                      try clear c52
                      try clear c57
                      try clear c61
                      try clear c62
                      try clear p64
                      try clear hcz30_0
                      try clear hcz30_1
                      try clear hcz30_2
                      try clear hcz30_3
                      try clear hcz30_4
                      try clear hcz30_5
                      try clear hcz32_0
                      try clear hcz32_1
                      try clear hcz32_2
                      try clear hcz32_3
                      try clear hcz32_4
                      try clear hcz32_5
                      try clear hcz34_0
                      try clear hcz34_1
                      try clear hcz34_2
                      try clear hcz34_3
                      try clear hcz34_4
                      try clear hcz34_5
                      try clear hcz35_0
                      try clear hcz35_1
                      try clear hcz35_2
                      try clear hcz35_3
                      try clear hcz35_4
                      try clear hcz35_5
                      try clear hcz37_0
                      try clear hcz37_1
                      try clear hcz37_2
                      try clear hcz37_3
                      try clear hcz37_4
                      try clear hcz37_5
                      try clear hcz39_0
                      try clear hcz39_1
                      try clear hcz39_2
                      try clear hcz39_3
                      try clear hcz39_4
                      try clear hcz39_5
                      try clear hcz42_0
                      try clear hcz42_1
                      try clear hcz42_2
                      try clear hcz42_3
                      try clear hcz42_4
                      try clear hcz42_5
                      try clear hcz48_0
                      try clear hcz48_1
                      try clear hcz48_2
                      try clear hcz48_3
                      try clear hcz48_4
                      try clear hcz48_5
                      try clear hcz49_0
                      try clear hcz49_1
                      try clear hcz49_2
                      try clear hcz49_3
                      try clear hcz49_4
                      try clear hcz49_5
                      try clear hcz53_0
                      try clear hcz53_1
                      try clear hcz53_2
                      try clear hcz53_3
                      try clear hcz53_4
                      try clear hcz53_5
                      try clear hcz54_0
                      try clear hcz54_1
                      try clear hcz54_2
                      try clear hcz54_3
                      try clear hcz54_4
                      try clear hcz54_5
                      try clear hcz58_0
                      try clear hcz58_1
                      try clear hcz58_2
                      try clear hcz58_3
                      try clear hcz58_4
                      try clear hcz58_5
                      try clear hcz59_0
                      try clear hcz59_1
                      try clear hcz59_2
                      try clear hcz59_3
                      try clear hcz59_4
                      try clear hcz59_5
                      try clear hcz63_0
                      try clear hcz63_1
                      try clear hcz63_2
                      try clear hcz63_3
                      try clear hcz63_4
                      try clear hcz63_5
                      try clear hcz64_0
                      try clear hcz64_1
                      try clear hcz64_2
                      try clear hcz64_3
                      try clear hcz64_4
                      try clear hcz64_5
                      try clear hfz30_0
                      try clear hfz30_1
                      try clear hfz30_2
                      try clear hfz30_3
                      try clear hfz30_4
                      try clear hfz30_5
                      try clear hfz32_0
                      try clear hfz32_1
                      try clear hfz32_2
                      try clear hfz32_3
                      try clear hfz32_4
                      try clear hfz32_5
                      try clear hfz34_0
                      try clear hfz34_1
                      try clear hfz34_2
                      try clear hfz34_3
                      try clear hfz34_4
                      try clear hfz34_5
                      try clear hfz35_0
                      try clear hfz35_1
                      try clear hfz35_2
                      try clear hfz35_3
                      try clear hfz35_4
                      try clear hfz35_5
                      try clear hfz37_0
                      try clear hfz37_1
                      try clear hfz37_2
                      try clear hfz37_3
                      try clear hfz37_4
                      try clear hfz37_5
                      try clear hfz39_0
                      try clear hfz39_1
                      try clear hfz39_2
                      try clear hfz39_3
                      try clear hfz39_4
                      try clear hfz39_5
                      try clear hfz42_0
                      try clear hfz42_1
                      try clear hfz42_2
                      try clear hfz42_3
                      try clear hfz42_4
                      try clear hfz42_5
                      try clear hfz48_0
                      try clear hfz48_1
                      try clear hfz48_2
                      try clear hfz48_3
                      try clear hfz48_4
                      try clear hfz48_5
                      try clear hfz49_0
                      try clear hfz49_1
                      try clear hfz49_2
                      try clear hfz49_3
                      try clear hfz49_4
                      try clear hfz49_5
                      try clear hfz53_0
                      try clear hfz53_1
                      try clear hfz53_2
                      try clear hfz53_3
                      try clear hfz53_4
                      try clear hfz53_5
                      try clear hfz54_0
                      try clear hfz54_1
                      try clear hfz54_2
                      try clear hfz54_3
                      try clear hfz54_4
                      try clear hfz54_5
                      try clear hfz58_0
                      try clear hfz58_1
                      try clear hfz58_2
                      try clear hfz58_3
                      try clear hfz58_4
                      try clear hfz58_5
                      try clear hfz59_0
                      try clear hfz59_1
                      try clear hfz59_2
                      try clear hfz59_3
                      try clear hfz59_4
                      try clear hfz59_5
                      try clear hfz63_0
                      try clear hfz63_1
                      try clear hfz63_2
                      try clear hfz63_3
                      try clear hfz63_4
                      try clear hfz63_5
                      try clear hfz64_0
                      try clear hfz64_1
                      try clear hfz64_2
                      try clear hfz64_3
                      try clear hfz64_4
                      try clear hfz64_5
                      try clear hx840_0
                      try clear hx840_1
                      try clear hx840_2
                      try clear hx840_3
                      try clear hx840_4
                      try clear hx840_5
                      try clear hx841_0
                      try clear hx841_1
                      try clear hx841_2
                      try clear hx841_3
                      try clear hx841_4
                      try clear hx841_5
                      try clear p2
                      try clear p6
                      try clear p8
                      try clear p840
                      try clear p841
                      try clear q8
                      try clear q840
                      try clear q841
                      obtain ⟨kq, x843003_55, x843004_55, x843005_55, HA, HJ55, HO_5, BK842, BK843, HB⟩ := hcut
                      cases kq with
                      | zero => exact absurd HA.out (by simp [intrusionref07_Intersect.j4])
                      | succ kj55 =>
                       have H := HA.out
                       clear HA
                       simp only [intrusionref07_Intersect.j4] at H
                       replace H := Option.bind_eq_some_iff.mp H
                       obtain ⟨t848, A650, H⟩ := H
                       try dsimp only at H
                       have A65 := Aside0.mk A650
                       clear A650
                       by_cases c66 : t848 = true
                       · subst c66
                         rw [if_pos rfl] at H
                         replace H := Option.bind_eq_some_iff.mp H
                         obtain ⟨t849, A670, H⟩ := H
                         try dsimp only at H
                         have A67 := Aside0.mk A670
                         clear A670
                         have H' := Aside0.mk H
                         clear H
                         have hnb68 := NB842_843.out
                         have hnc68 := NB843_842.out
                         obtain ⟨hcz69_0, hcz69_1, hcz69_2, hcz69_3, hcz69_4, hcz69_5⟩ := zc6 BK842
                         obtain ⟨hfz69_0, hfz69_1, hfz69_2, hfz69_3, hfz69_4, hfz69_5⟩ := zf6 BK842
                         go_wp2_with (first | ((with_reducible refine gate_callee (f := 78) rfl ?_); refine goesL_ (some 64) rfl rfl Try.func78 (by kernel_rfl) rfl #[.agg #[.bool x843000_45, .int .u64 x843001_45, .int .u64 x843002_45, .bool x843003_55, .int .u64 x843004_55, .int .u64 x843005_55]] rfl (by (try simp only [List.map_toArray, List.map_cons, List.map_nil]); first | done | rfl | (simp only [List.length_drop, List.length_take]; rfl)) ?_; (with_reducible refine (intrusionref07_Some.calls x843000_45 x843001_45 x843002_45 x843003_55 x843004_55 x843005_55 true _ A65.out).mono ?_); rintro e w70 ⟨rfl, hb⟩; refine ⟨_, rfl, ?_⟩; replace HO_5 := Aside0.mk (Kd.R_below (zR HO_5) hb); replace BK842 := Aside0.mk (blk_below (g := gb842) (o := .cells #[.bool x843000_45, .int .u64 x843001_45, .int .u64 x843002_45, .bool x843003_55, .int .u64 x843004_55, .int .u64 x843005_55] 66 (0, 0)) (zK BK842) hb); replace BK843 := Aside0.mk (blk_below (g := gb843) (o := .cells #[.bool ((rd_T66 l1 x7_2).f0.f0), .int .u64 ((rd_T66 l1 x7_2).f0.f1), .int .u64 ((rd_T66 l1 x7_2).f0.f2), .bool ((rd_T66 l1 x7_2).f1.f0), .int .u64 ((rd_T66 l1 x7_2).f1.f1), .int .u64 ((rd_T66 l1 x7_2).f1.f2)] 66 (0, 0)) (zK BK843) hb); replace HB := Aside0.mk (below_step (zB HB) hb); (try clear hb); obtain ⟨hcz71_0, hcz71_1, hcz71_2, hcz71_3, hcz71_4, hcz71_5⟩ := zc6 BK842; obtain ⟨hfz71_0, hfz71_1, hfz71_2, hfz71_3, hfz71_4, hfz71_5⟩ := zf6 BK842; obtain ⟨Ao72, co72, eo72⟩ := Kd.R_slice HO_5.out; subst eo72) | ((with_reducible refine gate_callee (f := 79) rfl ?_); refine goesL_ (some 67) rfl rfl Try.func79 (by kernel_rfl) rfl #[.slice Ao72 x5_2.length co72, .agg #[.bool x843000_45, .int .u64 x843001_45, .int .u64 x843002_45, .bool x843003_55, .int .u64 x843004_55, .int .u64 x843005_55]] rfl (by (try simp only [List.map_toArray, List.map_cons, List.map_nil]); first | done | rfl | (simp only [List.length_drop, List.length_take]; rfl)) ?_; (with_reducible refine (intrusionref07_add.calls kj55 _ _ x5_2 x843000_45 x843001_45 x843002_45 x843003_55 x843004_55 x843005_55 t849 _ ?side1 ?side2 A67.out).mono ?_); (case side1 => repeat (first | exact (Kd.R_reads' HO_5.out).2.2 | (with_reducible refine Kd.C_alloc ?_ _) | (with_reducible refine Kd.C_drewN ?_ _) | (with_reducible refine Kd.C_drew ?_))); (case side2 => exact (Kd.R_reads' HO_5.out).2.1); rintro e w73 ⟨v850, rfl, ho0, hb⟩; refine ⟨_, rfl, ?_⟩; have HO851 := Aside0.mk (Kd.R_lower (Kd.R_newB (Kd.R_newB (Kd.R_new' ho0 (Kd.R_lt (zR HO_5))) (g := gb842) (o := .cells #[.bool x843000_45, .int .u64 x843001_45, .int .u64 x843002_45, .bool x843003_55, .int .u64 x843004_55, .int .u64 x843005_55] 66 (0, 0)) (zK BK842)) (g := gb843) (o := .cells #[.bool ((rd_T66 l1 x7_2).f0.f0), .int .u64 ((rd_T66 l1 x7_2).f0.f1), .int .u64 ((rd_T66 l1 x7_2).f0.f2), .bool ((rd_T66 l1 x7_2).f1.f0), .int .u64 ((rd_T66 l1 x7_2).f1.f1), .int .u64 ((rd_T66 l1 x7_2).f1.f2)] 66 (0, 0)) (zK BK843)) (below_size (zB HB))); replace HO_5 := Aside0.mk (Kd.R_elder' (zR HO_5) (Kd.R_base ho0) hb); replace BK842 := Aside0.mk (blk_below (g := gb842) (o := .cells #[.bool x843000_45, .int .u64 x843001_45, .int .u64 x843002_45, .bool x843003_55, .int .u64 x843004_55, .int .u64 x843005_55] 66 (0, 0)) (zK BK842) hb); replace BK843 := Aside0.mk (blk_below (g := gb843) (o := .cells #[.bool ((rd_T66 l1 x7_2).f0.f0), .int .u64 ((rd_T66 l1 x7_2).f0.f1), .int .u64 ((rd_T66 l1 x7_2).f0.f2), .bool ((rd_T66 l1 x7_2).f1.f0), .int .u64 ((rd_T66 l1 x7_2).f1.f1), .int .u64 ((rd_T66 l1 x7_2).f1.f2)] 66 (0, 0)) (zK BK843) hb); replace HB := Aside0.mk (below_step (zB HB) hb); (try clear hb); (try clear ho0)))
                         go_roundg kj55
                         case measure => have := HK1.out; have := HK2.out; have := HJ7.out; have := HJ45.out; have := HJ55.out; omega
                         case rel => exact ⟨(t849), (wrap64 (x7_2 + 1)), (by first | rfl | (simp; done) | (simp [*]; done)), H', ⟨by have := HK1.out; have := HK2.out; have := HJ7.out; have := HJ45.out; have := HJ55.out; omega⟩, ⟨by (with_reducible repeat (first | apply Kd.R_alloc | apply Kd.R_drewN | apply Kd.R_drew)); exact Kd.R_mono HO851.out (fun _ hk => trivial)⟩, ⟨zB HB⟩⟩
                       · replace c66 := Bool.eq_false_iff.mpr c66
                         subst c66
                         rw [if_neg zF] at H
                         have H' := Aside0.mk H
                         clear H
                         have hnb74 := NB842_843.out
                         have hnc74 := NB843_842.out
                         obtain ⟨hcz75_0, hcz75_1, hcz75_2, hcz75_3, hcz75_4, hcz75_5⟩ := zc6 BK842
                         obtain ⟨hfz75_0, hfz75_1, hfz75_2, hfz75_3, hfz75_4, hfz75_5⟩ := zf6 BK842
                         go_wp2_with (first | ((with_reducible refine gate_callee (f := 78) rfl ?_); refine goesL_ (some 64) rfl rfl Try.func78 (by kernel_rfl) rfl #[.agg #[.bool x843000_45, .int .u64 x843001_45, .int .u64 x843002_45, .bool x843003_55, .int .u64 x843004_55, .int .u64 x843005_55]] rfl (by (try simp only [List.map_toArray, List.map_cons, List.map_nil]); first | done | rfl | (simp only [List.length_drop, List.length_take]; rfl)) ?_; (with_reducible refine (intrusionref07_Some.calls x843000_45 x843001_45 x843002_45 x843003_55 x843004_55 x843005_55 false _ A65.out).mono ?_); rintro e w76 ⟨rfl, hb⟩; refine ⟨_, rfl, ?_⟩; replace HO_5 := Aside0.mk (Kd.R_below (zR HO_5) hb); replace BK842 := Aside0.mk (blk_below (g := gb842) (o := .cells #[.bool x843000_45, .int .u64 x843001_45, .int .u64 x843002_45, .bool x843003_55, .int .u64 x843004_55, .int .u64 x843005_55] 66 (0, 0)) (zK BK842) hb); replace BK843 := Aside0.mk (blk_below (g := gb843) (o := .cells #[.bool ((rd_T66 l1 x7_2).f0.f0), .int .u64 ((rd_T66 l1 x7_2).f0.f1), .int .u64 ((rd_T66 l1 x7_2).f0.f2), .bool ((rd_T66 l1 x7_2).f1.f0), .int .u64 ((rd_T66 l1 x7_2).f1.f1), .int .u64 ((rd_T66 l1 x7_2).f1.f2)] 66 (0, 0)) (zK BK843) hb); replace HB := Aside0.mk (below_step (zB HB) hb); (try clear hb)))
                         go_roundg kj55
                         case measure => have := HK1.out; have := HK2.out; have := HJ7.out; have := HJ45.out; have := HJ55.out; omega
                         case rel => exact ⟨(x5_2), (wrap64 (x7_2 + 1)), (by first | rfl | (simp; done) | (simp [*]; done)), H', ⟨by have := HK1.out; have := HK2.out; have := HJ7.out; have := HJ45.out; have := HJ55.out; omega⟩, ⟨by (with_reducible repeat (first | apply Kd.R_alloc | apply Kd.R_drewN | apply Kd.R_drew)); exact Kd.R_mono HO_5.out (fun _ hk => trivial)⟩, ⟨zB HB⟩⟩
             · rw [if_neg c7] at H
               exact absurd H (by simp)
           · rw [if_neg c6] at H
             exact absurd H (by simp)
         · rw [if_neg c5] at H
           exact absurd H (by simp)
       · rw [if_neg c4] at H
         have c4b0 : decide (x7_2 < (l1.length : Int)) = false := decide_eq_false c4
         clear c4
         have H' := Aside0.mk H
         clear H
         go_wp2
         go_roundg k2
         case measure => have := HK1.out; have := HK2.out; omega
         case rel => exact ⟨(x5_2), (wrap64 (x6_1 + 1)), (by first | rfl | (simp; done) | (simp [*]; done)), H', ⟨by have := HK1.out; have := HK2.out; omega⟩, ⟨zR HO_5⟩, ⟨zB HB⟩⟩
   · rw [if_neg c3] at H
     have c3b0 : decide (x6_1 < (l0.length : Int)) = false := decide_eq_false c3
     clear c3
     obtain rfl := Option.some.inj H
     go_wp2
     go_ret
     exact ⟨_, by first | rfl | (simp [errW_none, errW_some] <;> rfl) | (simp [*, errW_none, errW_some] <;> rfl), by (with_reducible repeat (first | apply Kd.R_alloc | apply Kd.R_drewN | apply Kd.R_drew)); exact HO_5.out, by repeat (first | (with_reducible first | exact HB.out | apply below_alloc | apply pw_below_drewN | apply below_drew1) | exact HB.out)⟩
end Go.Proofs.Ytcgfpffgiimgmaa.Q
end

section
namespace Go.Proofs.Ytcgfpffgiimgmaa.Q
open Go.RowKit Go.Proofs.YtcgfpffgiimgmaaW.PrintWords Go.Proofs.YtcgfpffgiimgmaaW.PrintLast Go.Proofs.YtcgfpffgiimgmaaW.PrintMore
attribute [local go_sem] max2_int min2_int max_two min_two max_three min_three max_four min_four
set_option linter.unusedVariables false
set_option linter.unusedSimpArgs false
def intrusionref07_Normal.l0 : Nat → List (S66) → List (S66) → Int → Option ((List (S66)))
  | 0, _, _, _ => none
  | k + 1, x0, x3, x4 => if x4 < (x0.length : Int) then (if 0 ≤ x4 then ((intrusionref07_Some.f ((rd_T66 x0 x4).f0.f0) ((rd_T66 x0 x4).f0.f1) ((rd_T66 x0 x4).f0.f2) ((rd_T66 x0 x4).f1.f0) ((rd_T66 x0 x4).f1.f1) ((rd_T66 x0 x4).f1.f2)).bind fun t634 => (if t634 = true then ((intrusionref07_add.f k x3 ((rd_T66 x0 x4).f0.f0) ((rd_T66 x0 x4).f0.f1) ((rd_T66 x0 x4).f0.f2) ((rd_T66 x0 x4).f1.f0) ((rd_T66 x0 x4).f1.f1) ((rd_T66 x0 x4).f1.f2)).bind fun t636 => (intrusionref07_Normal.l0 k x0 t636 (wrap64 (x4 + 1)))) else (intrusionref07_Normal.l0 k x0 x3 (wrap64 (x4 + 1))))) else (none)) else (some x3)
def intrusionref07_Normal.f (k : Nat) (l0 : List (S66)) : Option ((List (S66))) := intrusionref07_Normal.l0 k l0 ([] : List (S66)) 0
theorem intrusionref07_Normal.mono_l : ∀ k, (∀ y0 y1 y2, LeO (intrusionref07_Normal.l0 k y0 y1 y2) (intrusionref07_Normal.l0 (k + 1) y0 y1 y2))
  | 0 => fun _ _ _ r h => by simp [intrusionref07_Normal.l0] at h
  | k + 1 => by
    have ih0 := intrusionref07_Normal.mono_l k
    · intro y0 y1 y2
      unfold intrusionref07_Normal.l0
      repeat' first
      | (with_reducible exact ih0 _ _ _)
      | (with_reducible exact intrusionref07_add.mono _ _ _ _ _ _ _ _)
      | (with_reducible exact LeO.refl _)
      | (with_reducible exact LeO.none _)
      | (with_reducible refine LeO.ite ?_ ?_)
      | (with_reducible refine LeO.bind ?_ (fun _ => ?_))
      | exact ih0 _ _ _
      | exact intrusionref07_add.mono _ _ _ _ _ _ _ _
      | exact LeO.none _
      | refine LeO.ite ?_ ?_
      | refine LeO.bind ?_ (fun _ => ?_)
theorem intrusionref07_Normal.mono : ∀ a0 k, LeO (intrusionref07_Normal.f k a0) (intrusionref07_Normal.f (k + 1) a0) := by
  intro a0 k
  have ih0 := intrusionref07_Normal.mono_l k
  unfold intrusionref07_Normal.f
  repeat' first
      | (with_reducible exact ih0 _ _ _)
      | (with_reducible exact intrusionref07_add.mono _ _ _ _ _ _ _ _)
      | (with_reducible exact LeO.refl _)
      | (with_reducible exact LeO.none _)
      | (with_reducible refine LeO.ite ?_ ?_)
      | (with_reducible refine LeO.bind ?_ (fun _ => ?_))
      | exact ih0 _ _ _
      | exact intrusionref07_add.mono _ _ _ _ _ _ _ _
      | exact LeO.none _
      | refine LeO.ite ?_ ?_
      | refine LeO.bind ?_ (fun _ => ?_)
set_option maxHeartbeats 8000000 in
set_option maxRecDepth 100000 in
theorem intrusionref07_Normal.calls (k : Nat) (A0 : Option Addr) (c0 : Nat) (l0 : List (S66)) (r : List (S66)) (w : World) (hr0 : Kd.C k66 w A0 l0.length l0) (hc0 : l0.length ≤ c0) (h : intrusionref07_Normal.f k l0 = some r) :
 Calls Try.prog 39 #[.slice A0 l0.length c0] w fun e w' => ∃ v0_ : Value, e = .returned (v0_) ∧ Kd.R k66 66 w' w.heap.size (fun _ => True) v0_ r ∧ Below w.heap.size w w' := by
 have hu66 := Try.underlying66
 have HR0 := Aside0.mk hr0
 have HC0 := Aside0.mk hc0
 clear hr0 hc0
 have HB := Aside0.mk (Below.refl w.heap.size w)
 unfold intrusionref07_Normal.f at h; have H := h
 clear h
 have H' := Aside0.mk H
 clear H
 go_enter Try.func39, Try.ntmps39
 go_wp2
 go_loopg [3, 4] k (fun kq v3 v4 w' => ∃ (x3_1 : List (S66)) (x4_1 : Int), v4 = .int .i64 x4_1 ∧ Aside0 (intrusionref07_Normal.l0 kq l0 x3_1 x4_1 = some r) ∧ Aside0 (kq ≤ k) ∧ Aside0 (Kd.R k66 66 w' w.heap.size (fun _ => True) v3 x3_1) ∧ Aside0 (Below w.heap.size w w'))
 case atStart => exact ⟨(([] : List (S66))), (0), (by first | rfl | (simp; done) | (simp [*]; done)), H', ⟨Nat.le_refl _⟩, ⟨by first | exact Kd.R_nil _ _ _ _ _ | exact Kd.N_nil _ _ _ _ _ | exact Kd.V_nil _ _ _ _ _ | exact Kd.Q_nil _ _ _ _ _ | exact Kd.S_nil _ _ _ _ _⟩, ⟨zB HB⟩⟩
 case round =>
  clear H'
  obtain ⟨x3_1, x4_1, rfl, HA, HK1, HO_3, HB⟩ := hrel
  cases gk with
  | zero => exact absurd HA.out (by simp [intrusionref07_Normal.l0])
  | succ k1 =>
   have H := HA.out
   clear HA
   simp only [intrusionref07_Normal.l0] at H
   by_cases c2 : x4_1 < (l0.length : Int)
   · rw [if_pos c2] at H
     have c2b0 : decide (x4_1 < (l0.length : Int)) = true := decide_eq_true c2
     clear c2
     by_cases c3 : 0 ≤ x4_1
     · rw [if_pos c3] at H
       have c3b0 : decide (0 ≤ x4_1) = true := decide_eq_true c3
       clear c3
       replace H := Option.bind_eq_some_iff.mp H
       obtain ⟨t634, A40, H⟩ := H
       try dsimp only at H
       have A4 := Aside0.mk A40
       clear A40
       by_cases c5 : t634 = true
       · subst c5
         rw [if_pos rfl] at H
         replace H := Option.bind_eq_some_iff.mp H
         obtain ⟨t636, A60, H⟩ := H
         try dsimp only at H
         have A6 := Aside0.mk A60
         clear A60
         have H' := Aside0.mk H
         clear H
         have p633 : 0 ≤ (x4_1 : Int) := za
         have q633 : x4_1 < (l0.length : Int) := za
         obtain ⟨ad633, e633, hx633_0, hx633_1, hx633_2, hx633_3, hx633_4, hx633_5⟩ := at_T66 HR0.out x4_1 p633 q633
         cases e633
         replace hx633_0 := zh HB hx633_0
         replace hx633_1 := zh HB hx633_1
         replace hx633_2 := zh HB hx633_2
         replace hx633_3 := zh HB hx633_3
         replace hx633_4 := zh HB hx633_4
         replace hx633_5 := zh HB hx633_5
         replace p633 := eq_true p633
         replace q633 := eq_true q633
         go_wp2_with (first | ((with_reducible refine gate_callee (f := 78) rfl ?_); refine goesL_ (some 15) rfl rfl Try.func78 (by kernel_rfl) rfl #[.agg #[.bool ((rd_T66 l0 x4_1).f0.f0), .int .u64 ((rd_T66 l0 x4_1).f0.f1), .int .u64 ((rd_T66 l0 x4_1).f0.f2), .bool ((rd_T66 l0 x4_1).f1.f0), .int .u64 ((rd_T66 l0 x4_1).f1.f1), .int .u64 ((rd_T66 l0 x4_1).f1.f2)]] rfl (by (try simp only [List.map_toArray, List.map_cons, List.map_nil]); first | done | rfl | (simp only [List.length_drop, List.length_take]; rfl)) ?_; (with_reducible refine (intrusionref07_Some.calls ((rd_T66 l0 x4_1).f0.f0) ((rd_T66 l0 x4_1).f0.f1) ((rd_T66 l0 x4_1).f0.f2) ((rd_T66 l0 x4_1).f1.f0) ((rd_T66 l0 x4_1).f1.f1) ((rd_T66 l0 x4_1).f1.f2) true _ A4.out).mono ?_); rintro e w7 ⟨rfl, hb⟩; refine ⟨_, rfl, ?_⟩; replace HO_3 := Aside0.mk (Kd.R_below (zR HO_3) hb); replace HB := Aside0.mk (below_step (zB HB) hb); (try clear hb); have p635 : 0 ≤ (x4_1 : Int) := za; have q635 : x4_1 < (l0.length : Int) := za; obtain ⟨ad635, e635, hx635_0, hx635_1, hx635_2, hx635_3, hx635_4, hx635_5⟩ := at_T66 HR0.out x4_1 p635 q635; obtain rfl : ad633 = ad635 := (by injection e635); replace hx635_0 := zh HB hx635_0; replace hx635_1 := zh HB hx635_1; replace hx635_2 := zh HB hx635_2; replace hx635_3 := zh HB hx635_3; replace hx635_4 := zh HB hx635_4; replace hx635_5 := zh HB hx635_5; replace p635 := eq_true p635; replace q635 := eq_true q635; obtain ⟨Ao8, co8, eo8⟩ := Kd.R_slice HO_3.out; subst eo8) | ((with_reducible refine gate_callee (f := 79) rfl ?_); refine goesL_ (some 21) rfl rfl Try.func79 (by kernel_rfl) rfl #[.slice Ao8 x3_1.length co8, .agg #[.bool ((rd_T66 l0 x4_1).f0.f0), .int .u64 ((rd_T66 l0 x4_1).f0.f1), .int .u64 ((rd_T66 l0 x4_1).f0.f2), .bool ((rd_T66 l0 x4_1).f1.f0), .int .u64 ((rd_T66 l0 x4_1).f1.f1), .int .u64 ((rd_T66 l0 x4_1).f1.f2)]] rfl (by (try simp only [List.map_toArray, List.map_cons, List.map_nil]); first | done | rfl | (simp only [List.length_drop, List.length_take]; rfl)) ?_; (with_reducible refine (intrusionref07_add.calls k1 _ _ x3_1 ((rd_T66 l0 x4_1).f0.f0) ((rd_T66 l0 x4_1).f0.f1) ((rd_T66 l0 x4_1).f0.f2) ((rd_T66 l0 x4_1).f1.f0) ((rd_T66 l0 x4_1).f1.f1) ((rd_T66 l0 x4_1).f1.f2) t636 _ ?side1 ?side2 A6.out).mono ?_); (case side1 => repeat (first | exact (Kd.R_reads' HO_3.out).2.2 | (with_reducible refine Kd.C_alloc ?_ _) | (with_reducible refine Kd.C_drewN ?_ _) | (with_reducible refine Kd.C_drew ?_))); (case side2 => exact (Kd.R_reads' HO_3.out).2.1); rintro e w9 ⟨v637, rfl, ho0, hb⟩; refine ⟨_, rfl, ?_⟩; have HO638 := Aside0.mk (Kd.R_lower (Kd.R_new' ho0 (Kd.R_lt (zR HO_3))) (below_size (zB HB))); replace HO_3 := Aside0.mk (Kd.R_elder' (zR HO_3) (Kd.R_base ho0) hb); replace HB := Aside0.mk (below_step (zB HB) hb); (try clear hb); (try clear ho0)))
         go_roundg k1
         case measure => have := HK1.out; omega
         case rel => exact ⟨(t636), (wrap64 (x4_1 + 1)), (by first | rfl | (simp; done) | (simp [*]; done)), H', ⟨by have := HK1.out; omega⟩, ⟨by (with_reducible repeat (first | apply Kd.R_alloc | apply Kd.R_drewN | apply Kd.R_drew)); exact Kd.R_mono HO638.out (fun _ hk => trivial)⟩, ⟨zB HB⟩⟩
       · replace c5 := Bool.eq_false_iff.mpr c5
         subst c5
         rw [if_neg zF] at H
         have H' := Aside0.mk H
         clear H
         have p633 : 0 ≤ (x4_1 : Int) := za
         have q633 : x4_1 < (l0.length : Int) := za
         obtain ⟨ad633, e633, hx633_0, hx633_1, hx633_2, hx633_3, hx633_4, hx633_5⟩ := at_T66 HR0.out x4_1 p633 q633
         cases e633
         replace hx633_0 := zh HB hx633_0
         replace hx633_1 := zh HB hx633_1
         replace hx633_2 := zh HB hx633_2
         replace hx633_3 := zh HB hx633_3
         replace hx633_4 := zh HB hx633_4
         replace hx633_5 := zh HB hx633_5
         replace p633 := eq_true p633
         replace q633 := eq_true q633
         go_wp2_with (first | ((with_reducible refine gate_callee (f := 78) rfl ?_); refine goesL_ (some 15) rfl rfl Try.func78 (by kernel_rfl) rfl #[.agg #[.bool ((rd_T66 l0 x4_1).f0.f0), .int .u64 ((rd_T66 l0 x4_1).f0.f1), .int .u64 ((rd_T66 l0 x4_1).f0.f2), .bool ((rd_T66 l0 x4_1).f1.f0), .int .u64 ((rd_T66 l0 x4_1).f1.f1), .int .u64 ((rd_T66 l0 x4_1).f1.f2)]] rfl (by (try simp only [List.map_toArray, List.map_cons, List.map_nil]); first | done | rfl | (simp only [List.length_drop, List.length_take]; rfl)) ?_; (with_reducible refine (intrusionref07_Some.calls ((rd_T66 l0 x4_1).f0.f0) ((rd_T66 l0 x4_1).f0.f1) ((rd_T66 l0 x4_1).f0.f2) ((rd_T66 l0 x4_1).f1.f0) ((rd_T66 l0 x4_1).f1.f1) ((rd_T66 l0 x4_1).f1.f2) false _ A4.out).mono ?_); rintro e w10 ⟨rfl, hb⟩; refine ⟨_, rfl, ?_⟩; replace HO_3 := Aside0.mk (Kd.R_below (zR HO_3) hb); replace HB := Aside0.mk (below_step (zB HB) hb); (try clear hb)))
         go_roundg k1
         case measure => have := HK1.out; omega
         case rel => exact ⟨(x3_1), (wrap64 (x4_1 + 1)), (by first | rfl | (simp; done) | (simp [*]; done)), H', ⟨by have := HK1.out; omega⟩, ⟨zR HO_3⟩, ⟨zB HB⟩⟩
     · rw [if_neg c3] at H
       exact absurd H (by simp)
   · rw [if_neg c2] at H
     have c2b0 : decide (x4_1 < (l0.length : Int)) = false := decide_eq_false c2
     clear c2
     obtain rfl := Option.some.inj H
     go_wp2
     go_ret
     exact ⟨_, by first | rfl | (simp [errW_none, errW_some] <;> rfl) | (simp [*, errW_none, errW_some] <;> rfl), by (with_reducible repeat (first | apply Kd.R_alloc | apply Kd.R_drewN | apply Kd.R_drew)); exact HO_3.out, by repeat (first | (with_reducible first | exact HB.out | apply below_alloc | apply pw_below_drewN | apply below_drew1) | exact HB.out)⟩
end Go.Proofs.Ytcgfpffgiimgmaa.Q
end

section
namespace Go.Proofs.Ytcgfpffgiimgmaa.Q
open Go.RowKit Go.Proofs.YtcgfpffgiimgmaaW.PrintWords Go.Proofs.YtcgfpffgiimgmaaW.PrintLast Go.Proofs.YtcgfpffgiimgmaaW.PrintMore
attribute [local go_sem] max2_int min2_int max_two min_two max_three min_three max_four min_four
set_option linter.unusedVariables false
set_option linter.unusedSimpArgs false
def intrusionref07_All.f  : Option ((List (S66))) := some (([(⟨(⟨false, 0, 0⟩ : S36), (⟨false, 0, 4294967295⟩ : S36)⟩ : S66), (⟨(⟨true, 0, 0⟩ : S36), (⟨true, 18446744073709551615, 18446744073709551615⟩ : S36)⟩ : S66)] : List (S66)))
set_option maxHeartbeats 8000000 in
set_option maxRecDepth 100000 in
theorem intrusionref07_All.calls  (r : List (S66)) (w : World) (h : intrusionref07_All.f  = some r) :
 Calls Try.prog 45 #[] w fun e w' => ∃ v0_ : Value, e = .returned (v0_) ∧ Kd.R k66 66 w' w.heap.size (fun _ => True) v0_ r ∧ Below w.heap.size w w' := by
 have hu36 := Try.underlying36
 have hu66 := Try.underlying66
 have HB := Aside0.mk (Below.refl w.heap.size w)
 unfold intrusionref07_All.f at h; have H := h
 clear h
 obtain ⟨y656, hy656⟩ : ∃ y_ : List (S66), y_ = (([(⟨(⟨false, 0, 0⟩ : S36), (⟨false, 0, 4294967295⟩ : S36)⟩ : S66), (⟨(⟨true, 0, 0⟩ : S36), (⟨true, 18446744073709551615, 18446744073709551615⟩ : S36)⟩ : S66)] : List (S66))) := ⟨_, rfl⟩
 rw [← hy656] at H; try dsimp only [Option.bind_some] at H
 have Ny656 := Aside0.mk hy656
 clear hy656
 obtain rfl := Option.some.inj H
 go_enter Try.func45, Try.ntmps45
 go_wp2_with (first | ((with_reducible refine gate_dst (N := 10) rfl ?_); refine Kd.R_lit k66 _ 66 ?hg (N := 10) ?hd (xs := ([(⟨(⟨false, 0, 0⟩ : S36), (⟨false, 0, 4294967295⟩ : S36)⟩ : S66), (⟨(⟨true, 0, 0⟩ : S36), (⟨true, 18446744073709551615, 18446744073709551615⟩ : S36)⟩ : S66)] : List (S66))) (inner := [.bool false, .int .u64 0, .int .u64 0, .bool false, .int .u64 0, .int .u64 4294967295, .bool true, .int .u64 0, .int .u64 0, .bool true, .int .u64 18446744073709551615, .int .u64 18446744073709551615]) (ok := fun _ => True) (okp := fun _ => True) ?hr ?hp (fun _ hk => hk) trivial (Below.refl _ _) (Nat.le_refl _) (by simp) ?_; (case hd => rfl); (case hg => rfl); (case hr => first | (go_simp; done) | (go_simp; rfl)); (case hp => exact (Reps.c6 (show Kd.M k66 _ _ _ (⟨(⟨false, 0, 0⟩ : S36), (⟨false, 0, 4294967295⟩ : S36)⟩ : S66) [.bool false, .int .u64 0, .int .u64 0, .bool false, .int .u64 0, .int .u64 4294967295] from (k66_mkM _ _ _ (⟨(⟨false, 0, 0⟩ : S36), (⟨false, 0, 4294967295⟩ : S36)⟩ : S66) )) (Reps.c6 (show Kd.M k66 _ _ _ (⟨(⟨true, 0, 0⟩ : S36), (⟨true, 18446744073709551615, 18446744073709551615⟩ : S36)⟩ : S66) [.bool true, .int .u64 0, .int .u64 0, .bool true, .int .u64 18446744073709551615, .int .u64 18446744073709551615] from (k66_mkM _ _ _ (⟨(⟨true, 0, 0⟩ : S36), (⟨true, 18446744073709551615, 18446744073709551615⟩ : S36)⟩ : S66) )) (Reps.none _ _)))); intro v657 w1 ho2 hb hg_ hnew_; clear hg_ hnew_; (first | rw [← Ny656.out] at ho2 | (simp only [Int.reduceToNat] at ho2; rw [← Ny656.out] at ho2)); have HO658 := Aside0.mk (Kd.R_lower ho2 (below_size (zB HB))); replace HB := Aside0.mk (below_step (zB HB) hb); clear hb ho2))
 go_ret
 exact ⟨_, by first | rfl | (simp [errW_none, errW_some] <;> rfl) | (simp [*, errW_none, errW_some] <;> rfl), by (with_reducible repeat (first | apply Kd.R_alloc | apply Kd.R_drewN | apply Kd.R_drew)); exact HO658.out, by repeat (first | (with_reducible first | exact HB.out | apply below_alloc | apply pw_below_drewN | apply below_drew1) | exact HB.out)⟩
end Go.Proofs.Ytcgfpffgiimgmaa.Q
end

section
namespace Go.Proofs.Ytcgfpffgiimgmaa.Q
open Go.RowKit Go.Proofs.YtcgfpffgiimgmaaW.PrintWords Go.Proofs.YtcgfpffgiimgmaaW.PrintLast Go.Proofs.YtcgfpffgiimgmaaW.PrintMore
attribute [local go_sem] max2_int min2_int max_two min_two max_three min_three max_four min_four
set_option linter.unusedVariables false
set_option linter.unusedSimpArgs false
mutual
def intrusionref07_Complement.l0 : Nat → List (S66) → List (S66) → List (S66) → Int → Option ((List (S66)))
  | 0, _, _, _, _ => none
  | k + 1, x3, x4, x5, x6 => if x6 < 2 then (if 0 ≤ x6 then (if x6 < (x4.length : Int) then (intrusionref07_Complement.l1 k x3 x4 x5 x6 false 0 ((rd_T66 x4 x6).f0.f0) ((rd_T66 x4 x6).f0.f1) ((rd_T66 x4 x6).f0.f2)) else (none)) else (none)) else (some x3)
def intrusionref07_Complement.l1 : Nat → List (S66) → List (S66) → List (S66) → Int → Bool → Int → Bool → Int → Int → Option ((List (S66)))
  | 0, _, _, _, _, _, _, _, _, _ => none
  | k + 1, x3, x4, x5, x6, x8, x9, x860000, x860001, x860002 => if x9 < (x5.length : Int) then (if 0 ≤ x9 then (if (((rd_T66 x5 x9).f0.f0) != x860000) = true then (intrusionref07_Complement.l1 k x3 x4 x5 x6 x8 (wrap64 (x9 + 1)) x860000 x860001 x860002) else ((intrusionref07_Before.f x860000 x860001 x860002 ((rd_T66 x5 x9).f0.f0) ((rd_T66 x5 x9).f0.f1) ((rd_T66 x5 x9).f0.f2)).bind fun t866 => (if t866 = true then ((intrusionref07_Ahead.f ((rd_T66 x5 x9).f0.f0) ((rd_T66 x5 x9).f0.f1) ((rd_T66 x5 x9).f0.f2)).bind fun bt868 => (if x3.length < 2932031007402 then (intrusionref07_Complement.j2 k (x3 ++ [(⟨(⟨x860000, x860001, x860002⟩ : S36), (⟨bt868.1, bt868.2.1, bt868.2.2⟩ : S36)⟩ : S66)]) x4 x5 x6 x9) else (none))) else (intrusionref07_Complement.j2 k x3 x4 x5 x6 x9)))) else (none)) else (if x8 = true then (intrusionref07_Complement.l0 k x3 x4 x5 (wrap64 (x6 + 1))) else (if 0 ≤ x6 then (if x6 < (x4.length : Int) then (if x3.length < 2932031007402 then (intrusionref07_Complement.l0 k (x3 ++ [(⟨(⟨x860000, x860001, x860002⟩ : S36), (⟨(rd_T66 x4 x6).f1.f0, (rd_T66 x4 x6).f1.f1, (rd_T66 x4 x6).f1.f2⟩ : S36)⟩ : S66)]) x4 x5 (wrap64 (x6 + 1))) else (none)) else (none)) else (none)))
def intrusionref07_Complement.j2 : Nat → List (S66) → List (S66) → List (S66) → Int → Int → Option ((List (S66)))
  | 0, _, _, _, _, _ => none
  | k + 1, x3, x4, x5, x6, x9 => if 0 ≤ x9 then (if x9 < (x5.length : Int) then ((intrusionref07_Last.f ((rd_T66 x5 x9).f1.f0) ((rd_T66 x5 x9).f1.f1) ((rd_T66 x5 x9).f1.f2)).bind fun t875 => ((intrusionref07_After.f ((rd_T66 x5 x9).f1.f0) ((rd_T66 x5 x9).f1.f1) ((rd_T66 x5 x9).f1.f2)).bind fun bt877 => (if t875 = true then (if 0 ≤ x6 then (if x6 < (x4.length : Int) then (intrusionref07_Complement.l1 k x3 x4 x5 x6 t875 (wrap64 (x9 + 1)) ((rd_T66 x4 x6).f1.f0) ((rd_T66 x4 x6).f1.f1) ((rd_T66 x4 x6).f1.f2)) else (none)) else (none)) else (intrusionref07_Complement.l1 k x3 x4 x5 x6 t875 (wrap64 (x9 + 1)) bt877.1 bt877.2.1 bt877.2.2)))) else (none)) else (none)
end
def intrusionref07_Complement.f (k : Nat) (l0 : List (S66)) : Option ((List (S66))) := (intrusionref07_All.f).bind fun t852 => ((intrusionref07_Normal.f k l0).bind fun t855 => (intrusionref07_Complement.l0 k ([] : List (S66)) t852 t855 0))
theorem intrusionref07_Complement.mono_l : ∀ k, (∀ y0 y1 y2 y3, LeO (intrusionref07_Complement.l0 k y0 y1 y2 y3) (intrusionref07_Complement.l0 (k + 1) y0 y1 y2 y3)) ∧ (∀ y0 y1 y2 y3 y4 y5 y6 y7 y8, LeO (intrusionref07_Complement.l1 k y0 y1 y2 y3 y4 y5 y6 y7 y8) (intrusionref07_Complement.l1 (k + 1) y0 y1 y2 y3 y4 y5 y6 y7 y8)) ∧ (∀ y0 y1 y2 y3 y4, LeO (intrusionref07_Complement.j2 k y0 y1 y2 y3 y4) (intrusionref07_Complement.j2 (k + 1) y0 y1 y2 y3 y4))
  | 0 => ⟨fun _ _ _ _ r h => by simp [intrusionref07_Complement.l0] at h, fun _ _ _ _ _ _ _ _ _ r h => by simp [intrusionref07_Complement.l1] at h, fun _ _ _ _ _ r h => by simp [intrusionref07_Complement.j2] at h⟩
  | k + 1 => by
    obtain ⟨ih0, ih1, ih2⟩ := intrusionref07_Complement.mono_l k
    refine ⟨?_, ?_, ?_⟩
    · intro y0 y1 y2 y3
      unfold intrusionref07_Complement.l0
      repeat' first
      | (with_reducible exact ih0 _ _ _ _)
      | (with_reducible exact ih1 _ _ _ _ _ _ _ _ _)
      | (with_reducible exact ih2 _ _ _ _ _)
      | (with_reducible exact intrusionref07_Normal.mono _ _)
      | (with_reducible exact LeO.refl _)
      | (with_reducible exact LeO.none _)
      | (with_reducible refine LeO.ite ?_ ?_)
      | (with_reducible refine LeO.bind ?_ (fun _ => ?_))
      | exact ih0 _ _ _ _
      | exact ih1 _ _ _ _ _ _ _ _ _
      | exact ih2 _ _ _ _ _
      | exact intrusionref07_Normal.mono _ _
      | exact LeO.none _
      | refine LeO.ite ?_ ?_
      | refine LeO.bind ?_ (fun _ => ?_)
    · intro y0 y1 y2 y3 y4 y5 y6 y7 y8
      unfold intrusionref07_Complement.l1
      repeat' first
      | (with_reducible exact ih0 _ _ _ _)
      | (with_reducible exact ih1 _ _ _ _ _ _ _ _ _)
      | (with_reducible exact ih2 _ _ _ _ _)
      | (with_reducible exact intrusionref07_Normal.mono _ _)
      | (with_reducible exact LeO.refl _)
      | (with_reducible exact LeO.none _)
      | (with_reducible refine LeO.ite ?_ ?_)
      | (with_reducible refine LeO.bind ?_ (fun _ => ?_))
      | exact ih0 _ _ _ _
      | exact ih1 _ _ _ _ _ _ _ _ _
      | exact ih2 _ _ _ _ _
      | exact intrusionref07_Normal.mono _ _
      | exact LeO.none _
      | refine LeO.ite ?_ ?_
      | refine LeO.bind ?_ (fun _ => ?_)
    · intro y0 y1 y2 y3 y4
      unfold intrusionref07_Complement.j2
      repeat' first
      | (with_reducible exact ih0 _ _ _ _)
      | (with_reducible exact ih1 _ _ _ _ _ _ _ _ _)
      | (with_reducible exact ih2 _ _ _ _ _)
      | (with_reducible exact intrusionref07_Normal.mono _ _)
      | (with_reducible exact LeO.refl _)
      | (with_reducible exact LeO.none _)
      | (with_reducible refine LeO.ite ?_ ?_)
      | (with_reducible refine LeO.bind ?_ (fun _ => ?_))
      | exact ih0 _ _ _ _
      | exact ih1 _ _ _ _ _ _ _ _ _
      | exact ih2 _ _ _ _ _
      | exact intrusionref07_Normal.mono _ _
      | exact LeO.none _
      | refine LeO.ite ?_ ?_
      | refine LeO.bind ?_ (fun _ => ?_)
theorem intrusionref07_Complement.mono : ∀ a0 k, LeO (intrusionref07_Complement.f k a0) (intrusionref07_Complement.f (k + 1) a0) := by
  intro a0 k
  obtain ⟨ih0, ih1, ih2⟩ := intrusionref07_Complement.mono_l k
  unfold intrusionref07_Complement.f
  repeat' first
      | (with_reducible exact ih0 _ _ _ _)
      | (with_reducible exact ih1 _ _ _ _ _ _ _ _ _)
      | (with_reducible exact ih2 _ _ _ _ _)
      | (with_reducible exact intrusionref07_Normal.mono _ _)
      | (with_reducible exact LeO.refl _)
      | (with_reducible exact LeO.none _)
      | (with_reducible refine LeO.ite ?_ ?_)
      | (with_reducible refine LeO.bind ?_ (fun _ => ?_))
      | exact ih0 _ _ _ _
      | exact ih1 _ _ _ _ _ _ _ _ _
      | exact ih2 _ _ _ _ _
      | exact intrusionref07_Normal.mono _ _
      | exact LeO.none _
      | refine LeO.ite ?_ ?_
      | refine LeO.bind ?_ (fun _ => ?_)
def intrusionref07_Complement.T12 : Bool × List (List Nat × List Nat) := (true, [([], []), ([], []), ([0, 1], [0, 1]), ([2], [2]), ([3], [3]), ([4], [4]), ([], []), ([6], [6]), ([5, 7], [5, 7])])
def intrusionref07_Complement.B12 : List Nat := [0, 0, 3, 7, 15, 31, 0, 64, 255]
theorem intrusionref07_Complement.tab12 : rtab .any (opsOf Try.f97 12) = intrusionref07_Complement.T12 := by kernel_rfl
theorem intrusionref07_Complement.bits12 : waitsOk intrusionref07_Complement.T12.2 intrusionref07_Complement.B12 = true := by kernel_rfl
def intrusionref07_Complement.T14 : Bool × List (List Nat × List Nat) := (true, [([], []), ([], []), ([], []), ([], []), ([2, 3], [2, 3]), ([4], [4]), ([5], [5]), ([6], [6]), ([1, 7], [1, 7]), ([8], [8]), ([0, 9, 7], [0, 9]), ([10, 10, 0, 1, 2, 3, 4, 5, 6, 7, 8, 9, 10], [0, 10])])
def intrusionref07_Complement.B14 : List Nat := [0, 0, 0, 0, 12, 28, 60, 124, 254, 510, 1023, 2047]
theorem intrusionref07_Complement.tab14 : rtab .any (opsOf Try.f97 14) = intrusionref07_Complement.T14 := by kernel_rfl
theorem intrusionref07_Complement.bits14 : waitsOk intrusionref07_Complement.T14.2 intrusionref07_Complement.B14 = true := by kernel_rfl
def intrusionref07_Complement.T20 : Bool × List (List Nat × List Nat) := (true, [([], []), ([], []), ([], []), ([], []), ([2, 3], [2, 3]), ([4], [4]), ([5], [5]), ([1, 6], [1, 6]), ([7], [7]), ([0, 8], [0, 8]), ([9, 9, 0, 1, 2, 3, 4, 5, 6, 7, 8, 9], [0, 9])])
def intrusionref07_Complement.B20 : List Nat := [0, 0, 0, 0, 12, 28, 60, 126, 254, 511, 1023]
theorem intrusionref07_Complement.tab20 : rtab .any (opsOf Try.f97 20) = intrusionref07_Complement.T20 := by kernel_rfl
theorem intrusionref07_Complement.bits20 : waitsOk intrusionref07_Complement.T20.2 intrusionref07_Complement.B20 = true := by kernel_rfl
set_option maxHeartbeats 8000000 in
set_option maxRecDepth 100000 in
theorem intrusionref07_Complement.calls (k : Nat) (A0 : Option Addr) (c0 : Nat) (l0 : List (S66)) (r : List (S66)) (w : World) (hr0 : Kd.C k66 w A0 l0.length l0) (hc0 : l0.length ≤ c0) (h : intrusionref07_Complement.f k l0 = some r) :
 Calls Try.prog 97 #[.slice A0 l0.length c0] w fun e w' => ∃ v0_ : Value, e = .returned (v0_) ∧ Kd.R k66 66 w' w.heap.size (fun _ => True) v0_ r ∧ Below w.heap.size w w' := by
 have hu36 := Try.underlying36
 have hu66 := Try.underlying66
 have HR0 := Aside0.mk hr0
 have HC0 := Aside0.mk hc0
 clear hr0 hc0
 have HB := Aside0.mk (Below.refl w.heap.size w)
 unfold intrusionref07_Complement.f at h; have H := h
 clear h
 replace H := Option.bind_eq_some_iff.mp H
 obtain ⟨t852, A20, H⟩ := H
 try dsimp only at H
 have A2 := Aside0.mk A20
 clear A20
 replace H := Option.bind_eq_some_iff.mp H
 obtain ⟨t855, A30, H⟩ := H
 try dsimp only at H
 have A3 := Aside0.mk A30
 clear A30
 have H' := Aside0.mk H
 clear H
 go_enter Try.func97, Try.ntmps97
 go_wp2_with (first | ((with_reducible refine gate_callee (f := 45) rfl ?_); refine goesL_ (some 10) rfl rfl Try.func45 (by kernel_rfl) rfl #[] rfl (by (try simp only [List.map_toArray, List.map_cons, List.map_nil]); first | done | rfl | (simp only [List.length_drop, List.length_take]; rfl)) ?_; (with_reducible refine (intrusionref07_All.calls  t852 _ A2.out).mono ?_); rintro e w4 ⟨v853, rfl, ho0, hb⟩; refine ⟨_, rfl, ?_⟩; have HO854 := Aside0.mk (Kd.R_lower ho0 (below_size (zB HB))); replace HB := Aside0.mk (below_step (zB HB) hb); (try clear hb); (try clear ho0)) | ((with_reducible refine gate_callee (f := 39) rfl ?_); refine goesL_ (some 12) rfl rfl Try.func39 (by kernel_rfl) rfl #[.slice A0 l0.length c0] rfl (by (try simp only [List.map_toArray, List.map_cons, List.map_nil]); first | done | rfl | (simp only [List.length_drop, List.length_take]; rfl)) ?_; (with_reducible refine (intrusionref07_Normal.calls k _ _ l0 t855 _ ?side1 ?side2 A3.out).mono ?_); (case side1 => repeat (first | exact (Kd.C_below HR0.out HB.out) | (with_reducible refine Kd.C_alloc ?_ _) | (with_reducible refine Kd.C_drewN ?_ _) | (with_reducible refine Kd.C_drew ?_))); (case side2 => exact HC0.out); rintro e w5 ⟨v856, rfl, ho0, hb⟩; refine ⟨_, rfl, ?_⟩; have HO857 := Aside0.mk (Kd.R_lower (Kd.R_new' ho0 (Kd.R_lt (zR HO854))) (below_size (zB HB))); replace HO854 := Aside0.mk (Kd.R_elder' (zR HO854) (Kd.R_base ho0) hb); replace HB := Aside0.mk (below_step (zB HB) hb); (try clear hb); (try clear ho0)))
 go_loopg [3, 6] k (fun kq v3 v6 w' => ∃ (x3_1 : List (S66)) (x6_1 : Int), v6 = .int .i64 x6_1 ∧ Aside0 (intrusionref07_Complement.l0 kq x3_1 t852 t855 x6_1 = some r) ∧ Aside0 (kq ≤ k) ∧ Aside0 (Kd.R k66 66 w' w.heap.size (fun k_ => some k_ ≠ (v853 : Value).ownBlock ∧ some k_ ≠ (v856 : Value).ownBlock) v3 x3_1) ∧ Aside0 (Kd.R k66 66 w' w.heap.size (fun k_ => some k_ ≠ (v3 : Value).ownBlock ∧ some k_ ≠ (v856 : Value).ownBlock) v853 t852) ∧ Aside0 (Kd.R k66 66 w' w.heap.size (fun k_ => some k_ ≠ (v3 : Value).ownBlock ∧ some k_ ≠ (v853 : Value).ownBlock) v856 t855) ∧ Aside0 (Below w.heap.size w w'))
 case atStart => exact ⟨(([] : List (S66))), (0), (by first | rfl | (simp; done) | (simp [*]; done)), H', ⟨Nat.le_refl _⟩, ⟨by first | exact Kd.R_nil _ _ _ _ _ | exact Kd.N_nil _ _ _ _ _ | exact Kd.V_nil _ _ _ _ _ | exact Kd.Q_nil _ _ _ _ _ | exact Kd.S_nil _ _ _ _ _⟩, ⟨by (with_reducible repeat (first | apply Kd.R_alloc | apply Kd.R_drewN | apply Kd.R_drew)); exact Kd.R_mono HO854.out (fun _ hk => ⟨(by simp [Value.ownBlock]), hk.2⟩)⟩, ⟨by (with_reducible repeat (first | apply Kd.R_alloc | apply Kd.R_drewN | apply Kd.R_drew)); exact Kd.R_mono HO857.out (fun _ hk => ⟨(by simp [Value.ownBlock]), hk.2⟩)⟩, ⟨zB HB⟩⟩
 case round =>
  clear H'
  try clear p2
  try clear c3
  try clear c4
  obtain ⟨x3_1, x6_1, rfl, HA, HK1, HO_3, HO_4, HO_5, HB⟩ := hrel
  cases gk with
  | zero => exact absurd HA.out (by simp [intrusionref07_Complement.l0])
  | succ k1 =>
   have H := HA.out
   clear HA
   simp only [intrusionref07_Complement.l0] at H
   by_cases c6 : x6_1 < 2
   · rw [if_pos c6] at H
     have c6b0 : decide (x6_1 < 2) = true := decide_eq_true c6
     clear c6
     by_cases c7 : 0 ≤ x6_1
     · rw [if_pos c7] at H
       have c7b0 : decide (0 ≤ x6_1) = true := decide_eq_true c7
       clear c7
       by_cases c8 : x6_1 < (t852.length : Int)
       · rw [if_pos c8] at H
         have c8b0 : decide (x6_1 < (t852.length : Int)) = true := decide_eq_true c8
         clear c8
         have H' := Aside0.mk H
         clear H
         obtain ⟨Ao9, co9, eo9⟩ := Kd.R_slice HO_4.out
         subst eo9
         have p858 : 0 ≤ (x6_1 : Int) := za
         have q858 : x6_1 < (t852.length : Int) := za
         obtain ⟨ad858, e858, hx858_0, hx858_1, hx858_2, hx858_3, hx858_4, hx858_5⟩ := at_T66 (Kd.R_reads' HO_4.out).2.2 x6_1 p858 q858
         cases e858
         replace p858 := eq_true p858
         replace q858 := eq_true q858
         go_wp2_with (first | ((with_reducible refine gate_dst (N := 7) rfl ?_); refine zx 7 #[.bool false, .int .u64 0, .int .u64 0] 36 ?_; intro gb859 hg w10 hbox hb; replace HO_3 := Aside0.mk (Kd.R_below (zR HO_3) hb); replace HO_4 := Aside0.mk (Kd.R_below (zR HO_4) hb); replace HO_5 := Aside0.mk (Kd.R_below (zR HO_5) hb); have BK859 := Aside0.mk (hbox); have GW859 := Aside0.mk ((by rw [hg]; exact (below_size (zB HB)) : w.heap.size ≤ gb859)); have GE859 := Aside0.mk ((by rw [hg]; exact (below_size (zB HB)) : w.heap.size ≤ gb859)); replace HB := Aside0.mk (below_step (zB HB) hb); clear hb hbox hg; obtain ⟨hcz11_0, hcz11_1, hcz11_2⟩ := zc3 BK859; obtain ⟨hfz11_0, hfz11_1, hfz11_2⟩ := zf3 BK859))
         go_loopg [3, 8, 9] k1 (fun kq v3 v8 v9 w' => ∃ (x3_2 : List (S66)) (x8_2 : Bool) (x9_2 : Int) (x860000_2 : Bool) (x860001_2 : Int) (x860002_2 : Int), v8 = .bool x8_2 ∧ v9 = .int .i64 x9_2 ∧ Aside0 (intrusionref07_Complement.l1 kq x3_2 t852 t855 x6_1 x8_2 x9_2 x860000_2 x860001_2 x860002_2 = some r) ∧ Aside0 (kq ≤ k1) ∧ Aside0 (Kd.R k66 66 w' w.heap.size (fun k_ => some k_ ≠ ((.slice (some ad858) t852.length co9) : Value).ownBlock ∧ some k_ ≠ (v856 : Value).ownBlock) v3 x3_2) ∧ Aside0 (Kd.R k66 66 w' w.heap.size (fun k_ => some k_ ≠ (v3 : Value).ownBlock ∧ some k_ ≠ (v856 : Value).ownBlock) (.slice (some ad858) t852.length co9) t852) ∧ Aside0 (Kd.R k66 66 w' w.heap.size (fun k_ => some k_ ≠ (v3 : Value).ownBlock ∧ some k_ ≠ ((.slice (some ad858) t852.length co9) : Value).ownBlock) v856 t855) ∧ Aside0 (w'.heap[gb859]? = some (.cells #[.bool x860000_2, .int .u64 x860001_2, .int .u64 x860002_2] 36 (0, 0))) ∧ Aside0 (Below w.heap.size w w'))
         case atStart => exact ⟨(x3_1), (false), (0), ((rd_T66 t852 x6_1).f0.f0), ((rd_T66 t852 x6_1).f0.f1), ((rd_T66 t852 x6_1).f0.f2), (by first | rfl | (simp; done) | (simp [*]; done)), (by first | rfl | (simp; done) | (simp [*]; done)), H', ⟨Nat.le_refl _⟩, ⟨by (with_reducible repeat (first | apply Kd.R_alloc | apply Kd.R_drewN | apply Kd.R_drew)); exact Kd.R_mono (Kd.R_far (p := ⟨gb859, 2, none⟩) (Kd.R_far (p := ⟨gb859, 1, none⟩) (Kd.R_far (p := ⟨gb859, 0, none⟩) (Kd.R_types HO_3.out BK859.out (by decide)) (fun _ hk => hk.2) (.bool ((rd_T66 t852 x6_1).f0.f0))) (fun _ hk => hk.2) (.int .u64 ((rd_T66 t852 x6_1).f0.f1))) (fun _ hk => hk.2) (.int .u64 ((rd_T66 t852 x6_1).f0.f2))) (fun _ hk => ⟨hk.1.1, hk.1.2⟩)⟩, ⟨by (with_reducible repeat (first | apply Kd.R_alloc | apply Kd.R_drewN | apply Kd.R_drew)); exact Kd.R_mono (Kd.R_far (p := ⟨gb859, 2, none⟩) (Kd.R_far (p := ⟨gb859, 1, none⟩) (Kd.R_far (p := ⟨gb859, 0, none⟩) (Kd.R_types HO_4.out BK859.out (by decide)) (fun _ hk => hk.2) (.bool ((rd_T66 t852 x6_1).f0.f0))) (fun _ hk => hk.2) (.int .u64 ((rd_T66 t852 x6_1).f0.f1))) (fun _ hk => hk.2) (.int .u64 ((rd_T66 t852 x6_1).f0.f2))) (fun _ hk => ⟨hk.1.1, hk.1.2⟩)⟩, ⟨by (with_reducible repeat (first | apply Kd.R_alloc | apply Kd.R_drewN | apply Kd.R_drew)); exact Kd.R_mono (Kd.R_far (p := ⟨gb859, 2, none⟩) (Kd.R_far (p := ⟨gb859, 1, none⟩) (Kd.R_far (p := ⟨gb859, 0, none⟩) (Kd.R_types HO_5.out BK859.out (by decide)) (fun _ hk => hk.2) (.bool ((rd_T66 t852 x6_1).f0.f0))) (fun _ hk => hk.2) (.int .u64 ((rd_T66 t852 x6_1).f0.f1))) (fun _ hk => hk.2) (.int .u64 ((rd_T66 t852 x6_1).f0.f2))) (fun _ hk => ⟨hk.1.1, hk.1.2⟩)⟩, ⟨by refine zL ?_; refine blk_put (cs := #[.bool ((rd_T66 t852 x6_1).f0.f0), .int .u64 ((rd_T66 t852 x6_1).f0.f1), .int .u64 0]) ?_ 2 _ rfl; refine zL ?_; refine blk_put (cs := #[.bool ((rd_T66 t852 x6_1).f0.f0), .int .u64 0, .int .u64 0]) ?_ 1 _ rfl; refine zL ?_; refine blk_put (cs := #[.bool false, .int .u64 0, .int .u64 0]) ?_ 0 _ rfl; refine zL ?_; exact BK859.out⟩, ⟨zB HB⟩⟩
         case round =>
          clear H'
          try clear p2
          try clear c3
          try clear c4
          try clear c6
          try clear c6b0
          try clear c7
          try clear c7b0
          try clear c8
          try clear c8b0
          try clear p8
          try clear q8
          try clear hx8
          try clear c9
          try clear hcz11_0
          try clear hcz11_1
          try clear hcz11_2
          try clear hfz11_0
          try clear hfz11_1
          try clear hfz11_2
          try clear hx858_0
          try clear hx858_1
          try clear hx858_2
          try clear hx858_3
          try clear hx858_4
          try clear hx858_5
          try clear p2
          try clear p858
          try clear q858
          obtain ⟨x3_2, x8_2, x9_2, x860000_2, x860001_2, x860002_2, rfl, rfl, HA, HK2, HO_3, HO_4, HO_5, BK859, HB⟩ := hrel
          cases gk with
          | zero => exact absurd HA.out (by simp [intrusionref07_Complement.l1])
          | succ k2 =>
           have H := HA.out
           clear HA
           simp only [intrusionref07_Complement.l1] at H
           by_cases c12 : x9_2 < (t855.length : Int)
           · rw [if_pos c12] at H
             have c12b0 : decide (x9_2 < (t855.length : Int)) = true := decide_eq_true c12
             clear c12
             by_cases c13 : 0 ≤ x9_2
             · rw [if_pos c13] at H
               have c13b0 : decide (0 ≤ x9_2) = true := decide_eq_true c13
               clear c13
               by_cases c14 : (((rd_T66 t855 x9_2).f0.f0) != x860000_2) = true
               · rw [if_pos c14] at H
                 have c14b0 : (((rd_T66 t855 x9_2).f0.f0) != x860000_2) = true := c14
                 (try (have c14b1 : decide (((rd_T66 t855 x9_2).f0.f0) = x860000_2) = false := by first | (simpa using c14) | exact decide_eq_true (Decidable.not_not.1 (fun hn => c14 (bne_iff_ne.2 hn))) | exact beq_iff_eq.2 (Decidable.not_not.1 (fun hn => c14 (bne_iff_ne.2 hn))) | exact decide_eq_false (bne_iff_ne.1 c14) | exact beq_eq_false_iff_ne.2 (bne_iff_ne.1 c14) | exact bne_iff_ne.1 c14))
                 (try (have c14b2 : (((rd_T66 t855 x9_2).f0.f0) == x860000_2) = false := by first | (simpa using c14) | exact decide_eq_true (Decidable.not_not.1 (fun hn => c14 (bne_iff_ne.2 hn))) | exact beq_iff_eq.2 (Decidable.not_not.1 (fun hn => c14 (bne_iff_ne.2 hn))) | exact decide_eq_false (bne_iff_ne.1 c14) | exact beq_eq_false_iff_ne.2 (bne_iff_ne.1 c14) | exact bne_iff_ne.1 c14))
                 (try (have c14b3 : ¬ (((rd_T66 t855 x9_2).f0.f0) = x860000_2) := by first | (simpa using c14) | exact decide_eq_true (Decidable.not_not.1 (fun hn => c14 (bne_iff_ne.2 hn))) | exact beq_iff_eq.2 (Decidable.not_not.1 (fun hn => c14 (bne_iff_ne.2 hn))) | exact decide_eq_false (bne_iff_ne.1 c14) | exact beq_eq_false_iff_ne.2 (bne_iff_ne.1 c14) | exact bne_iff_ne.1 c14))
                 clear c14
                 have H' := Aside0.mk H
                 clear H
                 obtain ⟨Ao15, co15, eo15⟩ := Kd.R_slice HO_5.out
                 subst eo15
                 try go_wp2
                 replace HO_3 := Aside0.mk (Kd.R_drew HO_3.out)
                 replace HO_4 := Aside0.mk (Kd.R_drew HO_4.out)
                 replace HO_5 := Aside0.mk (Kd.R_drew HO_5.out)
                 replace BK859 := Aside0.mk (blk_drew BK859.out)
                 replace HB := Aside0.mk (below_drew1 HB.out)
                 have p864 : 0 ≤ (x9_2 : Int) := za
                 have q864 : x9_2 < (t855.length : Int) := za
                 obtain ⟨ad864, e864, hx864_0, hx864_1, hx864_2, hx864_3, hx864_4, hx864_5⟩ := at_T66 (Kd.R_reads' HO_5.out).2.2 x9_2 p864 q864
                 cases e864
                 replace p864 := eq_true p864
                 replace q864 := eq_true q864
                 refine start_ (n := 9) (S := fun w' => w'.cell? ⟨gb859, 0, none⟩ = some (.bool x860000_2) ∧ w'.cell? ⟨gb859, 1, none⟩ = some (.int .u64 x860001_2) ∧ w'.cell? ⟨gb859, 2, none⟩ = some (.int .u64 x860002_2) ∧ w'.cell? (ad864.add ((x9_2).toNat * 6)) = some (.bool ((rd_T66 t855 x9_2).f0.f0)) ∧ w'.cell? ⟨(ad864.add ((x9_2).toNat * 6)).block, (ad864.add ((x9_2).toNat * 6)).off + 1, none⟩ = some (.int .u64 ((rd_T66 t855 x9_2).f0.f1)) ∧ w'.cell? ⟨(ad864.add ((x9_2).toNat * 6)).block, (ad864.add ((x9_2).toNat * 6)).off + 2, none⟩ = some (.int .u64 ((rd_T66 t855 x9_2).f0.f2)) ∧ w'.cell? ⟨(ad864.add ((x9_2).toNat * 6)).block, (ad864.add ((x9_2).toNat * 6)).off + 3, none⟩ = some (.bool ((rd_T66 t855 x9_2).f1.f0)) ∧ w'.cell? ⟨(ad864.add ((x9_2).toNat * 6)).block, (ad864.add ((x9_2).toNat * 6)).off + 4, none⟩ = some (.int .u64 ((rd_T66 t855 x9_2).f1.f1)) ∧ w'.cell? ⟨(ad864.add ((x9_2).toNat * 6)).block, (ad864.add ((x9_2).toNat * 6)).off + 5, none⟩ = some (.int .u64 ((rd_T66 t855 x9_2).f1.f2))) (ds := []) #[false, false, false, false, false, false, false, false, false] (by kernel_rfl) rfl rfl ⟨zc BK859 0, zc BK859 1, zc BK859 2, hx864_0, hx864_1, hx864_2, hx864_3, hx864_4, hx864_5⟩ (fun hHeld => ?_); refine with_tabW intrusionref07_Complement.tab12 intrusionref07_Complement.bits12 (fun HT_ HW_ => ?_)
                 generalize wr.drew = w16 at HO_3 HO_4 HO_5 BK859 HB hx864_0 hx864_1 hx864_2 hx864_3 hx864_4 hx864_5 hHeld ⊢
                 refine zp 0 28 HT_ ?_; refine zp 1 29 HT_ ?_; refine zp 2 30 HT_ ?_; refine zp 3 31 HT_ ?_; refine zp 4 32 HT_ ?_; refine zp 6 34 HT_ ?_; refine zt 5 33 HT_ HW_ hHeld ?_; refine zt 7 35 HT_ HW_ hHeld ?_; refine zp 8 36 HT_ ?_; refine zd HT_ ?_
                 try go_wp2
                 go_roundg k2
                 case measure => have := HK1.out; have := HK2.out; omega
                 case rel => exact ⟨(x3_2), (x8_2), (wrap64 (x9_2 + 1)), (x860000_2), (x860001_2), (x860002_2), (by first | rfl | (simp; done) | (simp [*]; done)), (by first | rfl | (simp; done) | (simp [*]; done)), H', ⟨by have := HK1.out; have := HK2.out; omega⟩, ⟨zR HO_3⟩, ⟨zR HO_4⟩, ⟨zR HO_5⟩, ⟨zK BK859⟩, ⟨zB HB⟩⟩
               · rw [if_neg c14] at H
                 have c14b0 : (((rd_T66 t855 x9_2).f0.f0) != x860000_2) = false := by simpa using c14
                 (try (have c14b1 : decide (((rd_T66 t855 x9_2).f0.f0) = x860000_2) = true := by first | (simpa using c14) | exact decide_eq_true (Decidable.not_not.1 (fun hn => c14 (bne_iff_ne.2 hn))) | exact beq_iff_eq.2 (Decidable.not_not.1 (fun hn => c14 (bne_iff_ne.2 hn))) | exact decide_eq_false (bne_iff_ne.1 c14) | exact beq_eq_false_iff_ne.2 (bne_iff_ne.1 c14) | exact bne_iff_ne.1 c14))
                 (try (have c14b2 : (((rd_T66 t855 x9_2).f0.f0) == x860000_2) = true := by first | (simpa using c14) | exact decide_eq_true (Decidable.not_not.1 (fun hn => c14 (bne_iff_ne.2 hn))) | exact beq_iff_eq.2 (Decidable.not_not.1 (fun hn => c14 (bne_iff_ne.2 hn))) | exact decide_eq_false (bne_iff_ne.1 c14) | exact beq_eq_false_iff_ne.2 (bne_iff_ne.1 c14) | exact bne_iff_ne.1 c14))
                 clear c14
                 replace H := Option.bind_eq_some_iff.mp H
                 obtain ⟨t866, A170, H⟩ := H
                 try dsimp only at H
                 have A17 := Aside0.mk A170
                 clear A170
                 have HC18 := Aside0.mk H
                 clear H
                 obtain ⟨Ao19, co19, eo19⟩ := Kd.R_slice HO_5.out
                 subst eo19
                 try go_wp2
                 replace HO_3 := Aside0.mk (Kd.R_drew HO_3.out)
                 replace HO_4 := Aside0.mk (Kd.R_drew HO_4.out)
                 replace HO_5 := Aside0.mk (Kd.R_drew HO_5.out)
                 replace BK859 := Aside0.mk (blk_drew BK859.out)
                 replace HB := Aside0.mk (below_drew1 HB.out)
                 have p864 : 0 ≤ (x9_2 : Int) := za
                 have q864 : x9_2 < (t855.length : Int) := za
                 obtain ⟨ad864, e864, hx864_0, hx864_1, hx864_2, hx864_3, hx864_4, hx864_5⟩ := at_T66 (Kd.R_reads' HO_5.out).2.2 x9_2 p864 q864
                 cases e864
                 replace p864 := eq_true p864
                 replace q864 := eq_true q864
                 refine start_ (n := 9) (S := fun w' => w'.cell? ⟨gb859, 0, none⟩ = some (.bool x860000_2) ∧ w'.cell? ⟨gb859, 1, none⟩ = some (.int .u64 x860001_2) ∧ w'.cell? ⟨gb859, 2, none⟩ = some (.int .u64 x860002_2) ∧ w'.cell? (ad864.add ((x9_2).toNat * 6)) = some (.bool ((rd_T66 t855 x9_2).f0.f0)) ∧ w'.cell? ⟨(ad864.add ((x9_2).toNat * 6)).block, (ad864.add ((x9_2).toNat * 6)).off + 1, none⟩ = some (.int .u64 ((rd_T66 t855 x9_2).f0.f1)) ∧ w'.cell? ⟨(ad864.add ((x9_2).toNat * 6)).block, (ad864.add ((x9_2).toNat * 6)).off + 2, none⟩ = some (.int .u64 ((rd_T66 t855 x9_2).f0.f2)) ∧ w'.cell? ⟨(ad864.add ((x9_2).toNat * 6)).block, (ad864.add ((x9_2).toNat * 6)).off + 3, none⟩ = some (.bool ((rd_T66 t855 x9_2).f1.f0)) ∧ w'.cell? ⟨(ad864.add ((x9_2).toNat * 6)).block, (ad864.add ((x9_2).toNat * 6)).off + 4, none⟩ = some (.int .u64 ((rd_T66 t855 x9_2).f1.f1)) ∧ w'.cell? ⟨(ad864.add ((x9_2).toNat * 6)).block, (ad864.add ((x9_2).toNat * 6)).off + 5, none⟩ = some (.int .u64 ((rd_T66 t855 x9_2).f1.f2))) (ds := []) #[false, false, false, false, false, false, false, false, false] (by kernel_rfl) rfl rfl ⟨zc BK859 0, zc BK859 1, zc BK859 2, hx864_0, hx864_1, hx864_2, hx864_3, hx864_4, hx864_5⟩ (fun hHeld => ?_); refine with_tabW intrusionref07_Complement.tab12 intrusionref07_Complement.bits12 (fun HT_ HW_ => ?_)
                 generalize wr.drew = w20 at HO_3 HO_4 HO_5 BK859 HB hx864_0 hx864_1 hx864_2 hx864_3 hx864_4 hx864_5 hHeld ⊢
                 refine zp 0 28 HT_ ?_; refine zp 1 29 HT_ ?_; refine zp 2 30 HT_ ?_; refine zp 3 31 HT_ ?_; refine zp 4 32 HT_ ?_; refine zp 6 34 HT_ ?_; refine zt 5 33 HT_ HW_ hHeld ?_; refine zt 7 35 HT_ HW_ hHeld ?_; refine zp 8 36 HT_ ?_; refine zd HT_ ?_
                 try go_wp2
                 replace HO_3 := Aside0.mk (Kd.R_drew HO_3.out)
                 replace HO_4 := Aside0.mk (Kd.R_drew HO_4.out)
                 replace HO_5 := Aside0.mk (Kd.R_drew HO_5.out)
                 replace BK859 := Aside0.mk (blk_drew BK859.out)
                 replace HB := Aside0.mk (below_drew1 HB.out)
                 have p865 : 0 ≤ (x9_2 : Int) := za
                 have q865 : x9_2 < (t855.length : Int) := za
                 obtain ⟨ad865, e865, hx865_0, hx865_1, hx865_2, hx865_3, hx865_4, hx865_5⟩ := at_T66 (Kd.R_reads' HO_5.out).2.2 x9_2 p865 q865
                 obtain rfl : ad864 = ad865 := (by injection e865)
                 replace p865 := eq_true p865
                 replace q865 := eq_true q865
                 refine start_ (n := 7) (S := fun w' => w'.cell? ⟨gb859, 0, none⟩ = some (.bool x860000_2) ∧ w'.cell? ⟨gb859, 1, none⟩ = some (.int .u64 x860001_2) ∧ w'.cell? ⟨gb859, 2, none⟩ = some (.int .u64 x860002_2) ∧ w'.cell? (ad864.add ((x9_2).toNat * 6)) = some (.bool ((rd_T66 t855 x9_2).f0.f0)) ∧ w'.cell? ⟨(ad864.add ((x9_2).toNat * 6)).block, (ad864.add ((x9_2).toNat * 6)).off + 1, none⟩ = some (.int .u64 ((rd_T66 t855 x9_2).f0.f1)) ∧ w'.cell? ⟨(ad864.add ((x9_2).toNat * 6)).block, (ad864.add ((x9_2).toNat * 6)).off + 2, none⟩ = some (.int .u64 ((rd_T66 t855 x9_2).f0.f2)) ∧ w'.cell? ⟨(ad864.add ((x9_2).toNat * 6)).block, (ad864.add ((x9_2).toNat * 6)).off + 3, none⟩ = some (.bool ((rd_T66 t855 x9_2).f1.f0)) ∧ w'.cell? ⟨(ad864.add ((x9_2).toNat * 6)).block, (ad864.add ((x9_2).toNat * 6)).off + 4, none⟩ = some (.int .u64 ((rd_T66 t855 x9_2).f1.f1)) ∧ w'.cell? ⟨(ad864.add ((x9_2).toNat * 6)).block, (ad864.add ((x9_2).toNat * 6)).off + 5, none⟩ = some (.int .u64 ((rd_T66 t855 x9_2).f1.f2))) (ds := []) #[false, false, false, false, false, false, false] (by kernel_rfl) rfl rfl ⟨zc BK859 0, zc BK859 1, zc BK859 2, hx865_0, hx865_1, hx865_2, hx865_3, hx865_4, hx865_5⟩ (fun hHeld => ?_)
                 generalize w20.drew = w21 at HO_3 HO_4 HO_5 BK859 HB hx865_0 hx865_1 hx865_2 hx865_3 hx865_4 hx865_5 hHeld ⊢
                 refine zp0 1 38 ?_; refine zp0 2 39 ?_; refine zp0 3 40 ?_; refine zp0 4 41 ?_; refine zt0 0 37 hHeld ?_; refine zt0 5 42 hHeld ?_; refine zo0 6 43 (fun K hK => ?_)
                 refine zg Try.func80 #[.agg #[.bool x860000_2, .int .u64 x860001_2, .int .u64 x860002_2], .agg #[.bool ((rd_T66 t855 x9_2).f0.f0), .int .u64 ((rd_T66 t855 x9_2).f0.f1), .int .u64 ((rd_T66 t855 x9_2).f0.f2)]] ?_
                 with_reducible refine (intrusionref07_Before.calls x860000_2 x860001_2 x860002_2 ((rd_T66 t855 x9_2).f0.f0) ((rd_T66 t855 x9_2).f0.f1) ((rd_T66 t855 x9_2).f0.f2) t866 _ A17.out).mono ?_
                 rintro e w22 ⟨rfl, hb⟩
                 have HS3_ := (hb.cell (World.block_lt_of_cell? _ _ (hHeld.2.2.2.1))).trans (hHeld.2.2.2.1)
                 have HS4_ := (hb.cell (World.block_lt_of_cell? _ _ (hHeld.2.2.2.2.1))).trans (hHeld.2.2.2.2.1)
                 have HS5_ := (hb.cell (World.block_lt_of_cell? _ _ (hHeld.2.2.2.2.2.1))).trans (hHeld.2.2.2.2.2.1)
                 have HS6_ := (hb.cell (World.block_lt_of_cell? _ _ (hHeld.2.2.2.2.2.2.1))).trans (hHeld.2.2.2.2.2.2.1)
                 have HS7_ := (hb.cell (World.block_lt_of_cell? _ _ (hHeld.2.2.2.2.2.2.2.1))).trans (hHeld.2.2.2.2.2.2.2.1)
                 have HS8_ := (hb.cell (World.block_lt_of_cell? _ _ (hHeld.2.2.2.2.2.2.2.2))).trans (hHeld.2.2.2.2.2.2.2.2)
                 refine ⟨_, rfl, ?_⟩
                 replace HO_3 := Aside0.mk (Kd.R_below (zR HO_3) hb)
                 replace HO_4 := Aside0.mk (Kd.R_below (zR HO_4) hb)
                 replace HO_5 := Aside0.mk (Kd.R_below (zR HO_5) hb)
                 replace BK859 := Aside0.mk (blk_below (g := gb859) (o := .cells #[.bool x860000_2, .int .u64 x860001_2, .int .u64 x860002_2] 36 (0, 0)) (zK BK859) hb)
                 replace HB := Aside0.mk (below_step (zB HB) hb)
                 (try clear hb)
                 refine hK.out _ _ ⟨zc BK859 0, zc BK859 1, zc BK859 2, HS3_, HS4_, HS5_, HS6_, HS7_, HS8_⟩ (fun hHeld => ?_)
                 clear hK K
                 refine zn 43 ?_; refine zd0 ?_
                 go_upto_if 43 with (fail)
                 go_cut [3] (fun v3 wc => ∃ (kq : Nat) (x3_17 : List (S66)), Aside0 (intrusionref07_Complement.j2 kq x3_17 t852 t855 x6_1 x9_2 = some r) ∧ Aside0 (kq ≤ k2) ∧ Aside0 (Kd.R k66 66 wc w.heap.size (fun k_ => some k_ ≠ ((.slice (some ad858) t852.length co9) : Value).ownBlock ∧ some k_ ≠ ((.slice (some ad864) t855.length co19) : Value).ownBlock) v3 x3_17) ∧ Aside0 (Kd.R k66 66 wc w.heap.size (fun k_ => some k_ ≠ (v3 : Value).ownBlock ∧ some k_ ≠ ((.slice (some ad864) t855.length co19) : Value).ownBlock) (.slice (some ad858) t852.length co9) t852) ∧ Aside0 (Kd.R k66 66 wc w.heap.size (fun k_ => some k_ ≠ (v3 : Value).ownBlock ∧ some k_ ≠ ((.slice (some ad858) t852.length co9) : Value).ownBlock) (.slice (some ad864) t855.length co19) t855) ∧ Aside0 (wc.heap[gb859]? = some (.cells #[.bool x860000_2, .int .u64 x860001_2, .int .u64 x860002_2] 36 (0, 0))) ∧ Aside0 (Below w.heap.size w wc))
                 case first =>
                  have H := HC18.out
                  clear HC18
                  by_cases c23 : t866 = true
                  · subst c23
                    rw [if_pos rfl] at H
                    replace H := Option.bind_eq_some_iff.mp H
                    obtain ⟨⟨t868, t869, t870⟩, A240, H⟩ := H
                    try dsimp only at H
                    have A24 := Aside0.mk A240
                    clear A240
                    by_cases c25 : x3_2.length < 2932031007402
                    · rw [if_pos c25] at H
                      have LMc25 := Aside0.mk c25
                      clear c25
                      obtain ⟨y871, hy871⟩ : ∃ y_ : List (S66), y_ = (x3_2 ++ [(⟨(⟨x860000_2, x860001_2, x860002_2⟩ : S36), (⟨t868, t869, t870⟩ : S36)⟩ : S66)]) := ⟨_, rfl⟩
                      rw [← hy871] at H; try dsimp only [Option.bind_some] at H
                      have Ny871 := Aside0.mk hy871
                      clear hy871
                      have H' := Aside0.mk H
                      clear H
                      try go_wp2
                      replace HO_3 := Aside0.mk (Kd.R_drew HO_3.out)
                      replace HO_4 := Aside0.mk (Kd.R_drew HO_4.out)
                      replace HO_5 := Aside0.mk (Kd.R_drew HO_5.out)
                      replace BK859 := Aside0.mk (blk_drew BK859.out)
                      replace HB := Aside0.mk (below_drew1 HB.out)
                      have p867 : 0 ≤ (x9_2 : Int) := za
                      have q867 : x9_2 < (t855.length : Int) := za
                      obtain ⟨ad867, e867, hx867_0, hx867_1, hx867_2, hx867_3, hx867_4, hx867_5⟩ := at_T66 (Kd.R_reads' HO_5.out).2.2 x9_2 p867 q867
                      obtain rfl : ad864 = ad867 := (by injection e867)
                      replace p867 := eq_true p867
                      replace q867 := eq_true q867
                      refine start_ (n := 12) (S := fun w' => w'.cell? ⟨gb859, 0, none⟩ = some (.bool x860000_2) ∧ w'.cell? ⟨gb859, 1, none⟩ = some (.int .u64 x860001_2) ∧ w'.cell? ⟨gb859, 2, none⟩ = some (.int .u64 x860002_2) ∧ w'.cell? (ad864.add ((x9_2).toNat * 6)) = some (.bool ((rd_T66 t855 x9_2).f0.f0)) ∧ w'.cell? ⟨(ad864.add ((x9_2).toNat * 6)).block, (ad864.add ((x9_2).toNat * 6)).off + 1, none⟩ = some (.int .u64 ((rd_T66 t855 x9_2).f0.f1)) ∧ w'.cell? ⟨(ad864.add ((x9_2).toNat * 6)).block, (ad864.add ((x9_2).toNat * 6)).off + 2, none⟩ = some (.int .u64 ((rd_T66 t855 x9_2).f0.f2)) ∧ w'.cell? ⟨(ad864.add ((x9_2).toNat * 6)).block, (ad864.add ((x9_2).toNat * 6)).off + 3, none⟩ = some (.bool ((rd_T66 t855 x9_2).f1.f0)) ∧ w'.cell? ⟨(ad864.add ((x9_2).toNat * 6)).block, (ad864.add ((x9_2).toNat * 6)).off + 4, none⟩ = some (.int .u64 ((rd_T66 t855 x9_2).f1.f1)) ∧ w'.cell? ⟨(ad864.add ((x9_2).toNat * 6)).block, (ad864.add ((x9_2).toNat * 6)).off + 5, none⟩ = some (.int .u64 ((rd_T66 t855 x9_2).f1.f2))) (ds := [9, 10]) #[false, false, false, false, false, false, false, false, false, false, false, false] (by kernel_rfl) rfl rfl ⟨zc BK859 0, zc BK859 1, zc BK859 2, hx867_0, hx867_1, hx867_2, hx867_3, hx867_4, hx867_5⟩ (fun hHeld => ?_); refine with_tabW intrusionref07_Complement.tab14 intrusionref07_Complement.bits14 (fun HT_ HW_ => ?_)
                      generalize w22.drew = w26 at HO_3 HO_4 HO_5 BK859 HB hx867_0 hx867_1 hx867_2 hx867_3 hx867_4 hx867_5 hHeld ⊢
                      refine zp 0 44 HT_ ?_; refine zp 2 46 HT_ ?_; refine zp 3 47 HT_ ?_; refine zp 4 48 HT_ ?_; refine zp 5 49 HT_ ?_; refine zt 1 45 HT_ HW_ hHeld ?_; refine zt 6 50 HT_ HW_ hHeld ?_; refine zo 7 51 HT_ (fun K hK => ?_)
                      refine zg Try.func116 #[.agg #[.bool ((rd_T66 t855 x9_2).f0.f0), .int .u64 ((rd_T66 t855 x9_2).f0.f1), .int .u64 ((rd_T66 t855 x9_2).f0.f2)]] ?_
                      with_reducible refine (intrusionref07_Ahead.calls ((rd_T66 t855 x9_2).f0.f0) ((rd_T66 t855 x9_2).f0.f1) ((rd_T66 t855 x9_2).f0.f2) t868 t869 t870 _ A24.out).mono ?_
                      rintro e w27 ⟨rfl, hb⟩
                      have HS3_ := (hb.cell (World.block_lt_of_cell? _ _ (hHeld.2.2.2.1))).trans (hHeld.2.2.2.1)
                      have HS4_ := (hb.cell (World.block_lt_of_cell? _ _ (hHeld.2.2.2.2.1))).trans (hHeld.2.2.2.2.1)
                      have HS5_ := (hb.cell (World.block_lt_of_cell? _ _ (hHeld.2.2.2.2.2.1))).trans (hHeld.2.2.2.2.2.1)
                      have HS6_ := (hb.cell (World.block_lt_of_cell? _ _ (hHeld.2.2.2.2.2.2.1))).trans (hHeld.2.2.2.2.2.2.1)
                      have HS7_ := (hb.cell (World.block_lt_of_cell? _ _ (hHeld.2.2.2.2.2.2.2.1))).trans (hHeld.2.2.2.2.2.2.2.1)
                      have HS8_ := (hb.cell (World.block_lt_of_cell? _ _ (hHeld.2.2.2.2.2.2.2.2))).trans (hHeld.2.2.2.2.2.2.2.2)
                      refine ⟨_, rfl, ?_⟩
                      replace HO_3 := Aside0.mk (Kd.R_below (zR HO_3) hb)
                      replace HO_4 := Aside0.mk (Kd.R_below (zR HO_4) hb)
                      replace HO_5 := Aside0.mk (Kd.R_below (zR HO_5) hb)
                      replace BK859 := Aside0.mk (blk_below (g := gb859) (o := .cells #[.bool x860000_2, .int .u64 x860001_2, .int .u64 x860002_2] 36 (0, 0)) (zK BK859) hb)
                      replace HB := Aside0.mk (below_step (zB HB) hb)
                      (try clear hb)
                      refine hK.out _ _ ⟨zc BK859 0, zc BK859 1, zc BK859 2, HS3_, HS4_, HS5_, HS6_, HS7_, HS8_⟩ (fun hHeld => ?_)
                      clear hK K
                      refine zn 51 ?_; refine zp 8 52 HT_ ?_
                      refine last_ (i := 9) (N := some 53) #[true, true, true, true, true, true, true, true, true, true, false, false] rfl rfl (one_of HT_.out (by kernel_rfl)) (by decide) (fun K hK => ?_)
                      refine value_ (w1 := ?_) (v := ?_) (by rfl) rfl ?_ ?_
                      rotate_left 2
                      · go_simp
                        constructor
                        · rfl
                        · rfl
                      refine hK.out _ _ ?_
                      clear hK K
                      refine zn 53 ?_
                      refine last_ (i := 10) (N := some 54) #[true, true, true, true, true, true, true, true, true, true, true, false] rfl rfl (one_of HT_.out (by kernel_rfl)) (by decide) (fun K hK => ?_)
                      refine Kd.R_append_step k66 (w0 := w) w.heap.size (by rfl) (.tmp 44) (.tmp 53) 33 66 (.agg #[(.bool false), (.int .u64 0), (.int .u64 0), (.bool false), (.int .u64 0), (.int .u64 0)]) 48 rfl Try.underlying33 info66 rfl (by decide) (by omega) u3 x3_2 (⟨(⟨x860000_2, x860001_2, x860002_2⟩ : S36), (⟨t868, t869, t870⟩ : S36)⟩ : S66) [.bool x860000_2, .int .u64 x860001_2, .int .u64 x860002_2, .bool t868, .int .u64 t869, .int .u64 t870] (fun k_ => some k_ ≠ (.slice (some ad858) t852.length co9 : Value).ownBlock ∧ some k_ ≠ (.slice (some ad864) t855.length co19 : Value).ownBlock) (fun _ => False) rfl rfl ?aP (fun _ hk => hk.elim) ?aF ?aO ?aB ?aS ?aL ?_
                      (case aP => exact k66_mkM _ _ _ (⟨(⟨x860000_2, x860001_2, x860002_2⟩ : S36), (⟨t868, t869, t870⟩ : S36)⟩ : S66))
                      (case aB => exact (zB HB))
                      (case aF => exact (fun k_ hk => ⟨Kd.fresh' (Kd.R_lt (zR HO_4)) k_ hk, Kd.fresh' (Kd.R_lt (zR HO_5)) k_ hk⟩))
                      (case aO => exact (zR HO_3))
                      (case aS => exact (below_size (zB HB)))
                      (case aL => have := LMc25.out; omega)
                      intro v872 w28 ho hb hg hat
                      rw [← Ny871.out] at ho
                      replace HO_4 := Aside0.mk (Kd.R_after (ok := (fun k_ => some k_ ≠ (.slice (some ad864) t855.length co19 : Value).ownBlock)) (by (with_reducible repeat (first | apply Kd.R_alloc | apply Kd.R_drewN | apply Kd.R_drew)); exact Kd.R_mono HO_4.out (fun _ hk => ⟨hk.2, hk.1⟩)) hg hat)
                      replace HO_5 := Aside0.mk (Kd.R_after (ok := (fun k_ => some k_ ≠ (.slice (some ad858) t852.length co9 : Value).ownBlock)) (by (with_reducible repeat (first | apply Kd.R_alloc | apply Kd.R_drewN | apply Kd.R_drew)); exact Kd.R_mono HO_5.out (fun _ hk => ⟨hk.2, hk.1⟩)) hg hat)
                      replace BK859 := Aside0.mk (blk_grown (g := gb859) (o := .cells #[.bool x860000_2, .int .u64 x860001_2, .int .u64 x860002_2] 36 (0, 0)) (zK BK859) hg (Kd.R_ne HO_3.out BK859.out (by decide)))
                      replace HB := Aside0.mk (hb)
                      have HO873 := Aside0.mk (ho)
                      clear HO_3
                      clear ho hb hg hat
                      refine hK.out _ _ ?_
                      clear hK K
                      refine zn 54 ?_; refine zp 11 3 HT_ ?_; refine zd HT_ ?_
                      try go_wp2
                      go_meet
                      case rel => exact ⟨_, (y871), H', ⟨by have := HK1.out; have := HK2.out; first | omega | exact Nat.le_refl _⟩, ⟨zR HO873⟩, ⟨by (with_reducible repeat (first | apply Kd.R_alloc | apply Kd.R_drewN | apply Kd.R_drew)); exact Kd.R_mono HO_4.out (fun _ hk => ⟨hk.2, hk.1⟩)⟩, ⟨by (with_reducible repeat (first | apply Kd.R_alloc | apply Kd.R_drewN | apply Kd.R_drew)); exact Kd.R_mono HO_5.out (fun _ hk => ⟨hk.2, hk.1⟩)⟩, ⟨zK BK859⟩, ⟨zB HB⟩⟩
                    · rw [if_neg c25] at H
                      exact absurd H (by simp)
                  · replace c23 := Bool.eq_false_iff.mpr c23
                    subst c23
                    rw [if_neg zF] at H
                    have H' := Aside0.mk H
                    clear H
                    go_wp2
                    go_meet
                    case rel => exact ⟨_, (x3_2), H', ⟨by have := HK1.out; have := HK2.out; first | omega | exact Nat.le_refl _⟩, ⟨zR HO_3⟩, ⟨zR HO_4⟩, ⟨zR HO_5⟩, ⟨zK BK859⟩, ⟨zB HB⟩⟩
                 case rest =>
                  clear HC18
                  try clear c1
                  try clear c2
                  try clear p2
                  try clear p6
                  try clear c8
                  try clear c8b0
                  try clear p8
                  try clear q8
                  try clear hx8
                  try clear c9
                  try clear c11
                  try clear c12
                  try clear c12b0
                  try clear c13
                  try clear c13b0
                  try clear c14
                  try clear c14b0
                  try clear c14b1
                  try clear c14b2
                  try clear c23
                  try clear c25
                  try clear hcz11_0
                  try clear hcz11_1
                  try clear hcz11_2
                  try clear hfz11_0
                  try clear hfz11_1
                  try clear hfz11_2
                  try clear hx858_0
                  try clear hx858_1
                  try clear hx858_2
                  try clear hx858_3
                  try clear hx858_4
                  try clear hx858_5
                  try clear hx864_0
                  try clear hx864_1
                  try clear hx864_2
                  try clear hx864_3
                  try clear hx864_4
                  try clear hx864_5
                  try clear hx865_0
                  try clear hx865_1
                  try clear hx865_2
                  try clear hx865_3
                  try clear hx865_4
                  try clear hx865_5
                  try clear hx867_0
                  try clear hx867_1
                  try clear hx867_2
                  try clear hx867_3
                  try clear hx867_4
                  try clear hx867_5
                  try clear p2
                  try clear p8
                  try clear p858
                  try clear p864
                  try clear p865
                  try clear p867
                  try clear q8
                  try clear q858
                  try clear q864
                  try clear q865
                  try clear q867
                  obtain ⟨kq, x3_17, HA, HJ17, HO_3, HO_4, HO_5, BK859, HB⟩ := hcut
                  cases kq with
                  | zero => exact absurd HA.out (by simp [intrusionref07_Complement.j2])
                  | succ kj17 =>
                   have H := HA.out
                   clear HA
                   simp only [intrusionref07_Complement.j2] at H
                   by_cases c29 : 0 ≤ x9_2
                   · rw [if_pos c29] at H
                     have c29b0 : decide (0 ≤ x9_2) = true := decide_eq_true c29
                     clear c29
                     by_cases c30 : x9_2 < (t855.length : Int)
                     · rw [if_pos c30] at H
                       have c30b0 : decide (x9_2 < (t855.length : Int)) = true := decide_eq_true c30
                       clear c30
                       replace H := Option.bind_eq_some_iff.mp H
                       obtain ⟨t875, A310, H⟩ := H
                       try dsimp only at H
                       have A31 := Aside0.mk A310
                       clear A310
                       replace H := Option.bind_eq_some_iff.mp H
                       obtain ⟨⟨t877, t878, t879⟩, A320, H⟩ := H
                       try dsimp only at H
                       have A32 := Aside0.mk A320
                       clear A320
                       by_cases c33 : t875 = true
                       · subst c33
                         rw [if_pos rfl] at H
                         by_cases c34 : 0 ≤ x6_1
                         · rw [if_pos c34] at H
                           have c34b0 : decide (0 ≤ x6_1) = true := decide_eq_true c34
                           clear c34
                           by_cases c35 : x6_1 < (t852.length : Int)
                           · rw [if_pos c35] at H
                             have c35b0 : decide (x6_1 < (t852.length : Int)) = true := decide_eq_true c35
                             clear c35
                             have H' := Aside0.mk H
                             clear H
                             have p874 : 0 ≤ (x9_2 : Int) := za
                             have q874 : x9_2 < (t855.length : Int) := za
                             obtain ⟨ad874, e874, hx874_0, hx874_1, hx874_2, hx874_3, hx874_4, hx874_5⟩ := at_T66 (Kd.R_reads' HO_5.out).2.2 x9_2 p874 q874
                             obtain rfl : ad864 = ad874 := (by injection e874)
                             replace p874 := eq_true p874
                             replace q874 := eq_true q874
                             go_wp2_with (first | ((with_reducible refine gate_callee (f := 106) rfl ?_); refine goesL_ (some 60) rfl rfl Try.func106 (by kernel_rfl) rfl #[.agg #[.bool ((rd_T66 t855 x9_2).f1.f0), .int .u64 ((rd_T66 t855 x9_2).f1.f1), .int .u64 ((rd_T66 t855 x9_2).f1.f2)]] rfl (by (try simp only [List.map_toArray, List.map_cons, List.map_nil]); first | done | rfl | (simp only [List.length_drop, List.length_take]; rfl)) ?_; (with_reducible refine (intrusionref07_Last.calls ((rd_T66 t855 x9_2).f1.f0) ((rd_T66 t855 x9_2).f1.f1) ((rd_T66 t855 x9_2).f1.f2) true _ A31.out).mono ?_); rintro e w36 ⟨rfl, hb⟩; refine ⟨_, rfl, ?_⟩; replace HO_3 := Aside0.mk (Kd.R_below (zR HO_3) hb); replace HO_4 := Aside0.mk (Kd.R_below (zR HO_4) hb); replace HO_5 := Aside0.mk (Kd.R_below (zR HO_5) hb); replace BK859 := Aside0.mk (blk_below (g := gb859) (o := .cells #[.bool x860000_2, .int .u64 x860001_2, .int .u64 x860002_2] 36 (0, 0)) (zK BK859) hb); replace HB := Aside0.mk (below_step (zB HB) hb); (try clear hb); have p876 : 0 ≤ (x9_2 : Int) := za; have q876 : x9_2 < (t855.length : Int) := za; obtain ⟨ad876, e876, hx876_0, hx876_1, hx876_2, hx876_3, hx876_4, hx876_5⟩ := at_T66 (Kd.R_reads' HO_5.out).2.2 x9_2 p876 q876; obtain rfl : ad864 = ad876 := (by injection e876); replace p876 := eq_true p876; replace q876 := eq_true q876) | ((with_reducible refine gate_callee (f := 91) rfl ?_); refine goesL_ (some 66) rfl rfl Try.func91 (by kernel_rfl) rfl #[.agg #[.bool ((rd_T66 t855 x9_2).f1.f0), .int .u64 ((rd_T66 t855 x9_2).f1.f1), .int .u64 ((rd_T66 t855 x9_2).f1.f2)]] rfl (by (try simp only [List.map_toArray, List.map_cons, List.map_nil]); first | done | rfl | (simp only [List.length_drop, List.length_take]; rfl)) ?_; (with_reducible refine (intrusionref07_After.calls ((rd_T66 t855 x9_2).f1.f0) ((rd_T66 t855 x9_2).f1.f1) ((rd_T66 t855 x9_2).f1.f2) t877 t878 t879 _ A32.out).mono ?_); rintro e w37 ⟨rfl, hb⟩; refine ⟨_, rfl, ?_⟩; replace HO_3 := Aside0.mk (Kd.R_below (zR HO_3) hb); replace HO_4 := Aside0.mk (Kd.R_below (zR HO_4) hb); replace HO_5 := Aside0.mk (Kd.R_below (zR HO_5) hb); replace BK859 := Aside0.mk (blk_below (g := gb859) (o := .cells #[.bool x860000_2, .int .u64 x860001_2, .int .u64 x860002_2] 36 (0, 0)) (zK BK859) hb); replace HB := Aside0.mk (below_step (zB HB) hb); (try clear hb); obtain ⟨hcz38_0, hcz38_1, hcz38_2⟩ := zc3 BK859; obtain ⟨hfz38_0, hfz38_1, hfz38_2⟩ := zf3 BK859; have p880 : 0 ≤ (x6_1 : Int) := za; have q880 : x6_1 < (t852.length : Int) := za; obtain ⟨ad880, e880, hx880_0, hx880_1, hx880_2, hx880_3, hx880_4, hx880_5⟩ := at_T66 (Kd.R_reads' HO_4.out).2.2 x6_1 p880 q880; obtain rfl : ad858 = ad880 := (by injection e880); have hn880_0 : ad858.block ≠ gb859 := (by first | exact Kd.own_blk (Kd.R_ne HO_4.out BK859.out (by decide)) | exact Kd.own_blk (Kd.R_away HO_4.out (fun _ hk => by first | exact hk.2 | exact hk | exact hk.1 | exact hk.2.2 | exact hk.1.2))); have hn880_1 : ad858.block ≠ gb859 := (by first | exact Kd.own_blk (Kd.R_ne HO_4.out BK859.out (by decide)) | exact Kd.own_blk (Kd.R_away HO_4.out (fun _ hk => by first | exact hk.2 | exact hk | exact hk.1 | exact hk.2.2 | exact hk.1.2))); have hn880_2 : ad858.block ≠ gb859 := (by first | exact Kd.own_blk (Kd.R_ne HO_4.out BK859.out (by decide)) | exact Kd.own_blk (Kd.R_away HO_4.out (fun _ hk => by first | exact hk.2 | exact hk | exact hk.1 | exact hk.2.2 | exact hk.1.2))); replace hx880_0 := (cell_far (p := ⟨gb859, 0, none⟩) (by first | (rw [add_block]; exact hn880_0) | (show (Addr.add _ _).block ≠ _; rw [add_block]; exact hn880_0) | exact hn880_0) (.bool t877)).trans hx880_0; replace hx880_1 := (cell_far (p := ⟨gb859, 0, none⟩) (by first | (rw [add_block]; exact hn880_0) | (show (Addr.add _ _).block ≠ _; rw [add_block]; exact hn880_0) | exact hn880_0) (.bool t877)).trans hx880_1; replace hx880_2 := (cell_far (p := ⟨gb859, 0, none⟩) (by first | (rw [add_block]; exact hn880_0) | (show (Addr.add _ _).block ≠ _; rw [add_block]; exact hn880_0) | exact hn880_0) (.bool t877)).trans hx880_2; replace hx880_3 := (cell_far (p := ⟨gb859, 0, none⟩) (by first | (rw [add_block]; exact hn880_0) | (show (Addr.add _ _).block ≠ _; rw [add_block]; exact hn880_0) | exact hn880_0) (.bool t877)).trans hx880_3; replace hx880_4 := (cell_far (p := ⟨gb859, 0, none⟩) (by first | (rw [add_block]; exact hn880_0) | (show (Addr.add _ _).block ≠ _; rw [add_block]; exact hn880_0) | exact hn880_0) (.bool t877)).trans hx880_4; replace hx880_5 := (cell_far (p := ⟨gb859, 0, none⟩) (by first | (rw [add_block]; exact hn880_0) | (show (Addr.add _ _).block ≠ _; rw [add_block]; exact hn880_0) | exact hn880_0) (.bool t877)).trans hx880_5; replace hx880_0 := (cell_far (p := ⟨gb859, 1, none⟩) (by first | (rw [add_block]; exact hn880_1) | (show (Addr.add _ _).block ≠ _; rw [add_block]; exact hn880_1) | exact hn880_1) (.int .u64 t878)).trans hx880_0; replace hx880_1 := (cell_far (p := ⟨gb859, 1, none⟩) (by first | (rw [add_block]; exact hn880_1) | (show (Addr.add _ _).block ≠ _; rw [add_block]; exact hn880_1) | exact hn880_1) (.int .u64 t878)).trans hx880_1; replace hx880_2 := (cell_far (p := ⟨gb859, 1, none⟩) (by first | (rw [add_block]; exact hn880_1) | (show (Addr.add _ _).block ≠ _; rw [add_block]; exact hn880_1) | exact hn880_1) (.int .u64 t878)).trans hx880_2; replace hx880_3 := (cell_far (p := ⟨gb859, 1, none⟩) (by first | (rw [add_block]; exact hn880_1) | (show (Addr.add _ _).block ≠ _; rw [add_block]; exact hn880_1) | exact hn880_1) (.int .u64 t878)).trans hx880_3; replace hx880_4 := (cell_far (p := ⟨gb859, 1, none⟩) (by first | (rw [add_block]; exact hn880_1) | (show (Addr.add _ _).block ≠ _; rw [add_block]; exact hn880_1) | exact hn880_1) (.int .u64 t878)).trans hx880_4; replace hx880_5 := (cell_far (p := ⟨gb859, 1, none⟩) (by first | (rw [add_block]; exact hn880_1) | (show (Addr.add _ _).block ≠ _; rw [add_block]; exact hn880_1) | exact hn880_1) (.int .u64 t878)).trans hx880_5; replace hx880_0 := (cell_far (p := ⟨gb859, 2, none⟩) (by first | (rw [add_block]; exact hn880_2) | (show (Addr.add _ _).block ≠ _; rw [add_block]; exact hn880_2) | exact hn880_2) (.int .u64 t879)).trans hx880_0; replace hx880_1 := (cell_far (p := ⟨gb859, 2, none⟩) (by first | (rw [add_block]; exact hn880_2) | (show (Addr.add _ _).block ≠ _; rw [add_block]; exact hn880_2) | exact hn880_2) (.int .u64 t879)).trans hx880_1; replace hx880_2 := (cell_far (p := ⟨gb859, 2, none⟩) (by first | (rw [add_block]; exact hn880_2) | (show (Addr.add _ _).block ≠ _; rw [add_block]; exact hn880_2) | exact hn880_2) (.int .u64 t879)).trans hx880_2; replace hx880_3 := (cell_far (p := ⟨gb859, 2, none⟩) (by first | (rw [add_block]; exact hn880_2) | (show (Addr.add _ _).block ≠ _; rw [add_block]; exact hn880_2) | exact hn880_2) (.int .u64 t879)).trans hx880_3; replace hx880_4 := (cell_far (p := ⟨gb859, 2, none⟩) (by first | (rw [add_block]; exact hn880_2) | (show (Addr.add _ _).block ≠ _; rw [add_block]; exact hn880_2) | exact hn880_2) (.int .u64 t879)).trans hx880_4; replace hx880_5 := (cell_far (p := ⟨gb859, 2, none⟩) (by first | (rw [add_block]; exact hn880_2) | (show (Addr.add _ _).block ≠ _; rw [add_block]; exact hn880_2) | exact hn880_2) (.int .u64 t879)).trans hx880_5; clear hn880_0; clear hn880_1; clear hn880_2; replace p880 := eq_true p880; replace q880 := eq_true q880))
                             go_roundg kj17
                             case measure => have := HK1.out; have := HK2.out; have := HJ17.out; omega
                             case rel => exact ⟨(x3_17), (true), (wrap64 (x9_2 + 1)), ((rd_T66 t852 x6_1).f1.f0), ((rd_T66 t852 x6_1).f1.f1), ((rd_T66 t852 x6_1).f1.f2), (by first | rfl | (simp; done) | (simp [*]; done)), (by first | rfl | (simp; done) | (simp [*]; done)), H', ⟨by have := HK1.out; have := HK2.out; have := HJ17.out; omega⟩, ⟨by (with_reducible repeat (first | apply Kd.R_alloc | apply Kd.R_drewN | apply Kd.R_drew)); exact Kd.R_mono (Kd.R_far (p := ⟨gb859, 2, none⟩) (Kd.R_far (p := ⟨gb859, 1, none⟩) (Kd.R_far (p := ⟨gb859, 0, none⟩) (Kd.R_far (p := ⟨gb859, 2, none⟩) (Kd.R_far (p := ⟨gb859, 1, none⟩) (Kd.R_far (p := ⟨gb859, 0, none⟩) (Kd.R_types HO_3.out BK859.out (by decide)) (fun _ hk => hk.2) (.bool t877)) (fun _ hk => hk.2) (.int .u64 t878)) (fun _ hk => hk.2) (.int .u64 t879)) (fun _ hk => hk.2) (.bool ((rd_T66 t852 x6_1).f1.f0))) (fun _ hk => hk.2) (.int .u64 ((rd_T66 t852 x6_1).f1.f1))) (fun _ hk => hk.2) (.int .u64 ((rd_T66 t852 x6_1).f1.f2))) (fun _ hk => ⟨hk.1.1, hk.1.2⟩)⟩, ⟨by (with_reducible repeat (first | apply Kd.R_alloc | apply Kd.R_drewN | apply Kd.R_drew)); exact Kd.R_mono (Kd.R_far (p := ⟨gb859, 2, none⟩) (Kd.R_far (p := ⟨gb859, 1, none⟩) (Kd.R_far (p := ⟨gb859, 0, none⟩) (Kd.R_far (p := ⟨gb859, 2, none⟩) (Kd.R_far (p := ⟨gb859, 1, none⟩) (Kd.R_far (p := ⟨gb859, 0, none⟩) (Kd.R_types HO_4.out BK859.out (by decide)) (fun _ hk => hk.2) (.bool t877)) (fun _ hk => hk.2) (.int .u64 t878)) (fun _ hk => hk.2) (.int .u64 t879)) (fun _ hk => hk.2) (.bool ((rd_T66 t852 x6_1).f1.f0))) (fun _ hk => hk.2) (.int .u64 ((rd_T66 t852 x6_1).f1.f1))) (fun _ hk => hk.2) (.int .u64 ((rd_T66 t852 x6_1).f1.f2))) (fun _ hk => ⟨hk.1.1, hk.1.2⟩)⟩, ⟨by (with_reducible repeat (first | apply Kd.R_alloc | apply Kd.R_drewN | apply Kd.R_drew)); exact Kd.R_mono (Kd.R_far (p := ⟨gb859, 2, none⟩) (Kd.R_far (p := ⟨gb859, 1, none⟩) (Kd.R_far (p := ⟨gb859, 0, none⟩) (Kd.R_far (p := ⟨gb859, 2, none⟩) (Kd.R_far (p := ⟨gb859, 1, none⟩) (Kd.R_far (p := ⟨gb859, 0, none⟩) (Kd.R_types HO_5.out BK859.out (by decide)) (fun _ hk => hk.2) (.bool t877)) (fun _ hk => hk.2) (.int .u64 t878)) (fun _ hk => hk.2) (.int .u64 t879)) (fun _ hk => hk.2) (.bool ((rd_T66 t852 x6_1).f1.f0))) (fun _ hk => hk.2) (.int .u64 ((rd_T66 t852 x6_1).f1.f1))) (fun _ hk => hk.2) (.int .u64 ((rd_T66 t852 x6_1).f1.f2))) (fun _ hk => ⟨hk.1.1, hk.1.2⟩)⟩, ⟨by refine zL ?_; refine blk_put (cs := #[.bool ((rd_T66 t852 x6_1).f1.f0), .int .u64 ((rd_T66 t852 x6_1).f1.f1), .int .u64 t879]) ?_ 2 _ rfl; refine zL ?_; refine blk_put (cs := #[.bool ((rd_T66 t852 x6_1).f1.f0), .int .u64 t878, .int .u64 t879]) ?_ 1 _ rfl; refine zL ?_; refine blk_put (cs := #[.bool t877, .int .u64 t878, .int .u64 t879]) ?_ 0 _ rfl; refine zL ?_; refine blk_put (cs := #[.bool t877, .int .u64 t878, .int .u64 x860002_2]) ?_ 2 _ rfl; refine zL ?_; refine blk_put (cs := #[.bool t877, .int .u64 x860001_2, .int .u64 x860002_2]) ?_ 1 _ rfl; refine zL ?_; refine blk_put (cs := #[.bool x860000_2, .int .u64 x860001_2, .int .u64 x860002_2]) ?_ 0 _ rfl; refine zL ?_; exact BK859.out⟩, ⟨zB HB⟩⟩
                           · rw [if_neg c35] at H
                             exact absurd H (by simp)
                         · rw [if_neg c34] at H
                           exact absurd H (by simp)
                       · replace c33 := Bool.eq_false_iff.mpr c33
                         subst c33
                         rw [if_neg zF] at H
                         have H' := Aside0.mk H
                         clear H
                         have p874 : 0 ≤ (x9_2 : Int) := za
                         have q874 : x9_2 < (t855.length : Int) := za
                         obtain ⟨ad874, e874, hx874_0, hx874_1, hx874_2, hx874_3, hx874_4, hx874_5⟩ := at_T66 (Kd.R_reads' HO_5.out).2.2 x9_2 p874 q874
                         obtain rfl : ad864 = ad874 := (by injection e874)
                         replace p874 := eq_true p874
                         replace q874 := eq_true q874
                         go_wp2_with (first | ((with_reducible refine gate_callee (f := 106) rfl ?_); refine goesL_ (some 60) rfl rfl Try.func106 (by kernel_rfl) rfl #[.agg #[.bool ((rd_T66 t855 x9_2).f1.f0), .int .u64 ((rd_T66 t855 x9_2).f1.f1), .int .u64 ((rd_T66 t855 x9_2).f1.f2)]] rfl (by (try simp only [List.map_toArray, List.map_cons, List.map_nil]); first | done | rfl | (simp only [List.length_drop, List.length_take]; rfl)) ?_; (with_reducible refine (intrusionref07_Last.calls ((rd_T66 t855 x9_2).f1.f0) ((rd_T66 t855 x9_2).f1.f1) ((rd_T66 t855 x9_2).f1.f2) false _ A31.out).mono ?_); rintro e w39 ⟨rfl, hb⟩; refine ⟨_, rfl, ?_⟩; replace HO_3 := Aside0.mk (Kd.R_below (zR HO_3) hb); replace HO_4 := Aside0.mk (Kd.R_below (zR HO_4) hb); replace HO_5 := Aside0.mk (Kd.R_below (zR HO_5) hb); replace BK859 := Aside0.mk (blk_below (g := gb859) (o := .cells #[.bool x860000_2, .int .u64 x860001_2, .int .u64 x860002_2] 36 (0, 0)) (zK BK859) hb); replace HB := Aside0.mk (below_step (zB HB) hb); (try clear hb); have p876 : 0 ≤ (x9_2 : Int) := za; have q876 : x9_2 < (t855.length : Int) := za; obtain ⟨ad876, e876, hx876_0, hx876_1, hx876_2, hx876_3, hx876_4, hx876_5⟩ := at_T66 (Kd.R_reads' HO_5.out).2.2 x9_2 p876 q876; obtain rfl : ad864 = ad876 := (by injection e876); replace p876 := eq_true p876; replace q876 := eq_true q876) | ((with_reducible refine gate_callee (f := 91) rfl ?_); refine goesL_ (some 66) rfl rfl Try.func91 (by kernel_rfl) rfl #[.agg #[.bool ((rd_T66 t855 x9_2).f1.f0), .int .u64 ((rd_T66 t855 x9_2).f1.f1), .int .u64 ((rd_T66 t855 x9_2).f1.f2)]] rfl (by (try simp only [List.map_toArray, List.map_cons, List.map_nil]); first | done | rfl | (simp only [List.length_drop, List.length_take]; rfl)) ?_; (with_reducible refine (intrusionref07_After.calls ((rd_T66 t855 x9_2).f1.f0) ((rd_T66 t855 x9_2).f1.f1) ((rd_T66 t855 x9_2).f1.f2) t877 t878 t879 _ A32.out).mono ?_); rintro e w40 ⟨rfl, hb⟩; refine ⟨_, rfl, ?_⟩; replace HO_3 := Aside0.mk (Kd.R_below (zR HO_3) hb); replace HO_4 := Aside0.mk (Kd.R_below (zR HO_4) hb); replace HO_5 := Aside0.mk (Kd.R_below (zR HO_5) hb); replace BK859 := Aside0.mk (blk_below (g := gb859) (o := .cells #[.bool x860000_2, .int .u64 x860001_2, .int .u64 x860002_2] 36 (0, 0)) (zK BK859) hb); replace HB := Aside0.mk (below_step (zB HB) hb); (try clear hb); obtain ⟨hcz41_0, hcz41_1, hcz41_2⟩ := zc3 BK859; obtain ⟨hfz41_0, hfz41_1, hfz41_2⟩ := zf3 BK859))
                         go_roundg kj17
                         case measure => have := HK1.out; have := HK2.out; have := HJ17.out; omega
                         case rel => exact ⟨(x3_17), (false), (wrap64 (x9_2 + 1)), (t877), (t878), (t879), (by first | rfl | (simp; done) | (simp [*]; done)), (by first | rfl | (simp; done) | (simp [*]; done)), H', ⟨by have := HK1.out; have := HK2.out; have := HJ17.out; omega⟩, ⟨by (with_reducible repeat (first | apply Kd.R_alloc | apply Kd.R_drewN | apply Kd.R_drew)); exact Kd.R_mono (Kd.R_far (p := ⟨gb859, 2, none⟩) (Kd.R_far (p := ⟨gb859, 1, none⟩) (Kd.R_far (p := ⟨gb859, 0, none⟩) (Kd.R_types HO_3.out BK859.out (by decide)) (fun _ hk => hk.2) (.bool t877)) (fun _ hk => hk.2) (.int .u64 t878)) (fun _ hk => hk.2) (.int .u64 t879)) (fun _ hk => ⟨hk.1.1, hk.1.2⟩)⟩, ⟨by (with_reducible repeat (first | apply Kd.R_alloc | apply Kd.R_drewN | apply Kd.R_drew)); exact Kd.R_mono (Kd.R_far (p := ⟨gb859, 2, none⟩) (Kd.R_far (p := ⟨gb859, 1, none⟩) (Kd.R_far (p := ⟨gb859, 0, none⟩) (Kd.R_types HO_4.out BK859.out (by decide)) (fun _ hk => hk.2) (.bool t877)) (fun _ hk => hk.2) (.int .u64 t878)) (fun _ hk => hk.2) (.int .u64 t879)) (fun _ hk => ⟨hk.1.1, hk.1.2⟩)⟩, ⟨by (with_reducible repeat (first | apply Kd.R_alloc | apply Kd.R_drewN | apply Kd.R_drew)); exact Kd.R_mono (Kd.R_far (p := ⟨gb859, 2, none⟩) (Kd.R_far (p := ⟨gb859, 1, none⟩) (Kd.R_far (p := ⟨gb859, 0, none⟩) (Kd.R_types HO_5.out BK859.out (by decide)) (fun _ hk => hk.2) (.bool t877)) (fun _ hk => hk.2) (.int .u64 t878)) (fun _ hk => hk.2) (.int .u64 t879)) (fun _ hk => ⟨hk.1.1, hk.1.2⟩)⟩, ⟨by refine zL ?_; refine blk_put (cs := #[.bool t877, .int .u64 t878, .int .u64 x860002_2]) ?_ 2 _ rfl; refine zL ?_; refine blk_put (cs := #[.bool t877, .int .u64 x860001_2, .int .u64 x860002_2]) ?_ 1 _ rfl; refine zL ?_; refine blk_put (cs := #[.bool x860000_2, .int .u64 x860001_2, .int .u64 x860002_2]) ?_ 0 _ rfl; refine zL ?_; exact BK859.out⟩, ⟨zB HB⟩⟩
                     · rw [if_neg c30] at H
                       exact absurd H (by simp)
                   · rw [if_neg c29] at H
                     exact absurd H (by simp)
             · rw [if_neg c13] at H
               exact absurd H (by simp)
           · rw [if_neg c12] at H
             have c12b0 : decide (x9_2 < (t855.length : Int)) = false := decide_eq_false c12
             clear c12
             by_cases c42 : x8_2 = true
             · subst c42
               rw [if_pos rfl] at H
               have H' := Aside0.mk H
               clear H
               obtain ⟨Ao43, co43, eo43⟩ := Kd.R_slice HO_5.out
               subst eo43
               go_wp2
               go_roundg k2
               case measure => have := HK1.out; have := HK2.out; omega
               case rel => exact ⟨(x3_2), (wrap64 (x6_1 + 1)), (by first | rfl | (simp; done) | (simp [*]; done)), H', ⟨by have := HK1.out; have := HK2.out; omega⟩, ⟨zR HO_3⟩, ⟨zR HO_4⟩, ⟨zR HO_5⟩, ⟨zB HB⟩⟩
             · replace c42 := Bool.eq_false_iff.mpr c42
               subst c42
               rw [if_neg zF] at H
               by_cases c44 : 0 ≤ x6_1
               · rw [if_pos c44] at H
                 have c44b0 : decide (0 ≤ x6_1) = true := decide_eq_true c44
                 clear c44
                 by_cases c45 : x6_1 < (t852.length : Int)
                 · rw [if_pos c45] at H
                   have c45b0 : decide (x6_1 < (t852.length : Int)) = true := decide_eq_true c45
                   clear c45
                   by_cases c46 : x3_2.length < 2932031007402
                   · rw [if_pos c46] at H
                     have LMc46 := Aside0.mk c46
                     clear c46
                     obtain ⟨y861, hy861⟩ : ∃ y_ : List (S66), y_ = (x3_2 ++ [(⟨(⟨x860000_2, x860001_2, x860002_2⟩ : S36), (⟨(rd_T66 t852 x6_1).f1.f0, (rd_T66 t852 x6_1).f1.f1, (rd_T66 t852 x6_1).f1.f2⟩ : S36)⟩ : S66)]) := ⟨_, rfl⟩
                     rw [← hy861] at H; try dsimp only [Option.bind_some] at H
                     have Ny861 := Aside0.mk hy861
                     clear hy861
                     have H' := Aside0.mk H
                     clear H
                     obtain ⟨Ao47, co47, eo47⟩ := Kd.R_slice HO_5.out
                     subst eo47
                     try go_wp2
                     replace HO_3 := Aside0.mk (Kd.R_drew HO_3.out)
                     replace HO_4 := Aside0.mk (Kd.R_drew HO_4.out)
                     replace HO_5 := Aside0.mk (Kd.R_drew HO_5.out)
                     replace BK859 := Aside0.mk (blk_drew BK859.out)
                     replace HB := Aside0.mk (below_drew1 HB.out)
                     have p860 : 0 ≤ (x6_1 : Int) := za
                     have q860 : x6_1 < (t852.length : Int) := za
                     obtain ⟨ad860, e860, hx860_0, hx860_1, hx860_2, hx860_3, hx860_4, hx860_5⟩ := at_T66 (Kd.R_reads' HO_4.out).2.2 x6_1 p860 q860
                     obtain rfl : ad858 = ad860 := (by injection e860)
                     replace p860 := eq_true p860
                     replace q860 := eq_true q860
                     refine start_ (n := 11) (S := fun w' => w'.cell? ⟨gb859, 0, none⟩ = some (.bool x860000_2) ∧ w'.cell? ⟨gb859, 1, none⟩ = some (.int .u64 x860001_2) ∧ w'.cell? ⟨gb859, 2, none⟩ = some (.int .u64 x860002_2) ∧ w'.cell? (ad858.add ((x6_1).toNat * 6)) = some (.bool ((rd_T66 t852 x6_1).f0.f0)) ∧ w'.cell? ⟨(ad858.add ((x6_1).toNat * 6)).block, (ad858.add ((x6_1).toNat * 6)).off + 1, none⟩ = some (.int .u64 ((rd_T66 t852 x6_1).f0.f1)) ∧ w'.cell? ⟨(ad858.add ((x6_1).toNat * 6)).block, (ad858.add ((x6_1).toNat * 6)).off + 2, none⟩ = some (.int .u64 ((rd_T66 t852 x6_1).f0.f2)) ∧ w'.cell? ⟨(ad858.add ((x6_1).toNat * 6)).block, (ad858.add ((x6_1).toNat * 6)).off + 3, none⟩ = some (.bool ((rd_T66 t852 x6_1).f1.f0)) ∧ w'.cell? ⟨(ad858.add ((x6_1).toNat * 6)).block, (ad858.add ((x6_1).toNat * 6)).off + 4, none⟩ = some (.int .u64 ((rd_T66 t852 x6_1).f1.f1)) ∧ w'.cell? ⟨(ad858.add ((x6_1).toNat * 6)).block, (ad858.add ((x6_1).toNat * 6)).off + 5, none⟩ = some (.int .u64 ((rd_T66 t852 x6_1).f1.f2))) (ds := [8, 9]) #[false, false, false, false, false, false, false, false, false, false, false] (by kernel_rfl) rfl rfl ⟨zc BK859 0, zc BK859 1, zc BK859 2, hx860_0, hx860_1, hx860_2, hx860_3, hx860_4, hx860_5⟩ (fun hHeld => ?_); refine with_tabW intrusionref07_Complement.tab20 intrusionref07_Complement.bits20 (fun HT_ HW_ => ?_)
                     generalize wr.drew = w48 at HO_3 HO_4 HO_5 BK859 HB hx860_0 hx860_1 hx860_2 hx860_3 hx860_4 hx860_5 hHeld ⊢
                     refine zp 0 75 HT_ ?_; refine zp 2 77 HT_ ?_; refine zp 3 78 HT_ ?_; refine zp 4 79 HT_ ?_; refine zp 5 80 HT_ ?_; refine zt 1 76 HT_ HW_ hHeld ?_; refine zt 6 81 HT_ HW_ hHeld ?_; refine zp 7 82 HT_ ?_
                     refine last_ (i := 8) (N := some 83) #[true, true, true, true, true, true, true, true, true, false, false] rfl rfl (one_of HT_.out (by kernel_rfl)) (by decide) (fun K hK => ?_)
                     refine value_ (w1 := ?_) (v := ?_) (by rfl) rfl ?_ ?_
                     rotate_left 2
                     · go_simp
                       constructor
                       · rfl
                       · rfl
                     refine hK.out _ _ ?_
                     clear hK K
                     refine zn 83 ?_
                     refine last_ (i := 9) (N := some 84) #[true, true, true, true, true, true, true, true, true, true, false] rfl rfl (one_of HT_.out (by kernel_rfl)) (by decide) (fun K hK => ?_)
                     refine Kd.R_append_step k66 (w0 := w) w.heap.size (by rfl) (.tmp 75) (.tmp 83) 33 66 (.agg #[(.bool false), (.int .u64 0), (.int .u64 0), (.bool false), (.int .u64 0), (.int .u64 0)]) 48 rfl Try.underlying33 info66 rfl (by decide) (by omega) u3 x3_2 (⟨(⟨x860000_2, x860001_2, x860002_2⟩ : S36), (⟨(rd_T66 t852 x6_1).f1.f0, (rd_T66 t852 x6_1).f1.f1, (rd_T66 t852 x6_1).f1.f2⟩ : S36)⟩ : S66) [.bool x860000_2, .int .u64 x860001_2, .int .u64 x860002_2, .bool ((rd_T66 t852 x6_1).f1.f0), .int .u64 ((rd_T66 t852 x6_1).f1.f1), .int .u64 ((rd_T66 t852 x6_1).f1.f2)] (fun k_ => some k_ ≠ (.slice (some ad858) t852.length co9 : Value).ownBlock ∧ some k_ ≠ (.slice Ao47 t855.length co47 : Value).ownBlock) (fun _ => False) rfl rfl ?aP (fun _ hk => hk.elim) ?aF ?aO ?aB ?aS ?aL ?_
                     (case aP => exact k66_mkM _ _ _ (⟨(⟨x860000_2, x860001_2, x860002_2⟩ : S36), (⟨(rd_T66 t852 x6_1).f1.f0, (rd_T66 t852 x6_1).f1.f1, (rd_T66 t852 x6_1).f1.f2⟩ : S36)⟩ : S66))
                     (case aB => exact (zB HB))
                     (case aF => exact (fun k_ hk => ⟨Kd.fresh' (Kd.R_lt (zR HO_4)) k_ hk, Kd.fresh' (Kd.R_lt (zR HO_5)) k_ hk⟩))
                     (case aO => exact (zR HO_3))
                     (case aS => exact (below_size (zB HB)))
                     (case aL => have := LMc46.out; omega)
                     intro v862 w49 ho hb hg hat
                     rw [← Ny861.out] at ho
                     replace HO_4 := Aside0.mk (Kd.R_after (ok := (fun k_ => some k_ ≠ (.slice Ao47 t855.length co47 : Value).ownBlock)) (by (with_reducible repeat (first | apply Kd.R_alloc | apply Kd.R_drewN | apply Kd.R_drew)); exact Kd.R_mono HO_4.out (fun _ hk => ⟨hk.2, hk.1⟩)) hg hat)
                     replace HO_5 := Aside0.mk (Kd.R_after (ok := (fun k_ => some k_ ≠ (.slice (some ad858) t852.length co9 : Value).ownBlock)) (by (with_reducible repeat (first | apply Kd.R_alloc | apply Kd.R_drewN | apply Kd.R_drew)); exact Kd.R_mono HO_5.out (fun _ hk => ⟨hk.2, hk.1⟩)) hg hat)
                     replace BK859 := Aside0.mk (blk_grown (g := gb859) (o := .cells #[.bool x860000_2, .int .u64 x860001_2, .int .u64 x860002_2] 36 (0, 0)) (zK BK859) hg (Kd.R_ne HO_3.out BK859.out (by decide)))
                     replace HB := Aside0.mk (hb)
                     have HO863 := Aside0.mk (ho)
                     clear HO_3
                     clear ho hb hg hat
                     refine hK.out _ _ ?_
                     clear hK K
                     refine zn 84 ?_; refine zp 10 3 HT_ ?_; refine zd HT_ ?_
                     try go_wp2
                     go_roundg k2
                     case measure => have := HK1.out; have := HK2.out; omega
                     case rel => exact ⟨(y861), (wrap64 (x6_1 + 1)), (by first | rfl | (simp; done) | (simp [*]; done)), H', ⟨by have := HK1.out; have := HK2.out; omega⟩, ⟨zR HO863⟩, ⟨by (with_reducible repeat (first | apply Kd.R_alloc | apply Kd.R_drewN | apply Kd.R_drew)); exact Kd.R_mono HO_4.out (fun _ hk => ⟨hk.2, hk.1⟩)⟩, ⟨by (with_reducible repeat (first | apply Kd.R_alloc | apply Kd.R_drewN | apply Kd.R_drew)); exact Kd.R_mono HO_5.out (fun _ hk => ⟨hk.2, hk.1⟩)⟩, ⟨zB HB⟩⟩
                   · rw [if_neg c46] at H
                     exact absurd H (by simp)
                 · rw [if_neg c45] at H
                   exact absurd H (by simp)
               · rw [if_neg c44] at H
                 exact absurd H (by simp)
       · rw [if_neg c8] at H
         exact absurd H (by simp)
     · rw [if_neg c7] at H
       exact absurd H (by simp)
   · rw [if_neg c6] at H
     have c6b0 : decide (x6_1 < 2) = false := decide_eq_false c6
     clear c6
     obtain rfl := Option.some.inj H
     go_wp2
     go_ret
     exact ⟨_, by first | rfl | (simp [errW_none, errW_some] <;> rfl) | (simp [*, errW_none, errW_some] <;> rfl), by (with_reducible repeat (first | apply Kd.R_alloc | apply Kd.R_drewN | apply Kd.R_drew)); exact Kd.R_mono HO_3.out (fun _ hk => trivial), by repeat (first | (with_reducible first | exact HB.out | apply below_alloc | apply pw_below_drewN | apply below_drew1) | exact HB.out)⟩
end Go.Proofs.Ytcgfpffgiimgmaa.Q
end

section
namespace Go.Proofs.Ytcgfpffgiimgmaa.Q
open Go.RowKit Go.Proofs.YtcgfpffgiimgmaaW.PrintWords Go.Proofs.YtcgfpffgiimgmaaW.PrintLast Go.Proofs.YtcgfpffgiimgmaaW.PrintMore
attribute [local go_sem] max2_int min2_int max_two min_two max_three min_three max_four min_four
set_option linter.unusedVariables false
set_option linter.unusedSimpArgs false
def intrusionref07_Minus.f (k : Nat) (l0 : List (S66)) (l1 : List (S66)) : Option ((List (S66))) := (intrusionref07_Complement.f k l1).bind fun t881 => ((intrusionref07_Intersect.f k l0 t881).bind fun t884 => (some t884))
theorem intrusionref07_Minus.mono : ∀ a0 a1 k, LeO (intrusionref07_Minus.f k a0 a1) (intrusionref07_Minus.f (k + 1) a0 a1) := by
  intro a0 a1 k
  unfold intrusionref07_Minus.f
  repeat' first
      | (with_reducible exact intrusionref07_Complement.mono _ _)
      | (with_reducible exact intrusionref07_Intersect.mono _ _ _)
      | (with_reducible exact LeO.refl _)
      | (with_reducible exact LeO.none _)
      | (with_reducible refine LeO.ite ?_ ?_)
      | (with_reducible refine LeO.bind ?_ (fun _ => ?_))
      | exact intrusionref07_Complement.mono _ _
      | exact intrusionref07_Intersect.mono _ _ _
      | exact LeO.none _
      | refine LeO.ite ?_ ?_
      | refine LeO.bind ?_ (fun _ => ?_)
set_option maxHeartbeats 8000000 in
set_option maxRecDepth 100000 in
theorem intrusionref07_Minus.calls (k : Nat) (A0 : Option Addr) (c0 : Nat) (l0 : List (S66)) (A1 : Option Addr) (c1 : Nat) (l1 : List (S66)) (r : List (S66)) (w : World) (hr0 : Kd.C k66 w A0 l0.length l0) (hc0 : l0.length ≤ c0) (hr1 : Kd.C k66 w A1 l1.length l1) (hc1 : l1.length ≤ c1) (h : intrusionref07_Minus.f k l0 l1 = some r) :
 Calls Try.prog 57 #[.slice A0 l0.length c0, .slice A1 l1.length c1] w fun e w' => ∃ v0_ : Value, e = .returned (v0_) ∧ Kd.R k66 66 w' w.heap.size (fun _ => True) v0_ r ∧ Below w.heap.size w w' := by
 have HR0 := Aside0.mk hr0
 have HC0 := Aside0.mk hc0
 clear hr0 hc0
 have HR1 := Aside0.mk hr1
 have HC1 := Aside0.mk hc1
 clear hr1 hc1
 have HB := Aside0.mk (Below.refl w.heap.size w)
 unfold intrusionref07_Minus.f at h; have H := h
 clear h
 replace H := Option.bind_eq_some_iff.mp H
 obtain ⟨t881, A30, H⟩ := H
 try dsimp only at H
 have A3 := Aside0.mk A30
 clear A30
 replace H := Option.bind_eq_some_iff.mp H
 obtain ⟨t884, A40, H⟩ := H
 try dsimp only at H
 have A4 := Aside0.mk A40
 clear A40
 obtain rfl := Option.some.inj H
 go_enter Try.func57, Try.ntmps57
 go_wp2_with (first | ((with_reducible refine gate_callee (f := 97) rfl ?_); refine goesL_ (some 7) rfl rfl Try.func97 (by kernel_rfl) rfl #[.slice A1 l1.length c1] rfl (by (try simp only [List.map_toArray, List.map_cons, List.map_nil]); first | done | rfl | (simp only [List.length_drop, List.length_take]; rfl)) ?_; (with_reducible refine (intrusionref07_Complement.calls k _ _ l1 t881 _ ?side1 ?side2 A3.out).mono ?_); (case side1 => repeat (first | exact HR1.out | (with_reducible refine Kd.C_alloc ?_ _) | (with_reducible refine Kd.C_drewN ?_ _) | (with_reducible refine Kd.C_drew ?_))); (case side2 => exact HC1.out); rintro e w5 ⟨v882, rfl, ho0, hb⟩; refine ⟨_, rfl, ?_⟩; have HO883 := Aside0.mk (Kd.R_lower ho0 (below_size (zB HB))); replace HB := Aside0.mk (below_step (zB HB) hb); (try clear hb); (try clear ho0); obtain ⟨Ao6, co6, eo6⟩ := Kd.R_slice HO883.out; subst eo6) | ((with_reducible refine gate_callee (f := 55) rfl ?_); refine goesL_ (some 8) rfl rfl Try.func55 (by kernel_rfl) rfl #[.slice A0 l0.length c0, .slice Ao6 t881.length co6] rfl (by (try simp only [List.map_toArray, List.map_cons, List.map_nil]); first | done | rfl | (simp only [List.length_drop, List.length_take]; rfl)) ?_; (with_reducible refine (intrusionref07_Intersect.calls k _ _ l0 _ _ t881 t884 _ ?side1 ?side2 ?side3 ?side4 A4.out).mono ?_); (case side1 => repeat (first | exact (Kd.C_below HR0.out HB.out) | (with_reducible refine Kd.C_alloc ?_ _) | (with_reducible refine Kd.C_drewN ?_ _) | (with_reducible refine Kd.C_drew ?_))); (case side2 => exact HC0.out); (case side3 => repeat (first | exact (Kd.R_reads' HO883.out).2.2 | (with_reducible refine Kd.C_alloc ?_ _) | (with_reducible refine Kd.C_drewN ?_ _) | (with_reducible refine Kd.C_drew ?_))); (case side4 => exact (Kd.R_reads' HO883.out).2.1); rintro e w7 ⟨v885, rfl, ho0, hb⟩; refine ⟨_, rfl, ?_⟩; have HO886 := Aside0.mk (Kd.R_lower (Kd.R_new' ho0 (Kd.R_lt (zR HO883))) (below_size (zB HB))); replace HO883 := Aside0.mk (Kd.R_elder' (zR HO883) (Kd.R_base ho0) hb); replace HB := Aside0.mk (below_step (zB HB) hb); (try clear hb); (try clear ho0)))
 go_ret
 exact ⟨_, by first | rfl | (simp [errW_none, errW_some] <;> rfl) | (simp [*, errW_none, errW_some] <;> rfl), by (with_reducible repeat (first | apply Kd.R_alloc | apply Kd.R_drewN | apply Kd.R_drew)); exact Kd.R_mono HO886.out (fun _ hk => trivial), by repeat (first | (with_reducible first | exact HB.out | apply below_alloc | apply pw_below_drewN | apply below_drew1) | exact HB.out)⟩
end Go.Proofs.Ytcgfpffgiimgmaa.Q
end

section
set_option linter.unusedVariables false
set_option linter.unusedSimpArgs false
namespace Go.Proofs.Ytcgfpffgiimgmaa.Q
open Go.RowKit Go.Proofs.YtcgfpffgiimgmaaW.PrintWords Go.Proofs.YtcgfpffgiimgmaaW.PrintLast Go.Proofs.YtcgfpffgiimgmaaW.PrintMore
def grow_Range.f (a1 : Int) : Option (List S66) := if 0 ≤ a1 ∧ a1 ≤ 2932031007402 then some [] else none
set_option maxHeartbeats 1000000 in
theorem grow_Range.pos (a1 : Int) (w : World) (h0 : 0 < a1) (h1 : a1 ≤ 2932031007402) :
    Calls Try.prog 114 #[.slice none 0 0, .int .i64 a1] w fun e w' => ∃ v0_ : Value, e = .returned (v0_) ∧ Kd.R k66 66 w' w.heap.size (fun _ => True) v0_ [] ∧ Below w.heap.size w w' := by
  have hb0 : decide (a1 < 0) = false := by simp; omega
  have hb1 : decide (0 < a1) = true := by simp; omega
  have hu := Try.underlying33
  go_enter Try.func114, Try.ntmps114
  go_wp2_with (at_builtin; refine Kd.R_append_zeros k66 w.heap.size rfl (.tmp 20) (.tmp 21) 33 3 66 (.agg #[.bool false, .int .u64 0, .int .u64 0, .bool false, .int .u64 0, .int .u64 0]) 48 rfl Try.underlying33 Try.underlying3 info66 rfl (by decide) (by decide) _ ([] : List S66) z66 a1 (fun _ => True) rfl rfl (k66_mkM _ _ _ z66) (fun _ _ => trivial) (Kd.R_nil _ _ _ _ _) (by omega) (Below.refl _ _) (Nat.le_refl _) (by simp; omega) ?_; intro v1 w1 ho hb hg hat; obtain ⟨g, cap, rfl, _⟩ := Kd.R_form ho (by simp; omega); have HO := Aside0.mk ho; have HB := Aside0.mk hb; clear ho hb hg hat)
  go_ret
  have h2 := Kd.R_take (m := 0) HO.out (Nat.zero_le _)
  exact ⟨_, rfl, by simpa using h2, HB.out⟩
set_option maxHeartbeats 1000000 in
theorem grow_Range.calls (a1 : Int) (r : List S66) (w : World) (h : grow_Range.f a1 = some r) :
    Calls Try.prog 114 #[.slice none 0 0, .int .i64 a1] w fun e w' => ∃ v0_ : Value, e = .returned (v0_) ∧ Kd.R k66 66 w' w.heap.size (fun _ => True) v0_ r ∧ Below w.heap.size w w' := by
  unfold grow_Range.f at h
  by_cases hc : 0 ≤ a1 ∧ a1 ≤ 2932031007402
  · rw [if_pos hc] at h
    injection h with h
    subst h
    by_cases hz : a1 = 0
    · subst hz
      clear hc
      go_enter Try.func114, Try.ntmps114
      go_wp2
      go_ret
      exact ⟨_, rfl, Kd.R_nil _ _ _ _ _, Below.refl _ _⟩
    · exact grow_Range.pos a1 w (by omega) hc.2
  · rw [if_neg hc] at h
    cases h
end Go.Proofs.Ytcgfpffgiimgmaa.Q
end

section
namespace Go.Proofs.Ytcgfpffgiimgmaa.Q
open Go.RowKit Go.Proofs.YtcgfpffgiimgmaaW.PrintWords Go.Proofs.YtcgfpffgiimgmaaW.PrintLast Go.Proofs.YtcgfpffgiimgmaaW.PrintMore
attribute [local go_sem] max2_int min2_int max_two min_two max_three min_three max_four min_four
set_option linter.unusedVariables false
set_option linter.unusedSimpArgs false
mutual
def slices_Concat_Range.l0 : Nat → List (List (S66)) → Int → List (List (S66)) → Int → Int → Option ((List (S66)))
  | 0, _, _, _, _, _ => none
  | k + 1, x0, x3, x9, x10, x11 => if x11 < x10 then (if 0 ≤ x11 then (if x11 < (x9.length : Int) then (if (wrap64 (x3 + ((rd_L7 x9 x11).length : Int))) < 0 then (none) else (slices_Concat_Range.l0 k x0 (wrap64 (x3 + ((rd_L7 x9 x11).length : Int))) x9 x10 (wrap64 (x11 + 1)))) else (none)) else (none)) else ((grow_Range.f x3).bind fun t922 => (slices_Concat_Range.l1 k t922 x0 (x0.length : Int) 0))
def slices_Concat_Range.l1 : Nat → List (S66) → List (List (S66)) → Int → Int → Option ((List (S66)))
  | 0, _, _, _, _ => none
  | k + 1, x6, x25, x26, x27 => if x27 < x26 then (if 0 ≤ x27 then (if x27 < (x25.length : Int) then (if x6.length + (rd_L7 x25 x27).length < 2932031007402 then (slices_Concat_Range.l1 k (x6 ++ (rd_L7 x25 x27)) x25 x26 (wrap64 (x27 + 1))) else (none)) else (none)) else (none)) else (some x6)
end
def slices_Concat_Range.f (k : Nat) (l0 : List (List (S66))) : Option ((List (S66))) := slices_Concat_Range.l0 k l0 0 l0 (l0.length : Int) 0
theorem slices_Concat_Range.mono_l : ∀ k, (∀ y0 y1 y2 y3 y4, LeO (slices_Concat_Range.l0 k y0 y1 y2 y3 y4) (slices_Concat_Range.l0 (k + 1) y0 y1 y2 y3 y4)) ∧ (∀ y0 y1 y2 y3, LeO (slices_Concat_Range.l1 k y0 y1 y2 y3) (slices_Concat_Range.l1 (k + 1) y0 y1 y2 y3))
  | 0 => ⟨fun _ _ _ _ _ r h => by simp [slices_Concat_Range.l0] at h, fun _ _ _ _ r h => by simp [slices_Concat_Range.l1] at h⟩
  | k + 1 => by
    obtain ⟨ih0, ih1⟩ := slices_Concat_Range.mono_l k
    refine ⟨?_, ?_⟩
    · intro y0 y1 y2 y3 y4
      unfold slices_Concat_Range.l0
      repeat' first
      | (with_reducible exact ih0 _ _ _ _ _)
      | (with_reducible exact ih1 _ _ _ _)
      | (with_reducible exact LeO.refl _)
      | (with_reducible exact LeO.none _)
      | (with_reducible refine LeO.ite ?_ ?_)
      | (with_reducible refine LeO.bind ?_ (fun _ => ?_))
      | exact ih0 _ _ _ _ _
      | exact ih1 _ _ _ _
      | exact LeO.none _
      | refine LeO.ite ?_ ?_
      | refine LeO.bind ?_ (fun _ => ?_)
    · intro y0 y1 y2 y3
      unfold slices_Concat_Range.l1
      repeat' first
      | (with_reducible exact ih0 _ _ _ _ _)
      | (with_reducible exact ih1 _ _ _ _)
      | (with_reducible exact LeO.refl _)
      | (with_reducible exact LeO.none _)
      | (with_reducible refine LeO.ite ?_ ?_)
      | (with_reducible refine LeO.bind ?_ (fun _ => ?_))
      | exact ih0 _ _ _ _ _
      | exact ih1 _ _ _ _
      | exact LeO.none _
      | refine LeO.ite ?_ ?_
      | refine LeO.bind ?_ (fun _ => ?_)
theorem slices_Concat_Range.mono : ∀ a0 k, LeO (slices_Concat_Range.f k a0) (slices_Concat_Range.f (k + 1) a0) := by
  intro a0 k
  obtain ⟨ih0, ih1⟩ := slices_Concat_Range.mono_l k
  unfold slices_Concat_Range.f
  repeat' first
      | (with_reducible exact ih0 _ _ _ _ _)
      | (with_reducible exact ih1 _ _ _ _)
      | (with_reducible exact LeO.refl _)
      | (with_reducible exact LeO.none _)
      | (with_reducible refine LeO.ite ?_ ?_)
      | (with_reducible refine LeO.bind ?_ (fun _ => ?_))
      | exact ih0 _ _ _ _ _
      | exact ih1 _ _ _ _
      | exact LeO.none _
      | refine LeO.ite ?_ ?_
      | refine LeO.bind ?_ (fun _ => ?_)
set_option maxHeartbeats 8000000 in
set_option maxRecDepth 100000 in
theorem slices_Concat_Range.calls (k : Nat) (A0 : Option Addr) (c0 : Nat) (l0 : List (List (S66))) (r : List (S66)) (w : World) (hr0 : Kd.C (Kd.slice 66 k66) w A0 l0.length l0) (hc0 : l0.length ≤ c0) (h : slices_Concat_Range.f k l0 = some r) :
 Calls Try.prog 94 #[.slice A0 l0.length c0] w fun e w' => ∃ v0_ : Value, e = .returned (v0_) ∧ Kd.R k66 66 w' w.heap.size (fun _ => True) v0_ r ∧ Below w.heap.size w w' := by
 have HR0 := Aside0.mk hr0
 have HC0 := Aside0.mk hc0
 clear hr0 hc0
 have HB := Aside0.mk (Below.refl w.heap.size w)
 unfold slices_Concat_Range.f at h; have H := h
 clear h
 have H' := Aside0.mk H
 clear H
 go_enter Try.func94, Try.ntmps94
 go_wp2
 go_loopg [3, 11] k (fun kq v3 v11 w' => ∃ (x3_1 : Int) (x11_1 : Int), v3 = .int .i64 x3_1 ∧ v11 = .int .i64 x11_1 ∧ Aside0 (slices_Concat_Range.l0 kq l0 x3_1 l0 (l0.length : Int) x11_1 = some r) ∧ Aside0 (kq ≤ k) ∧ Aside0 (Below w.heap.size w w'))
 case atStart => exact ⟨(0), (0), (by first | rfl | (simp; done) | (simp [*]; done)), (by first | rfl | (simp; done) | (simp [*]; done)), H', ⟨Nat.le_refl _⟩, ⟨zB HB⟩⟩
 case round =>
  clear H'
  obtain ⟨x3_1, x11_1, rfl, rfl, HA, HK1, HB⟩ := hrel
  cases gk with
  | zero => exact absurd HA.out (by simp [slices_Concat_Range.l0])
  | succ k1 =>
   have H := HA.out
   clear HA
   simp only [slices_Concat_Range.l0] at H
   by_cases c2 : x11_1 < (l0.length : Int)
   · rw [if_pos c2] at H
     have c2b0 : decide (x11_1 < (l0.length : Int)) = true := decide_eq_true c2
     clear c2
     by_cases c3 : 0 ≤ x11_1
     · rw [if_pos c3] at H
       have c3b0 : decide (0 ≤ x11_1) = true := decide_eq_true c3
       clear c3
       by_cases c4 : x11_1 < (l0.length : Int)
       · rw [if_pos c4] at H
         have c4b0 : decide (x11_1 < (l0.length : Int)) = true := decide_eq_true c4
         clear c4
         by_cases c5 : (wrap64 (x3_1 + ((rd_L7 l0 x11_1).length : Int))) < 0
         · rw [if_pos c5] at H
           exact absurd H (by simp)
         · rw [if_neg c5] at H
           have c5b0 : decide ((wrap64 (x3_1 + ((rd_L7 l0 x11_1).length : Int))) < 0) = false := decide_eq_false c5
           clear c5
           have H' := Aside0.mk H
           clear H
           have p921 : 0 ≤ (x11_1 : Int) := za
           have q921 : x11_1 < (l0.length : Int) := za
           obtain ⟨ad921, A921_0, c921_0, e921, hx921_0, hl921_0, hi921_0⟩ := at_L7 HR0.out x11_1 p921 q921
           cases e921
           replace hx921_0 := zh HB hx921_0
           have HR921_0 := Aside0.mk hi921_0
           have HC921_0 := Aside0.mk hl921_0
           clear hi921_0 hl921_0
           replace p921 := eq_true p921
           replace q921 := eq_true q921
           go_wp2
           go_roundg k1
           case measure => have := HK1.out; omega
           case rel => exact ⟨(wrap64 (x3_1 + ((rd_L7 l0 x11_1).length : Int))), (wrap64 (x11_1 + 1)), (by first | rfl | (simp; done) | (simp [*]; done)), (by first | rfl | (simp; done) | (simp [*]; done)), H', ⟨by have := HK1.out; omega⟩, ⟨zB HB⟩⟩
       · rw [if_neg c4] at H
         exact absurd H (by simp)
     · rw [if_neg c3] at H
       exact absurd H (by simp)
   · rw [if_neg c2] at H
     have c2b0 : decide (x11_1 < (l0.length : Int)) = false := decide_eq_false c2
     clear c2
     replace H := Option.bind_eq_some_iff.mp H
     obtain ⟨t922, A60, H⟩ := H
     try dsimp only at H
     have A6 := Aside0.mk A60
     clear A60
     have H' := Aside0.mk H
     clear H
     go_wp2_with (first | ((with_reducible refine gate_callee (f := 114) rfl ?_); refine goesL_ (some 24) rfl rfl Try.func114 (by kernel_rfl) rfl #[.slice none 0 0, .int .i64 x3_1] rfl (by (try simp only [List.map_toArray, List.map_cons, List.map_nil]); first | done | rfl | (simp only [List.length_drop, List.length_take]; rfl)) ?_; (with_reducible refine (grow_Range.calls  x3_1 t922 _ A6.out).mono ?_); rintro e w7 ⟨v923, rfl, ho0, hb⟩; refine ⟨_, rfl, ?_⟩; have HO924 := Aside0.mk (Kd.R_lower ho0 (below_size (zB HB))); replace HB := Aside0.mk (below_step (zB HB) hb); (try clear hb); (try clear ho0)))
     go_loopg [6, 27] k1 (fun kq v6 v27 w' => ∃ (x6_2 : List (S66)) (x27_2 : Int), v27 = .int .i64 x27_2 ∧ Aside0 (slices_Concat_Range.l1 kq x6_2 l0 (l0.length : Int) x27_2 = some r) ∧ Aside0 (kq ≤ k1) ∧ Aside0 (Kd.R k66 66 w' w.heap.size (fun _ => True) v6 x6_2) ∧ Aside0 (Below w.heap.size w w'))
     case atStart => exact ⟨(t922), (0), (by first | rfl | (simp; done) | (simp [*]; done)), H', ⟨Nat.le_refl _⟩, ⟨zR HO924⟩, ⟨zB HB⟩⟩
     case round =>
      clear H'
      try clear c1
      try clear c2
      try clear c2b0
      try clear p2
      try clear c3
      try clear c3b0
      try clear c4
      try clear c4b0
      try clear c5
      try clear c5b0
      try clear p6
      try clear hx921_0
      try clear p921
      try clear q921
      obtain ⟨x6_2, x27_2, rfl, HA, HK2, HO_6, HB⟩ := hrel
      cases gk with
      | zero => exact absurd HA.out (by simp [slices_Concat_Range.l1])
      | succ k2 =>
       have H := HA.out
       clear HA
       simp only [slices_Concat_Range.l1] at H
       by_cases c8 : x27_2 < (l0.length : Int)
       · rw [if_pos c8] at H
         have c8b0 : decide (x27_2 < (l0.length : Int)) = true := decide_eq_true c8
         clear c8
         by_cases c9 : 0 ≤ x27_2
         · rw [if_pos c9] at H
           have c9b0 : decide (0 ≤ x27_2) = true := decide_eq_true c9
           clear c9
           by_cases c10 : x27_2 < (l0.length : Int)
           · rw [if_pos c10] at H
             have c10b0 : decide (x27_2 < (l0.length : Int)) = true := decide_eq_true c10
             clear c10
             by_cases c11 : x6_2.length + (rd_L7 l0 x27_2).length < 2932031007402
             · rw [if_pos c11] at H
               have LMc11 := Aside0.mk c11
               clear c11
               obtain ⟨y926, hy926⟩ : ∃ y_ : List (S66), y_ = (x6_2 ++ (rd_L7 l0 x27_2)) := ⟨_, rfl⟩
               rw [← hy926] at H; try dsimp only [Option.bind_some] at H
               have Ny926 := Aside0.mk hy926
               clear hy926
               have H' := Aside0.mk H
               clear H
               have p925 : 0 ≤ (x27_2 : Int) := za
               have q925 : x27_2 < (l0.length : Int) := za
               obtain ⟨ad925, A925_0, c925_0, e925, hx925_0, hl925_0, hi925_0⟩ := at_L7 HR0.out x27_2 p925 q925
               cases e925
               replace hx925_0 := zh HB hx925_0
               have HR925_0 := Aside0.mk hi925_0
               have HC925_0 := Aside0.mk hl925_0
               clear hi925_0 hl925_0
               replace p925 := eq_true p925
               replace q925 := eq_true q925
               go_wp2_with (first | ((with_reducible refine gate_builtin (b := .append) (xs := #[.tmp 31, .tmp 32]) rfl ?_); at_builtin; refine Kd.R_append_rows k66 (w0 := w) w.heap.size rfl (.tmp 31) (.tmp 32) 33 66 (.agg #[(.bool false), (.int .u64 0), (.int .u64 0), (.bool false), (.int .u64 0), (.int .u64 0)]) 48 rfl Try.underlying33 info66 rfl (by decide) (by omega) u6 x6_2 (rd_L7 l0 x27_2) _ _ _ (fun _ => True) (fun _ => False) rfl rfl ?aO ?aR (fun _ _ h => h) (fun _ h => h.elim) ?aF ?aB ?aS ?aL ?_; (case aR => repeat (first | exact (Kd.C_below HR925_0.out HB.out) | (with_reducible refine Kd.C_alloc ?_ _) | (with_reducible refine Kd.C_drewN ?_ _) | (with_reducible refine Kd.C_drew ?_))); (case aB => exact (zB HB)); (case aF => exact (fun _ _ => trivial)); (case aO => exact (zR HO_6)); (case aS => exact (below_size (zB HB))); (case aL => have := LMc11.out; omega); intro v927 w12 ho hb hg hat; rw [← Ny926.out] at ho; replace HB := Aside0.mk (hb); have HO928 := Aside0.mk (ho); clear HO_6; clear ho hb hg hat))
               go_roundg k2
               case measure => have := HK1.out; have := HK2.out; omega
               case rel => exact ⟨(y926), (wrap64 (x27_2 + 1)), (by first | rfl | (simp; done) | (simp [*]; done)), H', ⟨by have := HK1.out; have := HK2.out; omega⟩, ⟨zR HO928⟩, ⟨zB HB⟩⟩
             · rw [if_neg c11] at H
               exact absurd H (by simp)
           · rw [if_neg c10] at H
             exact absurd H (by simp)
         · rw [if_neg c9] at H
           exact absurd H (by simp)
       · rw [if_neg c8] at H
         have c8b0 : decide (x27_2 < (l0.length : Int)) = false := decide_eq_false c8
         clear c8
         obtain rfl := Option.some.inj H
         go_wp2
         go_ret
         exact ⟨_, by first | rfl | (simp [errW_none, errW_some] <;> rfl) | (simp [*, errW_none, errW_some] <;> rfl), by (with_reducible repeat (first | apply Kd.R_alloc | apply Kd.R_drewN | apply Kd.R_drew)); exact HO_6.out, by repeat (first | (with_reducible first | exact HB.out | apply below_alloc | apply pw_below_drewN | apply below_drew1) | exact HB.out)⟩
end Go.Proofs.Ytcgfpffgiimgmaa.Q
end

section
namespace Go.Proofs.Ytcgfpffgiimgmaa.Q
open Go.RowKit Go.Proofs.YtcgfpffgiimgmaaW.PrintWords Go.Proofs.YtcgfpffgiimgmaaW.PrintLast Go.Proofs.YtcgfpffgiimgmaaW.PrintMore
attribute [local go_sem] max2_int min2_int max_two min_two max_three min_three max_four min_four
set_option linter.unusedVariables false
set_option linter.unusedSimpArgs false
def addrset_Union.f (k : Nat) (l0 : List (S66)) (l1 : List (S66)) : Option ((List (S66))) := (slices_Concat_Range.f k (([l0, l1] : List (List (S66))))).bind fun t932 => ((addrset_Normal.f k t932).bind fun t935 => (some t935))
theorem addrset_Union.mono : ∀ a0 a1 k, LeO (addrset_Union.f k a0 a1) (addrset_Union.f (k + 1) a0 a1) := by
  intro a0 a1 k
  unfold addrset_Union.f
  repeat' first
      | (with_reducible exact addrset_Normal.mono _ _)
      | (with_reducible exact slices_Concat_Range.mono _ _)
      | (with_reducible exact LeO.refl _)
      | (with_reducible exact LeO.none _)
      | (with_reducible refine LeO.ite ?_ ?_)
      | (with_reducible refine LeO.bind ?_ (fun _ => ?_))
      | exact addrset_Normal.mono _ _
      | exact slices_Concat_Range.mono _ _
      | exact LeO.none _
      | refine LeO.ite ?_ ?_
      | refine LeO.bind ?_ (fun _ => ?_)
set_option maxHeartbeats 8000000 in
set_option maxRecDepth 100000 in
theorem addrset_Union.calls (k : Nat) (P0_ : Nat → Prop) (A0 : Option Addr) (c0 : Nat) (l0 : List (S66)) (P1_ : Nat → Prop) (A1 : Option Addr) (c1 : Nat) (l1 : List (S66)) (r : List (S66)) (w : World) (hs0 : Kd.V k66 66 w w.heap.size (fun k_ => P0_ k_) (.slice A0 l0.length c0) l0) (hs1 : Kd.V k66 66 w w.heap.size (fun k_ => P1_ k_) (.slice A1 l1.length c1) l1) (h : addrset_Union.f k l0 l1 = some r) :
 Calls Try.prog 52 #[.slice A0 l0.length c0, .slice A1 l1.length c1] w fun e w' => ∃ v0_ : Value, e = .returned (v0_) ∧ Kd.R k66 66 w' w.heap.size (fun k_ => (w.heap.size ≤ k_)) v0_ r ∧ Below w.heap.size w w' := by
 have HO0 := Aside0.mk (show Kd.V k66 66 w w.heap.size (fun k_ => ((P0_ k_ ∨ P1_ k_) ∨ w.heap.size ≤ k_)) (.slice A0 l0.length c0) l0 from Kd.V_mono hs0 (fun k_ hk => .inl (.inl hk)))
 have HO1 := Aside0.mk (show Kd.V k66 66 w w.heap.size (fun k_ => ((P0_ k_ ∨ P1_ k_) ∨ w.heap.size ≤ k_)) (.slice A1 l1.length c1) l1 from Kd.V_mono hs1 (fun k_ hk => .inl (.inr hk)))
 have HB := Aside0.mk (Below.refl w.heap.size w)
 unfold addrset_Union.f at h; have H := h
 clear h
 obtain ⟨y929, hy929⟩ : ∃ y_ : List (List (S66)), y_ = (([l0, l1] : List (List (S66)))) := ⟨_, rfl⟩
 rw [← hy929] at H; try dsimp only [Option.bind_some] at H
 have Ny929 := Aside0.mk hy929
 clear hy929
 replace H := Option.bind_eq_some_iff.mp H
 obtain ⟨t932, A30, H⟩ := H
 try dsimp only at H
 have A3 := Aside0.mk A30
 clear A30
 replace H := Option.bind_eq_some_iff.mp H
 obtain ⟨t935, A40, H⟩ := H
 try dsimp only at H
 have A4 := Aside0.mk A40
 clear A40
 obtain rfl := Option.some.inj H
 go_enter Try.func52, Try.ntmps52
 go_wp2_with (first | ((with_reducible refine gate_dst (N := 7) rfl ?_); refine Kd.N_lit (Kd.slice 66 k66) _ 33 ?hg (N' := 7) ?hd (xs := ([l0, l1] : List (List (S66)))) (inner := [.slice A0 l0.length c0, .slice A1 l1.length c1]) (ok := (fun k_ => ((P0_ k_ ∨ P1_ k_) ∨ w.heap.size ≤ k_))) (okp := (fun k_ => ((P0_ k_ ∨ P1_ k_) ∨ w.heap.size ≤ k_))) ?hr ?hp (fun _ hk => hk) ((show ∀ k_, w.heap.size ≤ k_ → (fun k_ => ((P0_ k_ ∨ P1_ k_) ∨ w.heap.size ≤ k_)) k_ from fun k_ hk => (.inr (Nat.le_trans (below_size (zB HB)) hk))) _ (Nat.le_refl _)) (Below.refl _ _) (Nat.le_refl _) (by simp) ?_; (case hd => rfl); (case hg => rfl); (case hr => first | (go_simp; done) | (go_simp; rfl)); (case hp => exact (Reps.one (show Kd.FK (Kd.slice 66 k66) _ _ l0 [.slice A0 l0.length c0] from (Kd.FK_slice_mk (Kd.V_reads' (Kd.V_mono (ok' := (fun k_ => ((P0_ k_ ∨ P1_ k_) ∨ w.heap.size ≤ k_))) (HO0.out) (fun k_ hk => hk))).2.1 (Kd.V_F (Kd.V_mono (ok' := (fun k_ => ((P0_ k_ ∨ P1_ k_) ∨ w.heap.size ≤ k_))) (HO0.out) (fun k_ hk => hk))))) (Reps.one (show Kd.FK (Kd.slice 66 k66) _ _ l1 [.slice A1 l1.length c1] from (Kd.FK_slice_mk (Kd.V_reads' (Kd.V_mono (ok' := (fun k_ => ((P0_ k_ ∨ P1_ k_) ∨ w.heap.size ≤ k_))) (HO1.out) (fun k_ hk => hk))).2.1 (Kd.V_F (Kd.V_mono (ok' := (fun k_ => ((P0_ k_ ∨ P1_ k_) ∨ w.heap.size ≤ k_))) (HO1.out) (fun k_ hk => hk))))) (Reps.none _ _)))); intro v930 w5 ho6 hb hg_ hnew_; clear hg_ hnew_; (first | rw [← Ny929.out] at ho6 | (simp only [Int.reduceToNat] at ho6; rw [← Ny929.out] at ho6)); replace HO0 := Aside0.mk (Kd.V_elder' (by (with_reducible repeat (first | apply Kd.V_alloc | apply Kd.V_drewN | apply Kd.V_drew)); exact HO0.out) (Kd.N_base ho6) hb); replace HO1 := Aside0.mk (Kd.V_elder' (by (with_reducible repeat (first | apply Kd.V_alloc | apply Kd.V_drewN | apply Kd.V_drew)); exact HO1.out) (Kd.N_base ho6) hb); have HO931 := Aside0.mk (Kd.N_lower ho6 (below_size (zB HB))); replace HB := Aside0.mk (below_step (zB HB) hb); clear hb ho6; obtain ⟨Ao7, co7, eo7⟩ := Kd.N_slice HO931.out; subst eo7) | ((with_reducible refine gate_callee (f := 94) rfl ?_); refine goesL_ (some 8) rfl rfl Try.func94 (by kernel_rfl) rfl #[.slice Ao7 y929.length co7] rfl (by (try simp only [List.map_toArray, List.map_cons, List.map_nil]); first | done | rfl | (simp only [List.length_drop, List.length_take]; rfl)) ?_; (with_reducible refine (slices_Concat_Range.calls k _ _ y929 t932 _ ?side1 ?side2 A3.out).mono ?_); (case side1 => repeat (first | exact (Kd.N_reads' HO931.out).2.2 | (with_reducible refine Kd.C_alloc ?_ _) | (with_reducible refine Kd.C_drewN ?_ _) | (with_reducible refine Kd.C_drew ?_))); (case side2 => exact (Kd.N_reads' HO931.out).2.1); rintro e w8 ⟨v933, rfl, ho0, hb⟩; refine ⟨_, rfl, ?_⟩; replace HO0 := Aside0.mk (Kd.V_elder' (by (with_reducible repeat (first | apply Kd.V_alloc | apply Kd.V_drewN | apply Kd.V_drew)); exact HO0.out) (Kd.R_base ho0) hb); replace HO1 := Aside0.mk (Kd.V_elder' (by (with_reducible repeat (first | apply Kd.V_alloc | apply Kd.V_drewN | apply Kd.V_drew)); exact HO1.out) (Kd.R_base ho0) hb); replace HO931 := Aside0.mk (Kd.N_elder' (by (with_reducible repeat (first | apply Kd.N_alloc | apply Kd.N_drewN | apply Kd.N_drew)); exact HO931.out) (Kd.R_base ho0) hb); have HO934 := Aside0.mk (Kd.R_lower (Kd.R_newM (M := fun k_ => (w.heap.size ≤ k_)) ho0 (below_size (zB HB)) (fun k_ h_ => h_)) (below_size (zB HB))); replace HB := Aside0.mk (below_step (zB HB) hb); (try clear hb); (try clear ho0); obtain ⟨Ao9, co9, eo9⟩ := Kd.R_slice HO934.out; subst eo9) | ((with_reducible refine gate_callee (f := 38) rfl ?_); refine goesL_ (some 9) rfl rfl Try.func38 (by kernel_rfl) rfl #[.slice Ao9 t932.length co9] rfl (by (try simp only [List.map_toArray, List.map_cons, List.map_nil]); first | done | rfl | (simp only [List.length_drop, List.length_take]; rfl)) ?_; (with_reducible refine (addrset_Normal.calls k _ _ t932 t935 _ ?side1 ?side2 A4.out).mono ?_); (case side1 => repeat (first | exact (Kd.R_reads' HO934.out).2.2 | (with_reducible refine Kd.C_alloc ?_ _) | (with_reducible refine Kd.C_drewN ?_ _) | (with_reducible refine Kd.C_drew ?_))); (case side2 => exact (Kd.R_reads' HO934.out).2.1); rintro e w10 ⟨v936, rfl, ho0, hb⟩; refine ⟨_, rfl, ?_⟩; replace HO0 := Aside0.mk (Kd.V_elder' (by (with_reducible repeat (first | apply Kd.V_alloc | apply Kd.V_drewN | apply Kd.V_drew)); exact HO0.out) (Kd.R_base ho0) hb); replace HO1 := Aside0.mk (Kd.V_elder' (by (with_reducible repeat (first | apply Kd.V_alloc | apply Kd.V_drewN | apply Kd.V_drew)); exact HO1.out) (Kd.R_base ho0) hb); replace HO931 := Aside0.mk (Kd.N_elder' (by (with_reducible repeat (first | apply Kd.N_alloc | apply Kd.N_drewN | apply Kd.N_drew)); exact HO931.out) (Kd.R_base ho0) hb); have HO937 := Aside0.mk (Kd.R_lower (Kd.R_new' (Kd.R_newM (M := fun k_ => (w.heap.size ≤ k_)) ho0 (below_size (zB HB)) (fun k_ h_ => h_)) (Kd.R_lt (zR HO934))) (below_size (zB HB))); replace HO934 := Aside0.mk (Kd.R_elder' (zR HO934) (Kd.R_base ho0) hb); replace HB := Aside0.mk (below_step (zB HB) hb); (try clear hb); (try clear ho0)))
 go_ret
 exact ⟨_, by first | rfl | (simp [errW_none, errW_some] <;> rfl) | (simp [*, errW_none, errW_some] <;> rfl), by (with_reducible repeat (first | apply Kd.R_alloc | apply Kd.R_drewN | apply Kd.R_drew)); exact Kd.R_mono HO937.out (fun _ hk => hk.1.1), by repeat (first | (with_reducible first | exact HB.out | apply below_alloc | apply pw_below_drewN | apply below_drew1) | exact HB.out)⟩
end Go.Proofs.Ytcgfpffgiimgmaa.Q
end

section
namespace Go.Proofs.Ytcgfpffgiimgmaa.Q
open Go.RowKit Go.Proofs.YtcgfpffgiimgmaaW.PrintWords Go.Proofs.YtcgfpffgiimgmaaW.PrintLast Go.Proofs.YtcgfpffgiimgmaaW.PrintMore
attribute [local go_sem] max2_int min2_int max_two min_two max_three min_three max_four min_four
set_option linter.unusedVariables false
set_option linter.unusedSimpArgs false
def intrusionref07_Union.f (k : Nat) (l0 : List (S66)) (l1 : List (S66)) : Option ((List (S66))) := if ([] : List (S66)).length + l0.length < 2932031007402 then ((some (([] : List (S66)) ++ l0 : List (S66))).bind fun y938 => (if y938.length + l1.length < 2932031007402 then ((intrusionref07_Normal.f k (y938 ++ l1)).bind fun t944 => (some t944)) else (none))) else (none)
theorem intrusionref07_Union.mono : ∀ a0 a1 k, LeO (intrusionref07_Union.f k a0 a1) (intrusionref07_Union.f (k + 1) a0 a1) := by
  intro a0 a1 k
  unfold intrusionref07_Union.f
  repeat' first
      | (with_reducible exact intrusionref07_Normal.mono _ _)
      | (with_reducible exact LeO.refl _)
      | (with_reducible exact LeO.none _)
      | (with_reducible refine LeO.ite ?_ ?_)
      | (with_reducible refine LeO.bind ?_ (fun _ => ?_))
      | exact intrusionref07_Normal.mono _ _
      | exact LeO.none _
      | refine LeO.ite ?_ ?_
      | refine LeO.bind ?_ (fun _ => ?_)
set_option maxHeartbeats 8000000 in
set_option maxRecDepth 100000 in
theorem intrusionref07_Union.calls (k : Nat) (A0 : Option Addr) (c0 : Nat) (l0 : List (S66)) (A1 : Option Addr) (c1 : Nat) (l1 : List (S66)) (r : List (S66)) (w : World) (hr0 : Kd.C k66 w A0 l0.length l0) (hc0 : l0.length ≤ c0) (hr1 : Kd.C k66 w A1 l1.length l1) (hc1 : l1.length ≤ c1) (h : intrusionref07_Union.f k l0 l1 = some r) :
 Calls Try.prog 53 #[.slice A0 l0.length c0, .slice A1 l1.length c1] w fun e w' => ∃ v0_ : Value, e = .returned (v0_) ∧ Kd.R k66 66 w' w.heap.size (fun _ => True) v0_ r ∧ Below w.heap.size w w' := by
 have HR0 := Aside0.mk hr0
 have HC0 := Aside0.mk hc0
 clear hr0 hc0
 have HR1 := Aside0.mk hr1
 have HC1 := Aside0.mk hc1
 clear hr1 hc1
 have HB := Aside0.mk (Below.refl w.heap.size w)
 unfold intrusionref07_Union.f at h; have H := h
 clear h
 by_cases c3 : ([] : List (S66)).length + l0.length < 2932031007402
 · rw [if_pos c3] at H
   have LMc3 := Aside0.mk c3
   clear c3
   obtain ⟨y938, hy938⟩ : ∃ y_ : List (S66), y_ = (([] : List (S66)) ++ l0) := ⟨_, rfl⟩
   rw [← hy938] at H; try dsimp only [Option.bind_some] at H
   have Ny938 := Aside0.mk hy938
   clear hy938
   by_cases c4 : y938.length + l1.length < 2932031007402
   · rw [if_pos c4] at H
     have LMc4 := Aside0.mk c4
     clear c4
     obtain ⟨y941, hy941⟩ : ∃ y_ : List (S66), y_ = (y938 ++ l1) := ⟨_, rfl⟩
     rw [← hy941] at H; try dsimp only [Option.bind_some] at H
     have Ny941 := Aside0.mk hy941
     clear hy941
     replace H := Option.bind_eq_some_iff.mp H
     obtain ⟨t944, A50, H⟩ := H
     try dsimp only at H
     have A5 := Aside0.mk A50
     clear A50
     obtain rfl := Option.some.inj H
     go_enter Try.func53, Try.ntmps53
     go_wp2_with (first | ((with_reducible refine gate_builtin (b := .append) (xs := #[.tmp 6, .tmp 7]) rfl ?_); at_builtin; refine Kd.R_append_rows k66 (w0 := w) w.heap.size rfl (.tmp 6) (.tmp 7) 33 66 (.agg #[(.bool false), (.int .u64 0), (.int .u64 0), (.bool false), (.int .u64 0), (.int .u64 0)]) 48 rfl Try.underlying33 info66 rfl (by decide) (by omega) (.slice none 0 0) ([] : List (S66)) l0 _ _ _ (fun _ => True) (fun _ => False) rfl rfl ?aO ?aR (fun _ _ h => h) (fun _ h => h.elim) ?aF ?aB ?aS ?aL ?_; (case aR => repeat (first | exact HR0.out | (with_reducible refine Kd.C_alloc ?_ _) | (with_reducible refine Kd.C_drewN ?_ _) | (with_reducible refine Kd.C_drew ?_))); (case aB => exact (zB HB)); (case aF => exact (fun _ _ => trivial)); (case aO => exact ((Kd.R_nil _ _ _ _ (fun _ => True)))); (case aS => exact (below_size (zB HB))); (case aL => have := LMc3.out; omega); intro v939 w6 ho hb hg hat; rw [← Ny938.out] at ho; replace HB := Aside0.mk (hb); have HO940 := Aside0.mk (ho); clear ho hb hg hat) | ((with_reducible refine gate_builtin (b := .append) (xs := #[.tmp 9, .tmp 10]) rfl ?_); at_builtin; refine Kd.R_append_rows k66 (w0 := w) w.heap.size rfl (.tmp 9) (.tmp 10) 33 66 (.agg #[(.bool false), (.int .u64 0), (.int .u64 0), (.bool false), (.int .u64 0), (.int .u64 0)]) 48 rfl Try.underlying33 info66 rfl (by decide) (by omega) v939 y938 l1 _ _ _ (fun _ => True) (fun _ => False) rfl rfl ?aO ?aR (fun _ _ h => h) (fun _ h => h.elim) ?aF ?aB ?aS ?aL ?_; (case aR => repeat (first | exact (Kd.C_below HR1.out HB.out) | (with_reducible refine Kd.C_alloc ?_ _) | (with_reducible refine Kd.C_drewN ?_ _) | (with_reducible refine Kd.C_drew ?_))); (case aB => exact (zB HB)); (case aF => exact (fun _ _ => trivial)); (case aO => exact (zR HO940)); (case aS => exact (below_size (zB HB))); (case aL => have := LMc4.out; omega); intro v942 w7 ho hb hg hat; rw [← Ny941.out] at ho; replace HB := Aside0.mk (hb); have HO943 := Aside0.mk (ho); clear HO940; clear ho hb hg hat; obtain ⟨Ao8, co8, eo8⟩ := Kd.R_slice HO943.out; subst eo8) | ((with_reducible refine gate_callee (f := 39) rfl ?_); refine goesL_ (some 12) rfl rfl Try.func39 (by kernel_rfl) rfl #[.slice Ao8 y941.length co8] rfl (by (try simp only [List.map_toArray, List.map_cons, List.map_nil]); first | done | rfl | (simp only [List.length_drop, List.length_take]; rfl)) ?_; (with_reducible refine (intrusionref07_Normal.calls k _ _ y941 t944 _ ?side1 ?side2 A5.out).mono ?_); (case side1 => repeat (first | exact (Kd.R_reads' HO943.out).2.2 | (with_reducible refine Kd.C_alloc ?_ _) | (with_reducible refine Kd.C_drewN ?_ _) | (with_reducible refine Kd.C_drew ?_))); (case side2 => exact (Kd.R_reads' HO943.out).2.1); rintro e w9 ⟨v945, rfl, ho0, hb⟩; refine ⟨_, rfl, ?_⟩; have HO946 := Aside0.mk (Kd.R_lower (Kd.R_new' ho0 (Kd.R_lt (zR HO943))) (below_size (zB HB))); replace HO943 := Aside0.mk (Kd.R_elder' (zR HO943) (Kd.R_base ho0) hb); replace HB := Aside0.mk (below_step (zB HB) hb); (try clear hb); (try clear ho0)))
     go_ret
     exact ⟨_, by first | rfl | (simp [errW_none, errW_some] <;> rfl) | (simp [*, errW_none, errW_some] <;> rfl), by (with_reducible repeat (first | apply Kd.R_alloc | apply Kd.R_drewN | apply Kd.R_drew)); exact Kd.R_mono HO946.out (fun _ hk => trivial), by repeat (first | (with_reducible first | exact HB.out | apply below_alloc | apply pw_below_drewN | apply below_drew1) | exact HB.out)⟩
   · rw [if_neg c4] at H
     exact absurd H (by simp)
 · rw [if_neg c3] at H
   exact absurd H (by simp)
end Go.Proofs.Ytcgfpffgiimgmaa.Q
end

section
namespace Go.Proofs.Ytcgfpffgiimgmaa.Q
open Go.RowKit Go.Proofs.YtcgfpffgiimgmaaW.PrintWords Go.Proofs.YtcgfpffgiimgmaaW.PrintLast Go.Proofs.YtcgfpffgiimgmaaW.PrintMore
attribute [local go_sem] max2_int min2_int max_two min_two max_three min_three max_four min_four
set_option linter.unusedVariables false
set_option linter.unusedSimpArgs false
def addrset_Subset.f (k : Nat) (l0 : List (S66)) (l1 : List (S66)) : Option (Bool) := (addrset_Minus.f k l0 l1).bind fun t947 => (some ((t947.length : Int) == 0))
theorem addrset_Subset.mono : ∀ a0 a1 k, LeO (addrset_Subset.f k a0 a1) (addrset_Subset.f (k + 1) a0 a1) := by
  intro a0 a1 k
  unfold addrset_Subset.f
  repeat' first
      | (with_reducible exact addrset_Minus.mono _ _ _)
      | (with_reducible exact LeO.refl _)
      | (with_reducible exact LeO.none _)
      | (with_reducible refine LeO.ite ?_ ?_)
      | (with_reducible refine LeO.bind ?_ (fun _ => ?_))
      | exact addrset_Minus.mono _ _ _
      | exact LeO.none _
      | refine LeO.ite ?_ ?_
      | refine LeO.bind ?_ (fun _ => ?_)
set_option maxHeartbeats 8000000 in
set_option maxRecDepth 100000 in
theorem addrset_Subset.calls (k : Nat) (A0 : Option Addr) (c0 : Nat) (l0 : List (S66)) (A1 : Option Addr) (c1 : Nat) (l1 : List (S66)) (r : Bool) (w : World) (hr0 : Kd.C k66 w A0 l0.length l0) (hc0 : l0.length ≤ c0) (hr1 : Kd.C k66 w A1 l1.length l1) (hc1 : l1.length ≤ c1) (h : addrset_Subset.f k l0 l1 = some r) :
 Calls Try.prog 58 #[.slice A0 l0.length c0, .slice A1 l1.length c1] w fun e w' => e = .returned (.bool r) ∧ Below w.heap.size w w' := by
 have HR0 := Aside0.mk hr0
 have HC0 := Aside0.mk hc0
 clear hr0 hc0
 have HR1 := Aside0.mk hr1
 have HC1 := Aside0.mk hc1
 clear hr1 hc1
 have HB := Aside0.mk (Below.refl w.heap.size w)
 unfold addrset_Subset.f at h; have H := h
 clear h
 replace H := Option.bind_eq_some_iff.mp H
 obtain ⟨t947, A30, H⟩ := H
 try dsimp only at H
 have A3 := Aside0.mk A30
 clear A30
 obtain rfl := Option.some.inj H
 go_enter Try.func58, Try.ntmps58
 go_wp2_with (first | ((with_reducible refine gate_callee (f := 56) rfl ?_); refine goesL_ (some 7) rfl rfl Try.func56 (by kernel_rfl) rfl #[.slice A0 l0.length c0, .slice A1 l1.length c1] rfl (by (try simp only [List.map_toArray, List.map_cons, List.map_nil]); first | done | rfl | (simp only [List.length_drop, List.length_take]; rfl)) ?_; (with_reducible refine (addrset_Minus.calls k _ _ l0 _ _ l1 t947 _ ?side1 ?side2 ?side3 ?side4 A3.out).mono ?_); (case side1 => repeat (first | exact HR0.out | (with_reducible refine Kd.C_alloc ?_ _) | (with_reducible refine Kd.C_drewN ?_ _) | (with_reducible refine Kd.C_drew ?_))); (case side2 => exact HC0.out); (case side3 => repeat (first | exact HR1.out | (with_reducible refine Kd.C_alloc ?_ _) | (with_reducible refine Kd.C_drewN ?_ _) | (with_reducible refine Kd.C_drew ?_))); (case side4 => exact HC1.out); rintro e w4 ⟨v948, rfl, ho0, hb⟩; refine ⟨_, rfl, ?_⟩; have HO949 := Aside0.mk (Kd.R_lower ho0 (below_size (zB HB))); replace HB := Aside0.mk (below_step (zB HB) hb); (try clear hb); (try clear ho0); obtain ⟨Ao5, co5, eo5⟩ := Kd.R_slice HO949.out; subst eo5))
 go_ret
 exact ⟨by first | rfl | (simp [errW_none, errW_some] <;> rfl) | (simp [*, errW_none, errW_some] <;> rfl), by repeat (first | (with_reducible first | exact HB.out | apply below_alloc | apply pw_below_drewN | apply below_drew1) | exact HB.out)⟩
end Go.Proofs.Ytcgfpffgiimgmaa.Q
end

section
namespace Go.Proofs.Ytcgfpffgiimgmaa.Q
open Go.RowKit Go.Proofs.YtcgfpffgiimgmaaW.PrintWords Go.Proofs.YtcgfpffgiimgmaaW.PrintLast Go.Proofs.YtcgfpffgiimgmaaW.PrintMore
attribute [local go_sem] max2_int min2_int max_two min_two max_three min_three max_four min_four
set_option linter.unusedVariables false
set_option linter.unusedSimpArgs false
def intrusionref07_Subset.f (k : Nat) (l0 : List (S66)) (l1 : List (S66)) : Option (Bool) := (intrusionref07_Minus.f k l0 l1).bind fun t950 => (some ((t950.length : Int) == 0))
theorem intrusionref07_Subset.mono : ∀ a0 a1 k, LeO (intrusionref07_Subset.f k a0 a1) (intrusionref07_Subset.f (k + 1) a0 a1) := by
  intro a0 a1 k
  unfold intrusionref07_Subset.f
  repeat' first
      | (with_reducible exact intrusionref07_Minus.mono _ _ _)
      | (with_reducible exact LeO.refl _)
      | (with_reducible exact LeO.none _)
      | (with_reducible refine LeO.ite ?_ ?_)
      | (with_reducible refine LeO.bind ?_ (fun _ => ?_))
      | exact intrusionref07_Minus.mono _ _ _
      | exact LeO.none _
      | refine LeO.ite ?_ ?_
      | refine LeO.bind ?_ (fun _ => ?_)
set_option maxHeartbeats 8000000 in
set_option maxRecDepth 100000 in
theorem intrusionref07_Subset.calls (k : Nat) (A0 : Option Addr) (c0 : Nat) (l0 : List (S66)) (A1 : Option Addr) (c1 : Nat) (l1 : List (S66)) (r : Bool) (w : World) (hr0 : Kd.C k66 w A0 l0.length l0) (hc0 : l0.length ≤ c0) (hr1 : Kd.C k66 w A1 l1.length l1) (hc1 : l1.length ≤ c1) (h : intrusionref07_Subset.f k l0 l1 = some r) :
 Calls Try.prog 59 #[.slice A0 l0.length c0, .slice A1 l1.length c1] w fun e w' => e = .returned (.bool r) ∧ Below w.heap.size w w' := by
 have HR0 := Aside0.mk hr0
 have HC0 := Aside0.mk hc0
 clear hr0 hc0
 have HR1 := Aside0.mk hr1
 have HC1 := Aside0.mk hc1
 clear hr1 hc1
 have HB := Aside0.mk (Below.refl w.heap.size w)
 unfold intrusionref07_Subset.f at h; have H := h
 clear h
 replace H := Option.bind_eq_some_iff.mp H
 obtain ⟨t950, A30, H⟩ := H
 try dsimp only at H
 have A3 := Aside0.mk A30
 clear A30
 obtain rfl := Option.some.inj H
 go_enter Try.func59, Try.ntmps59
 go_wp2_with (first | ((with_reducible refine gate_callee (f := 57) rfl ?_); refine goesL_ (some 7) rfl rfl Try.func57 (by kernel_rfl) rfl #[.slice A0 l0.length c0, .slice A1 l1.length c1] rfl (by (try simp only [List.map_toArray, List.map_cons, List.map_nil]); first | done | rfl | (simp only [List.length_drop, List.length_take]; rfl)) ?_; (with_reducible refine (intrusionref07_Minus.calls k _ _ l0 _ _ l1 t950 _ ?side1 ?side2 ?side3 ?side4 A3.out).mono ?_); (case side1 => repeat (first | exact HR0.out | (with_reducible refine Kd.C_alloc ?_ _) | (with_reducible refine Kd.C_drewN ?_ _) | (with_reducible refine Kd.C_drew ?_))); (case side2 => exact HC0.out); (case side3 => repeat (first | exact HR1.out | (with_reducible refine Kd.C_alloc ?_ _) | (with_reducible refine Kd.C_drewN ?_ _) | (with_reducible refine Kd.C_drew ?_))); (case side4 => exact HC1.out); rintro e w4 ⟨v951, rfl, ho0, hb⟩; refine ⟨_, rfl, ?_⟩; have HO952 := Aside0.mk (Kd.R_lower ho0 (below_size (zB HB))); replace HB := Aside0.mk (below_step (zB HB) hb); (try clear hb); (try clear ho0); obtain ⟨Ao5, co5, eo5⟩ := Kd.R_slice HO952.out; subst eo5))
 go_ret
 exact ⟨by first | rfl | (simp [errW_none, errW_some] <;> rfl) | (simp [*, errW_none, errW_some] <;> rfl), by repeat (first | (with_reducible first | exact HB.out | apply below_alloc | apply pw_below_drewN | apply below_drew1) | exact HB.out)⟩
end Go.Proofs.Ytcgfpffgiimgmaa.Q
end

section
set_option linter.unusedVariables false
set_option linter.unusedSimpArgs false
namespace Go.Proofs.Ytcgfpffgiimgmaa.Q
open Go.RowKit Go.Proofs.YtcgfpffgiimgmaaW.PrintWords Go.Proofs.YtcgfpffgiimgmaaW.PrintLast Go.Proofs.YtcgfpffgiimgmaaW.PrintMore
def greaterA (a b : S36) : S36 := if 0 ≤ cmpA a b then a else b
def lessA (a b : S36) : S36 := if cmpA a b ≤ 0 then a else b
theorem greater_eq (a b : S36) : addrset_greater.f a.f0 a.f1 a.f2 b.f0 b.f1 b.f2 = some ((greaterA a b).f0, (greaterA a b).f1, (greaterA a b).f2) := by
  unfold addrset_greater.f address_Compare.f greaterA
  simp only [Option.bind_some, ge_iff_le]
  by_cases h : 0 ≤ cmpA a b
  · rw [if_pos h, if_pos h]
  · rw [if_neg h, if_neg h]
theorem less_eq (a b : S36) : addrset_less.f a.f0 a.f1 a.f2 b.f0 b.f1 b.f2 = some ((lessA a b).f0, (lessA a b).f1, (lessA a b).f2) := by
  unfold addrset_less.f address_Compare.f lessA
  simp only [Option.bind_some]
  by_cases h : cmpA a b ≤ 0
  · rw [if_pos h, if_pos h]
  · rw [if_neg h, if_neg h]
def bothR (r s : S66) : S66 := ⟨greaterA r.f0 s.f0, lessA r.f1 s.f1⟩
def interOne (r : S66) (xs : List S66) (s : S66) : List S66 := if r.f0.f0 = s.f0.f0 then addIf xs (bothR r s) else xs
def interRow (y : List S66) (xs : List S66) (r : S66) : List S66 := y.foldl (interOne r) xs
theorem addIf_le (xs : List S66) (x : S66) : (addIf xs x).length ≤ xs.length + 1 := by
  unfold addIf
  split <;> simp
theorem interOne_le (r : S66) (xs : List S66) (s : S66) : (interOne r xs s).length ≤ xs.length + 1 := by
  unfold interOne
  split
  · exact addIf_le _ _
  · omega
theorem interRow_le (r : S66) : ∀ (y xs : List S66), (y.foldl (interOne r) xs).length ≤ xs.length + y.length
  | [], xs => by simp
  | s :: t, xs => by
    have h1 := interRow_le r t (interOne r xs s)
    have h2 := interOne_le r xs s
    simp only [List.foldl_cons, List.length_cons]
    omega
theorem interAll_le (y : List S66) : ∀ (x xs : List S66), (x.foldl (interRow y) xs).length ≤ xs.length + x.length * y.length
  | [], xs => by simp
  | r :: t, xs => by
    have h1 := interAll_le y t (interRow y xs r)
    have h2 := interRow_le r y xs
    simp only [List.foldl_cons, List.length_cons, Nat.succ_mul]
    unfold interRow at h1 ⊢
    omega
theorem take_fold {α β : Type} (f : β → α → β) (b : β) (l : List α) (k : Nat) (hk : k < l.length) : (l.take (k + 1)).foldl f b = f ((l.take k).foldl f b) l[k] := by
  rw [List.take_succ_eq_append_getElem hk, List.foldl_append]
  rfl
theorem inter_bound (x y : List S66) (i j : Nat) (hi : i < x.length) (hj : j < y.length) (r : S66) (h : x.length * y.length < 2932031007402) : ((y.take j).foldl (interOne r) ((x.take i).foldl (interRow y) [])).length < 2932031007402 := by
  have h1 := interRow_le r (y.take j) ((x.take i).foldl (interRow y) [])
  have h2 := interAll_le y (x.take i) []
  simp only [List.length_take, List.length_nil, Nat.zero_add] at h1 h2
  have h3 : min i x.length * y.length ≤ i * y.length := Nat.mul_le_mul_right _ (Nat.min_le_left _ _)
  have h4 : (i + 1) * y.length ≤ x.length * y.length := Nat.mul_le_mul_right _ hi
  rw [Nat.succ_mul] at h4
  omega
def addrset_Intersect.f (k : Nat) (l0 l1 : List S66) : Option (List S66) := (addrset_Normal.f k l1).bind fun y => (addrset_Normal.f k l0).bind fun x => if x.length * y.length < 2932031007402 then addrset_Normal.f k (x.foldl (interRow y) []) else none
theorem addrset_Intersect.mono : ∀ a0 a1 k, LeO (addrset_Intersect.f k a0 a1) (addrset_Intersect.f (k + 1) a0 a1) := by
  intro a0 a1 k
  unfold addrset_Intersect.f
  exact LeO.bind (addrset_Normal.mono _ _) (fun _ => LeO.bind (addrset_Normal.mono _ _) (fun _ => LeO.ite (addrset_Normal.mono _ _) (LeO.none _)))
structure InterAt (w W1 wr : World) (B : Nat) (v : Value) (xs : List S66) : Prop where
  cell : wr.heap[B]? = some (.cells #[v, .func (.func 71) #[] #[]] 69 (0, 0))
  row : Kd.R k66 66 wr w.heap.size (fun _ => True) v xs
  bel : Below w.heap.size w wr
  size : W1.heap.size ≤ wr.heap.size
  keep : ∀ q, q < W1.heap.size → q ≠ B → wr.heap[q]? = W1.heap[q]?
  own : ∀ q, v.ownBlock = some q → W1.heap.size ≤ q
theorem InterAt.below {w W1 wr W : World} {B : Nat} {v : Value} {xs : List S66} (h : InterAt w W1 wr B v xs) (hb : Below wr.heap.size wr W) : InterAt w W1 W B v xs where
  cell := (hb.block B (lt_of_block h.cell)).trans h.cell
  row := Kd.R_below h.row hb
  bel := h.bel.trans (hb.mono h.bel.size)
  size := Nat.le_trans h.size hb.size
  keep := fun q hq hn => (hb.block q (Nat.lt_of_lt_of_le hq h.size)).trans (h.keep q hq hn)
  own := h.own
theorem InterAt.added {w W1 wr W : World} {B : Nat} {v v' : Value} {xs ys : List S66} (h : InterAt w W1 wr B v xs) (ha : AddedR w wr W B v v' ys) : InterAt w W1 W B v' ys where
  cell := ha.cell
  row := ha.row
  bel := ha.bel
  size := Nat.le_trans h.size ha.size
  keep := fun q hq hn => (ha.kept q (Nat.lt_of_lt_of_le hq h.size) (fun e => by have := h.own q e.symm; omega) hn).trans (h.keep q hq hn)
  own := fun q hq => by
    rcases ha.own with e | ⟨b, e, hb⟩
    · rw [e] at hq; exact h.own q hq
    · rw [e] at hq
      injection hq with hq
      exact hq ▸ Nat.le_trans h.size hb
theorem InterAt.list {w W1 wr : World} {b B : Nat} {v : Value} {xs l : List S66} {A : Option Addr} {n c : Nat} (h : InterAt w W1 wr B v xs) (ho : Kd.R k66 66 W1 b (fun _ => True) (.slice A n c) l) (hB : ∀ q, (Value.slice A n c).ownBlock = some q → q ≠ B) : Kd.C k66 wr A l.length l :=
  (Kd.R_reads' (Kd.R_move (Kd.R_tight rfl ho) (fun q hq => h.keep q (Kd.R_lt ho q hq.symm) (hB q hq.symm)))).2.2
def addrset_Intersect.T10 : Bool × List (List Nat × List Nat) := (true, [([], []), ([0], [0]), ([], []), ([2], [2]), ([1, 3], [1, 3]), ([], []), ([5], [5]), ([], []), ([7], [7]), ([6, 8, 4], [6, 8]), ([4, 9], [4, 9]), ([10, 9], [10])])
def addrset_Intersect.B10 : List Nat := [0, 1, 0, 4, 15, 0, 32, 0, 128, 511, 1023, 2047]
theorem addrset_Intersect.tab10 : rtab .any (opsOf Try.f54 10) = addrset_Intersect.T10 := by kernel_rfl
theorem addrset_Intersect.bits10 : waitsOk addrset_Intersect.T10.2 addrset_Intersect.B10 = true := by kernel_rfl
set_option maxHeartbeats 8000000 in
set_option maxRecDepth 100000 in
theorem addrset_Intersect.calls (k : Nat) (A0 : Option Addr) (c0 : Nat) (l0 : List S66) (A1 : Option Addr) (c1 : Nat) (l1 : List S66) (r : List S66) (w : World) (hr0 : Kd.C k66 w A0 l0.length l0) (hc0 : l0.length ≤ c0) (hr1 : Kd.C k66 w A1 l1.length l1) (hc1 : l1.length ≤ c1) (h : addrset_Intersect.f k l0 l1 = some r) :
    Calls Try.prog 54 #[.slice A0 l0.length c0, .slice A1 l1.length c1] w fun e w' => ∃ v0_ : Value, e = .returned (v0_) ∧ Kd.R k66 66 w' w.heap.size (fun _ => True) v0_ r ∧ Below w.heap.size w w' := by
  unfold addrset_Intersect.f at h
  obtain ⟨y, hy, h⟩ := Option.bind_eq_some_iff.1 h
  obtain ⟨x, hx, h⟩ := Option.bind_eq_some_iff.1 h
  by_cases hlim : x.length * y.length < 2932031007402
  · rw [if_pos hlim] at h
    have HY := Aside0.mk hy
    have HX := Aside0.mk hx
    have HL := Aside0.mk hlim
    have HF := Aside0.mk h
    have HR0 := Aside0.mk hr0
    have HR1 := Aside0.mk hr1
    have HC0 := Aside0.mk hc0
    have HC1 := Aside0.mk hc1
    have hu69 := Try.underlying69
    have hu66 := Try.underlying66
    have hu36 := Try.underlying36
    clear hy hx hlim h hr0 hr1 hc0 hc1
    go_enter Try.func54, Try.ntmps54
    go_wp2_with fail
    refine (addrset_Normal.calls k A1 c1 l1 y _ (Kd.C_alloc HR1.out _) HC1.out HY.out).mono ?_
    rintro e w2 ⟨vY, rfl, hoY, hbY⟩
    obtain ⟨AY, cY, rfl⟩ := Kd.R_slice hoY
    have HBY := Aside0.mk hbY
    have HOY := Aside0.mk hoY
    clear hbY hoY
    go_wp2_with fail
    refine (addrset_Normal.calls k A0 c0 l0 x _ (Kd.C_below HR0.out (((Below.refl _ _).alloc (Nat.le_refl _) _).trans (HBY.out.mono (by simp)))) HC0.out HX.out).mono ?_
    rintro e w3 ⟨vX, rfl, hoX, hbX⟩
    obtain ⟨AX, cX, rfl⟩ := Kd.R_slice hoX
    have hlist : w3.heap[w.heap.size]? = some (.cells #[.slice none 0 0, .func (.func 71) #[] #[]] 69 (0, 0)) := (hbX.block _ (Nat.lt_of_lt_of_le (by simp) HBY.out.size)).trans ((HBY.out.block _ (by simp)).trans (heap_alloc_new _ _))
    have hbel : Below w.heap.size w w3 := (((Below.refl _ _).alloc (Nat.le_refl _) _).trans (HBY.out.mono (by simp))).trans (hbX.mono (Nat.le_trans (by simp) HBY.out.size))
    have H00 : Aside0 (InterAt w w3 w3 w.heap.size (.slice none 0 0) []) := ⟨⟨hlist, Kd.R_nil _ _ _ _ _, hbel, Nat.le_refl _, fun _ _ _ => rfl, fun q hq => by simp [Value.ownBlock] at hq⟩⟩
    have HOX := Aside0.mk hoX
    have HOY3 := Aside0.mk (Kd.R_below HOY.out hbX)
    have HNX : Aside0 (∀ q, (Value.slice AX x.length cX).ownBlock = some q → q ≠ w.heap.size) := ⟨fun q hq => by have h1 := Kd.R_base HOX.out q hq; have h2 := HBY.out.size; simp at h2; omega⟩
    have HNY : Aside0 (∀ q, (Value.slice AY y.length cY).ownBlock = some q → q ≠ w.heap.size) := ⟨fun q hq => by have h1 := Kd.R_base HOY.out q hq; simp at h1; omega⟩
    have HMX : Aside0 (x.length ≤ 9223372036854775807) := ⟨(Kd.R_reads' hoX).2.2.2.1⟩
    have HMY : Aside0 (y.length ≤ 9223372036854775807) := ⟨(Kd.R_reads' HOY.out).2.2.2.1⟩
    have hmx := HMX.out
    have hmy := HMY.out
    clear hlist hbel hoX hbX
    go_wp2_with fail
    go_loopg [17] x.length (fun gg v17 wr => ∃ kk : Nat, kk ≤ x.length ∧ x.length - kk ≤ gg ∧ v17 = .int .i64 kk ∧ Aside0 (∃ v, InterAt w w3 wr w.heap.size v ((x.take kk).foldl (interRow y) [])))
    case atStart => exact ⟨0, Nat.zero_le _, by omega, rfl, ⟨_, H00.out⟩⟩
    case round =>
      obtain ⟨kk, hkk, hg, rfl, HA⟩ := hrel
      obtain ⟨v, HAv⟩ := HA.out
      have HV := Aside0.mk HAv
      clear HA HAv H00
      by_cases hlt : kk < x.length
      · have hltz : (kk : Int) < (x.length : Int) := by omega
        obtain ⟨ad, e, hx0, hx1, hx2, hx3, hx4, hx5⟩ := at_T66 (HV.out.list HOX.out HNX.out) kk (by omega) hltz
        cases e
        have hrd : rd_T66 x (kk : Int) = x[kk] := by simp [rd_T66, List.getD_eq_getElem?_getD, List.getElem?_eq_getElem hlt]
        rw [hrd] at hx0 hx1 hx2 hx3 hx4 hx5
        simp only [Int.toNat_natCast] at hx0 hx1 hx2 hx3 hx4 hx5
        have hfold := take_fold (interRow y) [] x kk hlt
        clear hrd
        generalize x[kk] = rr at hx0 hx1 hx2 hx3 hx4 hx5 hfold
        have HFO := Aside0.mk hfold
        clear hfold
        go_wp2_with fail
        obtain ⟨g1, hg1⟩ : ∃ g, wr.heap.size = g := ⟨_, rfl⟩
        have HX1 : Aside0 ((wr.alloc (.cells #[.bool rr.f0.f0, .int .u64 rr.f0.f1, .int .u64 rr.f0.f2, .bool rr.f1.f0, .int .u64 rr.f1.f1, .int .u64 rr.f1.f2] 66)).heap[g1]? = some (.cells #[.bool rr.f0.f0, .int .u64 rr.f0.f1, .int .u64 rr.f0.f2, .bool rr.f1.f0, .int .u64 rr.f1.f1, .int .u64 rr.f1.f2] 66 (0, 0))) := ⟨by rw [← hg1]; exact heap_alloc_new _ _⟩
        have HVI := Aside0.mk (HV.out.below ((Below.refl _ _).alloc (Nat.le_refl _) (.cells #[.bool rr.f0.f0, .int .u64 rr.f0.f1, .int .u64 rr.f0.f2, .bool rr.f1.f0, .int .u64 rr.f1.f1, .int .u64 rr.f1.f2] 66)))
        have HG1 : Aside0 (w3.heap.size ≤ g1 ∧ v.ownBlock ≠ some g1) := ⟨⟨by rw [← hg1]; exact HV.out.size, fun e => by have := Kd.R_lt HV.out.row g1 e; omega⟩⟩
        clear hx0 hx1 hx2 hx3 hx4 hx5 HV
        simp only [hg1]
        generalize wr.alloc (.cells #[.bool rr.f0.f0, .int .u64 rr.f0.f1, .int .u64 rr.f0.f2, .bool rr.f1.f0, .int .u64 rr.f1.f1, .int .u64 rr.f1.f2] 66) = wo at HX1 HVI ⊢
        clear hg1
        go_loopg [23] y.length (fun gg v23 wi => ∃ jj : Nat, jj ≤ y.length ∧ y.length - jj ≤ gg ∧ v23 = .int .i64 jj ∧ Aside0 (∃ v, InterAt w w3 wi w.heap.size v ((y.take jj).foldl (interOne rr) ((x.take kk).foldl (interRow y) [])) ∧ v.ownBlock ≠ some g1) ∧ Aside0 (wi.heap[g1]? = some (.cells #[.bool rr.f0.f0, .int .u64 rr.f0.f1, .int .u64 rr.f0.f2, .bool rr.f1.f0, .int .u64 rr.f1.f1, .int .u64 rr.f1.f2] 66 (0, 0))))
        case atStart => exact ⟨0, Nat.zero_le _, by omega, rfl, ⟨_, HVI.out, HG1.out.2⟩, HX1⟩
        case round =>
          obtain ⟨jj, hjj, hg2, rfl, HA, HX1i⟩ := hrel
          obtain ⟨vv, HAv, hov⟩ := HA.out
          have HV := Aside0.mk HAv
          have HOV := Aside0.mk hov
          clear HA HAv hov HVI HX1
          by_cases hlt2 : jj < y.length
          · have hltz2 : (jj : Int) < (y.length : Int) := by omega
            obtain ⟨ad2, e, hx0, hx1, hx2, hx3, hx4, hx5⟩ := at_T66 (HV.out.list HOY3.out HNY.out) jj (by omega) hltz2
            cases e
            have hrd : rd_T66 y (jj : Int) = y[jj] := by simp [rd_T66, List.getD_eq_getElem?_getD, List.getElem?_eq_getElem hlt2]
            rw [hrd] at hx0 hx1 hx2 hx3 hx4 hx5
            simp only [Int.toNat_natCast] at hx0 hx1 hx2 hx3 hx4 hx5
            have hfold2 := take_fold (interOne rr) ((x.take kk).foldl (interRow y) []) y jj hlt2
            have HLE := Aside0.mk (inter_bound x y kk jj hlt hlt2 rr HL.out)
            clear hrd
            generalize y[jj] = ss at hx0 hx1 hx2 hx3 hx4 hx5 hfold2
            have HFO2 := Aside0.mk hfold2
            clear hfold2
            have hy0 := zc HX1i 0
            have hl1 := lt_of_block HX1i.out
            by_cases hf : rr.f0.f0 = ss.f0.f0
            · have HE : Aside0 (interOne rr ((y.take jj).foldl (interOne rr) ((x.take kk).foldl (interRow y) [])) ss = addIf ((y.take jj).foldl (interOne rr) ((x.take kk).foldl (interRow y) [])) (bothR rr ss)) := ⟨by unfold interOne; rw [if_pos hf]⟩
              have hb1 : (rr.f0.f0 == ss.f0.f0) = true := beq_iff_eq.2 hf
              have hb2 : decide (rr.f0.f0 = ss.f0.f0) = true := decide_eq_true hf
              clear hf
              go_wp2_with fail
              obtain ⟨g2, hg2⟩ : ∃ g, wr.heap.size = g := ⟨_, rfl⟩
              have HX2 : Aside0 ((wr.alloc (.cells #[.bool ss.f0.f0, .int .u64 ss.f0.f1, .int .u64 ss.f0.f2, .bool ss.f1.f0, .int .u64 ss.f1.f1, .int .u64 ss.f1.f2] 66)).heap[g2]? = some (.cells #[.bool ss.f0.f0, .int .u64 ss.f0.f1, .int .u64 ss.f0.f2, .bool ss.f1.f0, .int .u64 ss.f1.f1, .int .u64 ss.f1.f2] 66 (0, 0))) := ⟨by rw [← hg2]; exact heap_alloc_new _ _⟩
              have HX1 := Aside0.mk (blk_alloc HX1i.out (.cells #[.bool ss.f0.f0, .int .u64 ss.f0.f1, .int .u64 ss.f0.f2, .bool ss.f1.f0, .int .u64 ss.f1.f1, .int .u64 ss.f1.f2] 66))
              have HV1 := Aside0.mk (HV.out.below ((Below.refl _ _).alloc (Nat.le_refl _) (.cells #[.bool ss.f0.f0, .int .u64 ss.f0.f1, .int .u64 ss.f0.f2, .bool ss.f1.f0, .int .u64 ss.f1.f1, .int .u64 ss.f1.f2] 66)))
              simp only [hg2]
              generalize wr.alloc (.cells #[.bool ss.f0.f0, .int .u64 ss.f0.f1, .int .u64 ss.f0.f2, .bool ss.f1.f0, .int .u64 ss.f1.f1, .int .u64 ss.f1.f2] 66) = w1 at HX1 HX2 HV1 ⊢
              clear hg2 hx0 hx1 hx2 hx3 hx4 hx5 hy0 hl1
              refine start_ (n := 12) (S := fun w' => w'.cell? ⟨g1, 0, none⟩ = some (.bool rr.f0.f0) ∧ w'.cell? ⟨g1, 1, none⟩ = some (.int .u64 rr.f0.f1) ∧ w'.cell? ⟨g1, 2, none⟩ = some (.int .u64 rr.f0.f2) ∧ w'.cell? ⟨g1, 3, none⟩ = some (.bool rr.f1.f0) ∧ w'.cell? ⟨g1, 4, none⟩ = some (.int .u64 rr.f1.f1) ∧ w'.cell? ⟨g1, 5, none⟩ = some (.int .u64 rr.f1.f2) ∧ w'.cell? ⟨g2, 0, none⟩ = some (.bool ss.f0.f0) ∧ w'.cell? ⟨g2, 1, none⟩ = some (.int .u64 ss.f0.f1) ∧ w'.cell? ⟨g2, 2, none⟩ = some (.int .u64 ss.f0.f2) ∧ w'.cell? ⟨g2, 3, none⟩ = some (.bool ss.f1.f0) ∧ w'.cell? ⟨g2, 4, none⟩ = some (.int .u64 ss.f1.f1) ∧ w'.cell? ⟨g2, 5, none⟩ = some (.int .u64 ss.f1.f2)) (ds := [11]) #[false, false, false, false, false, false, false, false, false, false, false, false] (by kernel_rfl) rfl rfl ⟨zc HX1 0, zc HX1 1, zc HX1 2, zc HX1 3, zc HX1 4, zc HX1 5, zc HX2 0, zc HX2 1, zc HX2 2, zc HX2 3, zc HX2 4, zc HX2 5⟩ (fun hHeld => ?_)
              refine with_tabW addrset_Intersect.tab10 addrset_Intersect.bits10 (fun HT_ HW_ => ?_)
              replace HX1 := Aside0.mk (blk_drew HX1.out)
              replace HX2 := Aside0.mk (blk_drew HX2.out)
              replace HV1 := Aside0.mk (HV1.out.below (below_drew1 (Below.refl _ _)))
              generalize w1.drew = w1 at HX1 HX2 HV1 hHeld ⊢
              refine zp 0 34 HT_ ?_
              refine zp 2 36 HT_ ?_
              refine zp 5 39 HT_ ?_
              refine zp 7 41 HT_ ?_
              refine zt 1 35 HT_ HW_ hHeld ?_
              refine zt 3 37 HT_ HW_ hHeld ?_
              refine zt 6 40 HT_ HW_ hHeld ?_
              refine zt 8 42 HT_ HW_ hHeld ?_
              refine zo 4 38 HT_ (fun K hK => ?_)
              refine zg Try.func77 #[.agg #[.bool rr.f0.f0, .int .u64 rr.f0.f1, .int .u64 rr.f0.f2], .agg #[.bool ss.f0.f0, .int .u64 ss.f0.f1, .int .u64 ss.f0.f2]] ?_
              refine (addrset_greater.calls rr.f0.f0 rr.f0.f1 rr.f0.f2 ss.f0.f0 ss.f0.f1 ss.f0.f2 (greaterA rr.f0 ss.f0).f0 (greaterA rr.f0 ss.f0).f1 (greaterA rr.f0 ss.f0).f2 _ (greater_eq _ _)).mono ?_
              rintro e w4 ⟨rfl, hb⟩
              refine ⟨_, rfl, ?_⟩
              replace HX1 := Aside0.mk (blk_below HX1.out hb)
              replace HX2 := Aside0.mk (blk_below HX2.out hb)
              replace HV1 := Aside0.mk (HV1.out.below hb)
              clear hb
              refine hK.out _ _ ⟨zc HX1 0, zc HX1 1, zc HX1 2, zc HX1 3, zc HX1 4, zc HX1 5, zc HX2 0, zc HX2 1, zc HX2 2, zc HX2 3, zc HX2 4, zc HX2 5⟩ (fun hHeld => ?_)
              clear hK K
              refine zn 38 ?_
              refine zo 9 43 HT_ (fun K hK => ?_)
              refine zg Try.func95 #[.agg #[.bool rr.f1.f0, .int .u64 rr.f1.f1, .int .u64 rr.f1.f2], .agg #[.bool ss.f1.f0, .int .u64 ss.f1.f1, .int .u64 ss.f1.f2]] ?_
              refine (addrset_less.calls rr.f1.f0 rr.f1.f1 rr.f1.f2 ss.f1.f0 ss.f1.f1 ss.f1.f2 (lessA rr.f1 ss.f1).f0 (lessA rr.f1 ss.f1).f1 (lessA rr.f1 ss.f1).f2 _ (less_eq _ _)).mono ?_
              rintro e w5 ⟨rfl, hb⟩
              refine ⟨_, rfl, ?_⟩
              replace HX1 := Aside0.mk (blk_below HX1.out hb)
              replace HX2 := Aside0.mk (blk_below HX2.out hb)
              replace HV1 := Aside0.mk (HV1.out.below hb)
              clear hb
              refine hK.out _ _ ⟨zc HX1 0, zc HX1 1, zc HX1 2, zc HX1 3, zc HX1 4, zc HX1 5, zc HX2 0, zc HX2 1, zc HX2 2, zc HX2 3, zc HX2 4, zc HX2 5⟩ (fun hHeld => ?_)
              clear hK K
              refine zn 43 ?_
              refine zp 10 44 HT_ ?_
              refine last_ (i := 11) (N := some 45) #[true, true, true, true, true, true, true, true, true, true, true, true] rfl rfl (one_of HT_.out (by kernel_rfl)) (by decide) (fun K hK => ?_)
              refine zg Try.func72 #[.pointer (some ⟨w.heap.size, 0, none⟩), .agg #[.bool (greaterA rr.f0 ss.f0).f0, .int .u64 (greaterA rr.f0 ss.f0).f1, .int .u64 (greaterA rr.f0 ss.f0).f2, .bool (lessA rr.f1 ss.f1).f0, .int .u64 (lessA rr.f1 ss.f1).f1, .int .u64 (lessA rr.f1 ss.f1).f2]] ?_
              refine (addRange (bothR rr ss) w.heap.size vv _ w _ HV1.out.cell HV1.out.row HV1.out.bel (Nat.le_refl _) HLE.out).mono ?_
              rintro e w6 ⟨rfl, v', hadd⟩
              refine ⟨_, rfl, ?_⟩
              have hne : g1 ≠ w.heap.size := by
                have h1 := HG1.out.1
                have h2 := lt_of_block HV.out.cell
                have h3 := HNX.out
                intro e
                have h4 := HX1i.out
                rw [e, HV.out.cell] at h4
                injection h4 with h4
                injection h4 with _ h5 _
                exact absurd h5 (by decide)
              have hk1 := hadd.kept g1 (lt_of_block HX1.out) (fun e => HOV.out e.symm) hne
              have HX1n := Aside0.mk (hk1.trans HX1.out)
              have hown : v'.ownBlock ≠ some g1 := by
                rcases hadd.own with e | ⟨b, e, hb⟩
                · rw [e]; exact HOV.out
                · rw [e]; intro e2; injection e2 with e2; have := lt_of_block HX1.out; omega
              have HON := Aside0.mk hown
              have HVN := Aside0.mk (HV1.out.added hadd)
              clear hadd hk1 hown hne
              refine hK.out _ _ ?_
              clear hK K
              refine zn 45 ?_
              refine zd HT_ ?_
              go_wp2_with fail
              go_roundg (y.length - (jj + 1))
              case measure => omega
              case rel => exact ⟨jj + 1, by omega, by omega, by go_num, ⟨v', by rw [HFO2.out, HE.out]; exact HVN.out, HON.out⟩, HX1n⟩
            · have HE : Aside0 (interOne rr ((y.take jj).foldl (interOne rr) ((x.take kk).foldl (interRow y) [])) ss = (y.take jj).foldl (interOne rr) ((x.take kk).foldl (interRow y) [])) := ⟨by unfold interOne; rw [if_neg hf]⟩
              have hb1 : (rr.f0.f0 == ss.f0.f0) = false := beq_eq_false_iff_ne.2 hf
              have hb2 : decide (rr.f0.f0 = ss.f0.f0) = false := decide_eq_false hf
              clear hf
              go_wp2_with fail
              go_roundg (y.length - (jj + 1))
              case measure => omega
              case rel => exact ⟨jj + 1, by omega, by omega, by go_num, ⟨vv, by rw [HFO2.out, HE.out]; exact HV.out.below ((Below.refl _ _).alloc (Nat.le_refl _) _), HOV.out⟩, ⟨blk_alloc HX1i.out _⟩⟩
          · have hltz2 : ¬ (jj : Int) < (y.length : Int) := by omega
            have hfull : (y.take jj).foldl (interOne rr) ((x.take kk).foldl (interRow y) []) = interRow y ((x.take kk).foldl (interRow y) []) rr := by rw [show jj = y.length from by omega, List.take_length]; rfl
            have HFU := Aside0.mk hfull
            clear hfull
            go_wp2_with fail
            go_roundg (x.length - (kk + 1))
            case measure => omega
            case rel => exact ⟨kk + 1, by omega, by omega, by go_num, ⟨vv, by rw [HFO.out, ← HFU.out]; exact HV.out⟩⟩
      · have hltz : ¬ (kk : Int) < (x.length : Int) := by omega
        have hfull : (x.take kk).foldl (interRow y) [] = x.foldl (interRow y) [] := by rw [show kk = x.length from by omega, List.take_length]
        rw [hfull] at HV
        clear hfull
        obtain ⟨Av, cv, hv4⟩ := Kd.R_slice HV.out.row
        subst hv4
        have hc1 := zc (Aside0.mk HV.out.cell) 0
        go_wp2_with fail
        refine (addrset_Normal.calls k Av cv _ r _ (Kd.R_reads' HV.out.row).2.2 (Kd.R_reads' HV.out.row).2.1 HF.out).mono ?_
        rintro e w9 ⟨vr, rfl, ho, hb⟩
        have HO := Aside0.mk (Kd.R_lower ho HV.out.bel.size)
        have HB := Aside0.mk (HV.out.bel.trans (hb.mono HV.out.bel.size))
        clear ho hb
        go_wp2_with fail
        go_ret
        exact ⟨_, rfl, HO.out, HB.out⟩
  · rw [if_neg hlim] at h
    cases h
end Go.Proofs.Ytcgfpffgiimgmaa.Q
end
