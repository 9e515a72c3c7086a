/- The law IntervalCounts answers true for every input and leaves its arguments as they were. No condition. (Part 4 of 4: the kit's printed words and walks, hand-made contracts and plain laws, joined in build order, without what the theorem does not reach.) -/
import Derived.Deep.Slices
import Derived.ChangeArms
import Derived.WideShapes
import Derived.DataElems
import Derived.Test.YtcgfpffgiimgmaaRows
import Derived.WalkKit
import Derived.ProofKit
import Derived.OpenShut
import Derived.ShutString
import Derived.ChangeOld
import Derived.Below
import Derived.SizedLaws
import Derived.Carry
import Derived.Test.YtcgfpffgiimgmaaGIntervalCounts3
section
namespace Go.Proofs.Ytcgfpffgiimgmaa.Q
open Go.RowKit Go.Proofs.YtcgfpffgiimgmaaW.PrintWords Go.Proofs.YtcgfpffgiimgmaaW.PrintLast Go.Proofs.YtcgfpffgiimgmaaW.PrintMore
attribute [local go_sem] max2_int min2_int max_two min_two max_three min_three max_four min_four
set_option linter.unusedVariables false
set_option linter.unusedSimpArgs false
mutual
def intrusionlaw05_IntervalCounts.j0 : Nat → List (S52) → List (S52) → Bool → Option (Bool)
  | 0, _, _, _ => none
  | k + 1, x0, x1, x14 => if x14 = true then ((intrusionlaw05_awake.f k).bind fun t428 => (some t428)) else ((interval_Count.f k x0).bind fun t429 => ((interval_Count.f k x1).bind fun t430 => ((interval_Intersect.f k x0 x1).bind fun t431 => ((interval_Count.f k t431).bind fun t434 => ((interval_Union.f k x0 x1).bind fun t435 => ((interval_Count.f k t435).bind fun t438 => (if (wrap64 (t438 + t434)) = (wrap64 (t429 + t430)) then ((interval_Minus.f k x0 x1).bind fun t439 => ((interval_Count.f k t439).bind fun t442 => (if t442 = (wrap64 (t429 - t434)) then (if t429 < 0 then (intrusionlaw05_IntervalCounts.j1 k x0 x1 t429 t434 true) else (intrusionlaw05_IntervalCounts.j1 k x0 x1 t429 t434 (decide (t429 > 4294967297)))) else (intrusionlaw05_IntervalCounts.j1 k x0 x1 t429 t434 true)))) else (intrusionlaw05_IntervalCounts.j1 k x0 x1 t429 t434 true))))))))
def intrusionlaw05_IntervalCounts.j1 : Nat → List (S52) → List (S52) → Int → Int → Bool → Option (Bool)
  | 0, _, _, _, _, _ => none
  | k + 1, x0, x1, x5, x7, x51 => if x51 = true then (some false) else ((interval_Normal.f k x0).bind fun t443 => ((interval_Normal.f k t443).bind fun t446 => ((intrusionlaw05_same.f k t446 t443).bind fun t449 => (if t449 = true then ((interval_Subset.f k x0 x1).bind fun t450 => (if (t450 == (x7 == x5)) = true then ((interval_Valid.f k x0).bind fun t451 => (if t451 = true then ((intrusionlaw05_same.f k x0 t443).bind fun t452 => (if t452 = true then ((intrusionlaw05_awake.f k).bind fun t453 => (some t453)) else (some false))) else ((intrusionlaw05_awake.f k).bind fun t454 => (some t454)))) else (some false))) else (some false)))))
end
def intrusionlaw05_IntervalCounts.f (k : Nat) (l0 : List (S52)) (l1 : List (S52)) : Option (Bool) := (intrusionlaw05_large.f l0).bind fun t426 => (if t426 = true then (intrusionlaw05_IntervalCounts.j0 k l0 l1 true) else ((intrusionlaw05_large.f l1).bind fun t427 => (intrusionlaw05_IntervalCounts.j0 k l0 l1 t427)))
theorem intrusionlaw05_IntervalCounts.mono_l : ∀ k, (∀ y0 y1 y2, LeO (intrusionlaw05_IntervalCounts.j0 k y0 y1 y2) (intrusionlaw05_IntervalCounts.j0 (k + 1) y0 y1 y2)) ∧ (∀ y0 y1 y2 y3 y4, LeO (intrusionlaw05_IntervalCounts.j1 k y0 y1 y2 y3 y4) (intrusionlaw05_IntervalCounts.j1 (k + 1) y0 y1 y2 y3 y4))
  | 0 => ⟨fun _ _ _ r h => by simp [intrusionlaw05_IntervalCounts.j0] at h, fun _ _ _ _ _ r h => by simp [intrusionlaw05_IntervalCounts.j1] at h⟩
  | k + 1 => by
    obtain ⟨ih0, ih1⟩ := intrusionlaw05_IntervalCounts.mono_l k
    refine ⟨?_, ?_⟩
    · intro y0 y1 y2
      unfold intrusionlaw05_IntervalCounts.j0
      repeat' first
      | (with_reducible exact ih0 _ _ _)
      | (with_reducible exact ih1 _ _ _ _ _)
      | (with_reducible exact interval_Count.mono _ _)
      | (with_reducible exact interval_Intersect.mono _ _ _)
      | (with_reducible exact interval_Minus.mono _ _ _)
      | (with_reducible exact interval_Normal.mono _ _)
      | (with_reducible exact interval_Subset.mono _ _ _)
      | (with_reducible exact interval_Union.mono _ _ _)
      | (with_reducible exact interval_Valid.mono _ _)
      | (with_reducible exact intrusionlaw05_awake.mono _)
      | (with_reducible exact intrusionlaw05_same.mono _ _ _)
      | (with_reducible exact LeO.refl _)
      | (with_reducible exact LeO.none _)
      | (with_reducible refine LeO.ite ?_ ?_)
      | (with_reducible refine LeO.bind ?_ (fun _ => ?_))
      | exact ih0 _ _ _
      | exact ih1 _ _ _ _ _
      | exact interval_Count.mono _ _
      | exact interval_Intersect.mono _ _ _
      | exact interval_Minus.mono _ _ _
      | exact interval_Normal.mono _ _
      | exact interval_Subset.mono _ _ _
      | exact interval_Union.mono _ _ _
      | exact interval_Valid.mono _ _
      | exact intrusionlaw05_awake.mono _
      | exact intrusionlaw05_same.mono _ _ _
      | exact LeO.none _
      | refine LeO.ite ?_ ?_
      | refine LeO.bind ?_ (fun _ => ?_)
    · intro y0 y1 y2 y3 y4
      unfold intrusionlaw05_IntervalCounts.j1
      repeat' first
      | (with_reducible exact ih0 _ _ _)
      | (with_reducible exact ih1 _ _ _ _ _)
      | (with_reducible exact interval_Count.mono _ _)
      | (with_reducible exact interval_Intersect.mono _ _ _)
      | (with_reducible exact interval_Minus.mono _ _ _)
      | (with_reducible exact interval_Normal.mono _ _)
      | (with_reducible exact interval_Subset.mono _ _ _)
      | (with_reducible exact interval_Union.mono _ _ _)
      | (with_reducible exact interval_Valid.mono _ _)
      | (with_reducible exact intrusionlaw05_awake.mono _)
      | (with_reducible exact intrusionlaw05_same.mono _ _ _)
      | (with_reducible exact LeO.refl _)
      | (with_reducible exact LeO.none _)
      | (with_reducible refine LeO.ite ?_ ?_)
      | (with_reducible refine LeO.bind ?_ (fun _ => ?_))
      | exact ih0 _ _ _
      | exact ih1 _ _ _ _ _
      | exact interval_Count.mono _ _
      | exact interval_Intersect.mono _ _ _
      | exact interval_Minus.mono _ _ _
      | exact interval_Normal.mono _ _
      | exact interval_Subset.mono _ _ _
      | exact interval_Union.mono _ _ _
      | exact interval_Valid.mono _ _
      | exact intrusionlaw05_awake.mono _
      | exact intrusionlaw05_same.mono _ _ _
      | exact LeO.none _
      | refine LeO.ite ?_ ?_
      | refine LeO.bind ?_ (fun _ => ?_)
theorem intrusionlaw05_IntervalCounts.mono : ∀ a0 a1 k, LeO (intrusionlaw05_IntervalCounts.f k a0 a1) (intrusionlaw05_IntervalCounts.f (k + 1) a0 a1) := by
  intro a0 a1 k
  obtain ⟨ih0, ih1⟩ := intrusionlaw05_IntervalCounts.mono_l k
  unfold intrusionlaw05_IntervalCounts.f
  repeat' first
      | (with_reducible exact ih0 _ _ _)
      | (with_reducible exact ih1 _ _ _ _ _)
      | (with_reducible exact interval_Count.mono _ _)
      | (with_reducible exact interval_Intersect.mono _ _ _)
      | (with_reducible exact interval_Minus.mono _ _ _)
      | (with_reducible exact interval_Normal.mono _ _)
      | (with_reducible exact interval_Subset.mono _ _ _)
      | (with_reducible exact interval_Union.mono _ _ _)
      | (with_reducible exact interval_Valid.mono _ _)
      | (with_reducible exact intrusionlaw05_awake.mono _)
      | (with_reducible exact intrusionlaw05_same.mono _ _ _)
      | (with_reducible exact LeO.refl _)
      | (with_reducible exact LeO.none _)
      | (with_reducible refine LeO.ite ?_ ?_)
      | (with_reducible refine LeO.bind ?_ (fun _ => ?_))
      | exact ih0 _ _ _
      | exact ih1 _ _ _ _ _
      | exact interval_Count.mono _ _
      | exact interval_Intersect.mono _ _ _
      | exact interval_Minus.mono _ _ _
      | exact interval_Normal.mono _ _
      | exact interval_Subset.mono _ _ _
      | exact interval_Union.mono _ _ _
      | exact interval_Valid.mono _ _
      | exact intrusionlaw05_awake.mono _
      | exact intrusionlaw05_same.mono _ _ _
      | exact LeO.none _
      | refine LeO.ite ?_ ?_
      | refine LeO.bind ?_ (fun _ => ?_)
set_option maxHeartbeats 8000000 in
set_option maxRecDepth 100000 in
theorem intrusionlaw05_IntervalCounts.calls (k : Nat) (A0 : Option Addr) (c0 : Nat) (l0 : List (S52)) (A1 : Option Addr) (c1 : Nat) (l1 : List (S52)) (r : Bool) (w : World) (hr0 : Kd.C k52 w A0 l0.length l0) (hc0 : l0.length ≤ c0) (hr1 : Kd.C k52 w A1 l1.length l1) (hc1 : l1.length ≤ c1) (h : intrusionlaw05_IntervalCounts.f k l0 l1 = some r) :
    Calls Try.prog 8 #[.slice A0 l0.length c0, .slice A1 l1.length c1] w fun e w' => e = .returned (.bool r) ∧ Below w.heap.size w w' := by
  have HR0 := Aside0.mk hr0
  have HC0 := Aside0.mk hc0
  clear hr0 hc0
  have HR1 := Aside0.mk hr1
  have HC1 := Aside0.mk hc1
  clear hr1 hc1
  have HB := Aside0.mk (Below.refl w.heap.size w)
  have H : ((intrusionlaw05_large.f l0).bind fun t426 => (if t426 = true then (intrusionlaw05_IntervalCounts.j0 k l0 l1 true) else ((intrusionlaw05_large.f l1).bind fun t427 => (intrusionlaw05_IntervalCounts.j0 k l0 l1 t427)))) = some r := h
  clear h
  have HC3 := Aside0.mk H
  clear H
  go_enter Try.func8, Try.ntmps8
  go_upto_region 1 with (fail)
  go_cut [14] (fun v14 wc => ∃ (kq : Nat) (x14_2 : Bool), v14 = .bool x14_2 ∧ Aside0 (intrusionlaw05_IntervalCounts.j0 kq l0 l1 x14_2 = some r) ∧ Aside0 (kq ≤ k) ∧ Aside0 (Below w.heap.size w wc))
  case first =>
    have H := HC3.out
    clear HC3
    replace H := Option.bind_eq_some_iff.mp H
    obtain ⟨t426, A40, H⟩ := H
    replace H : (if t426 = true then (intrusionlaw05_IntervalCounts.j0 k l0 l1 true) else ((intrusionlaw05_large.f l1).bind fun t427 => (intrusionlaw05_IntervalCounts.j0 k l0 l1 t427))) = some r := H
    have A4 := Aside0.mk A40
    clear A40
    by_cases c5 : t426 = true
    · subst c5
      have H1 : (intrusionlaw05_IntervalCounts.j0 k l0 l1 true) = some r := by rw [if_pos rfl] at H; exact H
      clear H
      have H := H1
      clear H1
      have H' := Aside0.mk H
      clear H
      go_wp2_with (first | ((with_reducible refine gate_callee (f := 14) rfl ?_); refine goesL_ (some 10) rfl rfl Try.func14 (by kernel_rfl) rfl #[.slice A0 l0.length c0] rfl (by (try simp only [List.map_toArray, List.map_cons, List.map_nil]); first | done | rfl | (simp only [List.length_drop, List.length_take]; rfl)) ?_; (with_reducible refine (intrusionlaw05_large.calls _ _ l0 true _ ?side1 ?side2 A4.out).mono ?_); (case side1 => repeat (first | exact (Kd.C_below HR0.out HB.out) | (with_reducible refine Kd.C_alloc ?_ _) | (with_reducible refine Kd.C_drewN ?_ _) | (with_reducible refine Kd.C_drew ?_))); (case side2 => exact HC0.out); rintro e w' ⟨rfl, ⟨nd, rfl⟩⟩; refine ⟨_, rfl, ?_⟩))
      go_meet
      case rel => exact ⟨_, (true), (by first | rfl | (simp; done) | (simp [*]; done)), H', ⟨by first | omega | exact Nat.le_refl _⟩, ⟨by repeat (first | (with_reducible first | exact HB.out | apply below_alloc | apply pw_below_drewN | apply below_drew1) | exact HB.out)⟩⟩
    · replace c5 := Bool.eq_false_iff.mpr c5
      subst c5
      have H1 : ((intrusionlaw05_large.f l1).bind fun t427 => (intrusionlaw05_IntervalCounts.j0 k l0 l1 t427)) = some r := by rw [if_neg (show ¬ (false = true) by decide)] at H; exact H
      clear H
      have H := H1
      clear H1
      replace H := Option.bind_eq_some_iff.mp H
      obtain ⟨t427, A60, H⟩ := H
      replace H : (intrusionlaw05_IntervalCounts.j0 k l0 l1 t427) = some r := H
      have A6 := Aside0.mk A60
      clear A60
      have H' := Aside0.mk H
      clear H
      go_wp2_with (first | ((with_reducible refine gate_callee (f := 14) rfl ?_); refine goesL_ (some 10) rfl rfl Try.func14 (by kernel_rfl) rfl #[.slice A0 l0.length c0] rfl (by (try simp only [List.map_toArray, List.map_cons, List.map_nil]); first | done | rfl | (simp only [List.length_drop, List.length_take]; rfl)) ?_; (with_reducible refine (intrusionlaw05_large.calls _ _ l0 false _ ?side1 ?side2 A4.out).mono ?_); (case side1 => repeat (first | exact (Kd.C_below HR0.out HB.out) | (with_reducible refine Kd.C_alloc ?_ _) | (with_reducible refine Kd.C_drewN ?_ _) | (with_reducible refine Kd.C_drew ?_))); (case side2 => exact HC0.out); rintro e w' ⟨rfl, ⟨nd, rfl⟩⟩; refine ⟨_, rfl, ?_⟩) | (go_at_call 14; (with_reducible refine (intrusionlaw05_large.calls _ _ l1 t427 _ ?side1 ?side2 A6.out).mono ?_); (case side1 => repeat (first | exact (Kd.C_below HR1.out (by repeat (first | (with_reducible first | exact HB.out | apply below_alloc | apply pw_below_drewN | apply below_drew1) | exact HB.out))) | (with_reducible refine Kd.C_alloc ?_ _) | (with_reducible refine Kd.C_drewN ?_ _) | (with_reducible refine Kd.C_drew ?_))); (case side2 => exact HC1.out); rintro e w' ⟨rfl, ⟨nd, rfl⟩⟩))
      go_meet
      case rel => exact ⟨_, (t427), (by first | rfl | (simp; done) | (simp [*]; done)), H', ⟨by first | omega | exact Nat.le_refl _⟩, ⟨by repeat (first | (with_reducible first | exact HB.out | apply below_alloc | apply pw_below_drewN | apply below_drew1) | exact HB.out)⟩⟩
  case rest =>
    clear HC3
    try clear c1
    try clear p2
    try clear c5
    obtain ⟨kq, x14_2, rfl, HA, HJ2, HB⟩ := hcut
    cases kq with
    | zero => exact absurd HA.out (by simp [intrusionlaw05_IntervalCounts.j0])
    | succ kj2 =>
      have H := HA.out
      clear HA
      simp only [intrusionlaw05_IntervalCounts.j0] at H
      by_cases c7 : x14_2 = true
      · subst c7
        have H1 : ((intrusionlaw05_awake.f kj2).bind fun t428 => (some t428)) = some r := by rw [if_pos rfl] at H; exact H
        clear H
        have H := H1
        clear H1
        replace H := Option.bind_eq_some_iff.mp H
        obtain ⟨t428, A80, H⟩ := H
        replace H : (some t428) = some r := H
        have A8 := Aside0.mk A80
        clear A80
        obtain rfl := Option.some.inj H
        go_wp2_with (first | ((with_reducible refine gate_callee (f := 15) rfl ?_); refine goesL_ (some 15) rfl rfl Try.func15 (by kernel_rfl) rfl #[] rfl (by (try simp only [List.map_toArray, List.map_cons, List.map_nil]); first | done | rfl | (simp only [List.length_drop, List.length_take]; rfl)) ?_; (with_reducible refine (intrusionlaw05_awake.calls kj2  t428 _ A8.out).mono ?_); rintro e w9 ⟨rfl, hb⟩; refine ⟨_, rfl, ?_⟩; have n0_ := Aside0.mk (below_step (by repeat (first | (with_reducible first | exact HB.out | apply below_alloc | apply pw_below_drewN | apply below_drew1) | exact HB.out)) hb); clear HB; have HB := n0_; clear n0_; (try clear hb); (try clear hb2); (try clear hk); (try clear hi)))
        go_ret
        exact ⟨by first | rfl | (simp [errW_none, errW_some] <;> rfl) | (simp [*, errW_none, errW_some] <;> rfl), by repeat (first | (with_reducible first | exact HB.out | apply below_alloc | apply pw_below_drewN | apply below_drew1) | exact HB.out)⟩
      · replace c7 := Bool.eq_false_iff.mpr c7
        subst c7
        have H1 : ((interval_Count.f kj2 l0).bind fun t429 => ((interval_Count.f kj2 l1).bind fun t430 => ((interval_Intersect.f kj2 l0 l1).bind fun t431 => ((interval_Count.f kj2 t431).bind fun t434 => ((interval_Union.f kj2 l0 l1).bind fun t435 => ((interval_Count.f kj2 t435).bind fun t438 => (if (wrap64 (t438 + t434)) = (wrap64 (t429 + t430)) then ((interval_Minus.f kj2 l0 l1).bind fun t439 => ((interval_Count.f kj2 t439).bind fun t442 => (if t442 = (wrap64 (t429 - t434)) then (if t429 < 0 then (intrusionlaw05_IntervalCounts.j1 kj2 l0 l1 t429 t434 true) else (intrusionlaw05_IntervalCounts.j1 kj2 l0 l1 t429 t434 (decide (t429 > 4294967297)))) else (intrusionlaw05_IntervalCounts.j1 kj2 l0 l1 t429 t434 true)))) else (intrusionlaw05_IntervalCounts.j1 kj2 l0 l1 t429 t434 true)))))))) = some r := by rw [if_neg (show ¬ (false = true) by decide)] at H; exact H
        clear H
        have H := H1
        clear H1
        replace H := Option.bind_eq_some_iff.mp H
        obtain ⟨t429, A100, H⟩ := H
        replace H : ((interval_Count.f kj2 l1).bind fun t430 => ((interval_Intersect.f kj2 l0 l1).bind fun t431 => ((interval_Count.f kj2 t431).bind fun t434 => ((interval_Union.f kj2 l0 l1).bind fun t435 => ((interval_Count.f kj2 t435).bind fun t438 => (if (wrap64 (t438 + t434)) = (wrap64 (t429 + t430)) then ((interval_Minus.f kj2 l0 l1).bind fun t439 => ((interval_Count.f kj2 t439).bind fun t442 => (if t442 = (wrap64 (t429 - t434)) then (if t429 < 0 then (intrusionlaw05_IntervalCounts.j1 kj2 l0 l1 t429 t434 true) else (intrusionlaw05_IntervalCounts.j1 kj2 l0 l1 t429 t434 (decide (t429 > 4294967297)))) else (intrusionlaw05_IntervalCounts.j1 kj2 l0 l1 t429 t434 true)))) else (intrusionlaw05_IntervalCounts.j1 kj2 l0 l1 t429 t434 true))))))) = some r := H
        have A10 := Aside0.mk A100
        clear A100
        replace H := Option.bind_eq_some_iff.mp H
        obtain ⟨t430, A110, H⟩ := H
        replace H : ((interval_Intersect.f kj2 l0 l1).bind fun t431 => ((interval_Count.f kj2 t431).bind fun t434 => ((interval_Union.f kj2 l0 l1).bind fun t435 => ((interval_Count.f kj2 t435).bind fun t438 => (if (wrap64 (t438 + t434)) = (wrap64 (t429 + t430)) then ((interval_Minus.f kj2 l0 l1).bind fun t439 => ((interval_Count.f kj2 t439).bind fun t442 => (if t442 = (wrap64 (t429 - t434)) then (if t429 < 0 then (intrusionlaw05_IntervalCounts.j1 kj2 l0 l1 t429 t434 true) else (intrusionlaw05_IntervalCounts.j1 kj2 l0 l1 t429 t434 (decide (t429 > 4294967297)))) else (intrusionlaw05_IntervalCounts.j1 kj2 l0 l1 t429 t434 true)))) else (intrusionlaw05_IntervalCounts.j1 kj2 l0 l1 t429 t434 true)))))) = some r := H
        have A11 := Aside0.mk A110
        clear A110
        replace H := Option.bind_eq_some_iff.mp H
        obtain ⟨t431, A120, H⟩ := H
        replace H : ((interval_Count.f kj2 t431).bind fun t434 => ((interval_Union.f kj2 l0 l1).bind fun t435 => ((interval_Count.f kj2 t435).bind fun t438 => (if (wrap64 (t438 + t434)) = (wrap64 (t429 + t430)) then ((interval_Minus.f kj2 l0 l1).bind fun t439 => ((interval_Count.f kj2 t439).bind fun t442 => (if t442 = (wrap64 (t429 - t434)) then (if t429 < 0 then (intrusionlaw05_IntervalCounts.j1 kj2 l0 l1 t429 t434 true) else (intrusionlaw05_IntervalCounts.j1 kj2 l0 l1 t429 t434 (decide (t429 > 4294967297)))) else (intrusionlaw05_IntervalCounts.j1 kj2 l0 l1 t429 t434 true)))) else (intrusionlaw05_IntervalCounts.j1 kj2 l0 l1 t429 t434 true))))) = some r := H
        have A12 := Aside0.mk A120
        clear A120
        replace H := Option.bind_eq_some_iff.mp H
        obtain ⟨t434, A130, H⟩ := H
        replace H : ((interval_Union.f kj2 l0 l1).bind fun t435 => ((interval_Count.f kj2 t435).bind fun t438 => (if (wrap64 (t438 + t434)) = (wrap64 (t429 + t430)) then ((interval_Minus.f kj2 l0 l1).bind fun t439 => ((interval_Count.f kj2 t439).bind fun t442 => (if t442 = (wrap64 (t429 - t434)) then (if t429 < 0 then (intrusionlaw05_IntervalCounts.j1 kj2 l0 l1 t429 t434 true) else (intrusionlaw05_IntervalCounts.j1 kj2 l0 l1 t429 t434 (decide (t429 > 4294967297)))) else (intrusionlaw05_IntervalCounts.j1 kj2 l0 l1 t429 t434 true)))) else (intrusionlaw05_IntervalCounts.j1 kj2 l0 l1 t429 t434 true)))) = some r := H
        have A13 := Aside0.mk A130
        clear A130
        have HC14 := Aside0.mk H
        clear H
        go_upto_region 5 with (first | ((with_reducible refine gate_callee (f := 21) rfl ?_); refine goesL_ (some 17) rfl rfl Try.func21 (by kernel_rfl) rfl #[.slice A0 l0.length c0] rfl (by (try simp only [List.map_toArray, List.map_cons, List.map_nil]); first | done | rfl | (simp only [List.length_drop, List.length_take]; rfl)) ?_; (with_reducible refine (interval_Count.calls kj2 _ _ l0 t429 _ ?side1 ?side2 A10.out).mono ?_); (case side1 => repeat (first | exact (Kd.C_below HR0.out HB.out) | (with_reducible refine Kd.C_alloc ?_ _) | (with_reducible refine Kd.C_drewN ?_ _) | (with_reducible refine Kd.C_drew ?_))); (case side2 => exact HC0.out); rintro e w15 ⟨rfl, hb⟩; refine ⟨_, rfl, ?_⟩; have n0_ := Aside0.mk (below_step (by repeat (first | (with_reducible first | exact HB.out | apply below_alloc | apply pw_below_drewN | apply below_drew1) | exact HB.out)) hb); clear HB; have HB := n0_; clear n0_; (try clear hb); (try clear hb2); (try clear hk); (try clear hi)) | ((with_reducible refine gate_callee (f := 21) rfl ?_); refine goesL_ (some 19) rfl rfl Try.func21 (by kernel_rfl) rfl #[.slice A1 l1.length c1] rfl (by (try simp only [List.map_toArray, List.map_cons, List.map_nil]); first | done | rfl | (simp only [List.length_drop, List.length_take]; rfl)) ?_; (with_reducible refine (interval_Count.calls kj2 _ _ l1 t430 _ ?side1 ?side2 A11.out).mono ?_); (case side1 => repeat (first | exact (Kd.C_below HR1.out HB.out) | (with_reducible refine Kd.C_alloc ?_ _) | (with_reducible refine Kd.C_drewN ?_ _) | (with_reducible refine Kd.C_drew ?_))); (case side2 => exact HC1.out); rintro e w16 ⟨rfl, hb⟩; refine ⟨_, rfl, ?_⟩; have n0_ := Aside0.mk (below_step (by repeat (first | (with_reducible first | exact HB.out | apply below_alloc | apply pw_below_drewN | apply below_drew1) | exact HB.out)) hb); clear HB; have HB := n0_; clear n0_; (try clear hb); (try clear hb2); (try clear hk); (try clear hi)) | ((with_reducible refine gate_callee (f := 31) rfl ?_); refine goesL_ (some 22) rfl rfl Try.func31 (by kernel_rfl) rfl #[.slice A0 l0.length c0, .slice A1 l1.length c1] rfl (by (try simp only [List.map_toArray, List.map_cons, List.map_nil]); first | done | rfl | (simp only [List.length_drop, List.length_take]; rfl)) ?_; (with_reducible refine (interval_Intersect.calls kj2 _ _ l0 _ _ l1 t431 _ ?side1 ?side2 ?side3 ?side4 A12.out).mono ?_); (case side1 => repeat (first | exact (Kd.C_below HR0.out HB.out) | (with_reducible refine Kd.C_alloc ?_ _) | (with_reducible refine Kd.C_drewN ?_ _) | (with_reducible refine Kd.C_drew ?_))); (case side2 => exact HC0.out); (case side3 => repeat (first | exact (Kd.C_below HR1.out HB.out) | (with_reducible refine Kd.C_alloc ?_ _) | (with_reducible refine Kd.C_drewN ?_ _) | (with_reducible refine Kd.C_drew ?_))); (case side4 => exact HC1.out); rintro e w17 ⟨v432, rfl, ho0, hb⟩; refine ⟨_, rfl, ?_⟩; have n0_ := Aside0.mk (Kd.R_lower ho0 (below_size (by repeat (first | (with_reducible first | exact HB.out | apply below_alloc | apply pw_below_drewN | apply below_drew1) | exact HB.out)))); have n1_ := Aside0.mk (below_step (by repeat (first | (with_reducible first | exact HB.out | apply below_alloc | apply pw_below_drewN | apply below_drew1) | exact HB.out)) hb); clear HB; have HO433 := n0_; have HB := n1_; clear n0_ n1_; (try clear hb); (try clear hb2); (try clear hk); (try clear hi); (try clear ho0); obtain ⟨Ao18, co18, eo18⟩ := Kd.R_slice HO433.out; subst eo18) | ((with_reducible refine gate_callee (f := 21) rfl ?_); refine goesL_ (some 23) rfl rfl Try.func21 (by kernel_rfl) rfl #[.slice Ao18 t431.length co18] rfl (by (try simp only [List.map_toArray, List.map_cons, List.map_nil]); first | done | rfl | (simp only [List.length_drop, List.length_take]; rfl)) ?_; (with_reducible refine (interval_Count.calls kj2 _ _ t431 t434 _ ?side1 ?side2 A13.out).mono ?_); (case side1 => repeat (first | exact (Kd.R_reads' HO433.out).2.2 | (with_reducible refine Kd.C_alloc ?_ _) | (with_reducible refine Kd.C_drewN ?_ _) | (with_reducible refine Kd.C_drew ?_))); (case side2 => exact (Kd.R_reads' HO433.out).2.1); rintro e w19 ⟨rfl, hb⟩; refine ⟨_, rfl, ?_⟩; have n0_ := Aside0.mk (Kd.R_below (by (with_reducible repeat (first | apply Kd.R_alloc | apply Kd.R_drewN | apply Kd.R_drew)); exact HO433.out) hb); have n1_ := Aside0.mk (below_step (by repeat (first | (with_reducible first | exact HB.out | apply below_alloc | apply pw_below_drewN | apply below_drew1) | exact HB.out)) hb); clear HO433; clear HB; have HO433 := n0_; have HB := n1_; clear n0_ n1_; (try clear hb); (try clear hb2); (try clear hk); (try clear hi)))
        (try simp only [Act.put, List.setIfInBounds_toArray, List.set_cons_zero, List.set_cons_succ])
        go_cut [51] (fun v51 wc => ∃ (kq : Nat) (x51_13 : Bool), v51 = .bool x51_13 ∧ Aside0 (intrusionlaw05_IntervalCounts.j1 kq l0 l1 t429 t434 x51_13 = some r) ∧ Aside0 (kq ≤ kj2) ∧ Aside0 (Below w.heap.size w wc))
        case first =>
          have H := HC14.out
          clear HC14
          replace H := Option.bind_eq_some_iff.mp H
          obtain ⟨t435, A200, H⟩ := H
          replace H : ((interval_Count.f kj2 t435).bind fun t438 => (if (wrap64 (t438 + t434)) = (wrap64 (t429 + t430)) then ((interval_Minus.f kj2 l0 l1).bind fun t439 => ((interval_Count.f kj2 t439).bind fun t442 => (if t442 = (wrap64 (t429 - t434)) then (if t429 < 0 then (intrusionlaw05_IntervalCounts.j1 kj2 l0 l1 t429 t434 true) else (intrusionlaw05_IntervalCounts.j1 kj2 l0 l1 t429 t434 (decide (t429 > 4294967297)))) else (intrusionlaw05_IntervalCounts.j1 kj2 l0 l1 t429 t434 true)))) else (intrusionlaw05_IntervalCounts.j1 kj2 l0 l1 t429 t434 true))) = some r := H
          have A20 := Aside0.mk A200
          clear A200
          replace H := Option.bind_eq_some_iff.mp H
          obtain ⟨t438, A210, H⟩ := H
          replace H : (if (wrap64 (t438 + t434)) = (wrap64 (t429 + t430)) then ((interval_Minus.f kj2 l0 l1).bind fun t439 => ((interval_Count.f kj2 t439).bind fun t442 => (if t442 = (wrap64 (t429 - t434)) then (if t429 < 0 then (intrusionlaw05_IntervalCounts.j1 kj2 l0 l1 t429 t434 true) else (intrusionlaw05_IntervalCounts.j1 kj2 l0 l1 t429 t434 (decide (t429 > 4294967297)))) else (intrusionlaw05_IntervalCounts.j1 kj2 l0 l1 t429 t434 true)))) else (intrusionlaw05_IntervalCounts.j1 kj2 l0 l1 t429 t434 true)) = some r := H
          have A21 := Aside0.mk A210
          clear A210
          by_cases c22 : (wrap64 (t438 + t434)) = (wrap64 (t429 + t430))
          · rw [if_pos c22] at H
            have c22b0 : ((wrap64 (t438 + t434)) == (wrap64 (t429 + t430))) = true := beq_iff_eq.mpr c22
            have c22b1 : ((wrap64 (t438 + t434)) != (wrap64 (t429 + t430))) = false := bne_eq_false_iff_eq.mpr c22
            clear c22
            (first | rw [c22b0] | (simp only [i64_w, i32_w]; rw [c22b0]) | skip)
            replace H := Option.bind_eq_some_iff.mp H
            obtain ⟨t439, A230, H⟩ := H
            replace H : ((interval_Count.f kj2 t439).bind fun t442 => (if t442 = (wrap64 (t429 - t434)) then (if t429 < 0 then (intrusionlaw05_IntervalCounts.j1 kj2 l0 l1 t429 t434 true) else (intrusionlaw05_IntervalCounts.j1 kj2 l0 l1 t429 t434 (decide (t429 > 4294967297)))) else (intrusionlaw05_IntervalCounts.j1 kj2 l0 l1 t429 t434 true))) = some r := H
            have A23 := Aside0.mk A230
            clear A230
            replace H := Option.bind_eq_some_iff.mp H
            obtain ⟨t442, A240, H⟩ := H
            replace H : (if t442 = (wrap64 (t429 - t434)) then (if t429 < 0 then (intrusionlaw05_IntervalCounts.j1 kj2 l0 l1 t429 t434 true) else (intrusionlaw05_IntervalCounts.j1 kj2 l0 l1 t429 t434 (decide (t429 > 4294967297)))) else (intrusionlaw05_IntervalCounts.j1 kj2 l0 l1 t429 t434 true)) = some r := H
            have A24 := Aside0.mk A240
            clear A240
            by_cases c25 : t442 = (wrap64 (t429 - t434))
            · rw [if_pos c25] at H
              have c25b0 : (t442 == (wrap64 (t429 - t434))) = true := beq_iff_eq.mpr c25
              have c25b1 : (t442 != (wrap64 (t429 - t434))) = false := bne_eq_false_iff_eq.mpr c25
              clear c25
              by_cases c26 : t429 < 0
              · rw [if_pos c26] at H
                have c26b0 : decide (t429 < 0) = true := decide_eq_true c26
                clear c26
                have H' := Aside0.mk H
                clear H
                go_wp2_with (first | ((with_reducible refine gate_callee (f := 29) rfl ?_); refine goesL_ (some 26) rfl rfl Try.func29 (by kernel_rfl) rfl #[.slice A0 l0.length c0, .slice A1 l1.length c1] rfl (by (try simp only [List.map_toArray, List.map_cons, List.map_nil]); first | done | rfl | (simp only [List.length_drop, List.length_take]; rfl)) ?_; (with_reducible refine (interval_Union.calls kj2 (fun k_ => k_ < w.heap.size) _ _ l0 (fun k_ => k_ < w.heap.size) _ _ l1 t435 _ ?side1 ?side2 A20.out).mono ?_); (case side1 => exact Kd.V_mk HC0.out (Kd.F_below (Kd.C_F k52_heap HR0.out) (by repeat (first | (with_reducible first | exact HB.out | apply below_alloc | apply pw_below_drewN | apply below_drew1) | exact HB.out)))); (case side2 => exact Kd.V_mk HC1.out (Kd.F_below (Kd.C_F k52_heap HR1.out) (by repeat (first | (with_reducible first | exact HB.out | apply below_alloc | apply pw_below_drewN | apply below_drew1) | exact HB.out)))); rintro e w27 ⟨v436, rfl, ho0, hb⟩; refine ⟨_, rfl, ?_⟩; have n0_ := Aside0.mk (Kd.R_elder' (by (with_reducible repeat (first | apply Kd.R_alloc | apply Kd.R_drewN | apply Kd.R_drew)); exact HO433.out) (Kd.R_base ho0) hb); have n1_ := Aside0.mk (Kd.R_lower (Kd.R_new' (Kd.R_mono (ok' := fun k_ => True) ho0 (fun _ hk_ => trivial)) (Kd.R_lt (by (with_reducible repeat (first | apply Kd.R_alloc | apply Kd.R_drewN | apply Kd.R_drew)); exact HO433.out))) (below_size (by repeat (first | (with_reducible first | exact HB.out | apply below_alloc | apply pw_below_drewN | apply below_drew1) | exact HB.out)))); have n2_ := Aside0.mk (below_step (by repeat (first | (with_reducible first | exact HB.out | apply below_alloc | apply pw_below_drewN | apply below_drew1) | exact HB.out)) hb); clear HO433; clear HB; have HO433 := n0_; have HO437 := n1_; have HB := n2_; clear n0_ n1_ n2_; (try clear hb); (try clear hb2); (try clear hk); (try clear hi); (try clear ho0); obtain ⟨Ao28, co28, eo28⟩ := Kd.R_slice HO437.out; subst eo28) | ((with_reducible refine gate_callee (f := 21) rfl ?_); refine goesL_ (some 27) rfl rfl Try.func21 (by kernel_rfl) rfl #[.slice Ao28 t435.length co28] rfl (by (try simp only [List.map_toArray, List.map_cons, List.map_nil]); first | done | rfl | (simp only [List.length_drop, List.length_take]; rfl)) ?_; (with_reducible refine (interval_Count.calls kj2 _ _ t435 t438 _ ?side1 ?side2 A21.out).mono ?_); (case side1 => repeat (first | exact (Kd.R_reads' HO437.out).2.2 | (with_reducible refine Kd.C_alloc ?_ _) | (with_reducible refine Kd.C_drewN ?_ _) | (with_reducible refine Kd.C_drew ?_))); (case side2 => exact (Kd.R_reads' HO437.out).2.1); rintro e w29 ⟨rfl, hb⟩; refine ⟨_, rfl, ?_⟩; have n0_ := Aside0.mk (Kd.R_below (by (with_reducible repeat (first | apply Kd.R_alloc | apply Kd.R_drewN | apply Kd.R_drew)); exact HO433.out) hb); have n1_ := Aside0.mk (Kd.R_below (by (with_reducible repeat (first | apply Kd.R_alloc | apply Kd.R_drewN | apply Kd.R_drew)); exact HO437.out) hb); have n2_ := Aside0.mk (below_step (by repeat (first | (with_reducible first | exact HB.out | apply below_alloc | apply pw_below_drewN | apply below_drew1) | exact HB.out)) hb); clear HO433; clear HO437; clear HB; have HO433 := n0_; have HO437 := n1_; have HB := n2_; clear n0_ n1_ n2_; (try clear hb); (try clear hb2); (try clear hk); (try clear hi)) | (go_at_call 33; (with_reducible refine (interval_Minus.calls kj2 _ _ l0 _ _ l1 t439 _ ?side1 ?side2 ?side3 ?side4 A23.out).mono ?_); (case side1 => repeat (first | exact (Kd.C_below HR0.out HB.out) | (with_reducible refine Kd.C_alloc ?_ _) | (with_reducible refine Kd.C_drewN ?_ _) | (with_reducible refine Kd.C_drew ?_))); (case side2 => exact HC0.out); (case side3 => repeat (first | exact (Kd.C_below HR1.out HB.out) | (with_reducible refine Kd.C_alloc ?_ _) | (with_reducible refine Kd.C_drewN ?_ _) | (with_reducible refine Kd.C_drew ?_))); (case side4 => exact HC1.out); rintro e w30 ⟨v440, rfl, ho0, hb⟩; have n0_ := Aside0.mk (Kd.R_elder' (by (with_reducible repeat (first | apply Kd.R_alloc | apply Kd.R_drewN | apply Kd.R_drew)); exact HO433.out) (Kd.R_base ho0) hb); have n1_ := Aside0.mk (Kd.R_elder' (by (with_reducible repeat (first | apply Kd.R_alloc | apply Kd.R_drewN | apply Kd.R_drew)); exact HO437.out) (Kd.R_base ho0) hb); have n2_ := Aside0.mk (Kd.R_lower (Kd.R_new' (Kd.R_new' ho0 (Kd.R_lt (by (with_reducible repeat (first | apply Kd.R_alloc | apply Kd.R_drewN | apply Kd.R_drew)); exact HO433.out))) (Kd.R_lt (by (with_reducible repeat (first | apply Kd.R_alloc | apply Kd.R_drewN | apply Kd.R_drew)); exact HO437.out))) (below_size (by repeat (first | (with_reducible first | exact HB.out | apply below_alloc | apply pw_below_drewN | apply below_drew1) | exact HB.out)))); have n3_ := Aside0.mk (below_step (by repeat (first | (with_reducible first | exact HB.out | apply below_alloc | apply pw_below_drewN | apply below_drew1) | exact HB.out)) hb); clear HO433; clear HO437; clear HB; have HO433 := n0_; have HO437 := n1_; have HO441 := n2_; have HB := n3_; clear n0_ n1_ n2_ n3_; (try clear hb); (try clear hb2); (try clear hk); (try clear hi); (try clear ho0); obtain ⟨Ao31, co31, eo31⟩ := Kd.R_slice HO441.out; subst eo31) | (go_at_call 21; (with_reducible refine (interval_Count.calls kj2 _ _ t439 t442 _ ?side1 ?side2 A24.out).mono ?_); (case side1 => repeat (first | exact (Kd.R_reads' HO441.out).2.2 | (with_reducible refine Kd.C_alloc ?_ _) | (with_reducible refine Kd.C_drewN ?_ _) | (with_reducible refine Kd.C_drew ?_))); (case side2 => exact (Kd.R_reads' HO441.out).2.1); rintro e w32 ⟨rfl, hb⟩; have n0_ := Aside0.mk (Kd.R_below (by (with_reducible repeat (first | apply Kd.R_alloc | apply Kd.R_drewN | apply Kd.R_drew)); exact HO433.out) hb); have n1_ := Aside0.mk (Kd.R_below (by (with_reducible repeat (first | apply Kd.R_alloc | apply Kd.R_drewN | apply Kd.R_drew)); exact HO437.out) hb); have n2_ := Aside0.mk (Kd.R_below (by (with_reducible repeat (first | apply Kd.R_alloc | apply Kd.R_drewN | apply Kd.R_drew)); exact HO441.out) hb); have n3_ := Aside0.mk (below_step (by repeat (first | (with_reducible first | exact HB.out | apply below_alloc | apply pw_below_drewN | apply below_drew1) | exact HB.out)) hb); clear HO433; clear HO437; clear HO441; clear HB; have HO433 := n0_; have HO437 := n1_; have HO441 := n2_; have HB := n3_; clear n0_ n1_ n2_ n3_; (try clear hb); (try clear hb2); (try clear hk); (try clear hi)))
                go_meet
                case rel => exact ⟨_, (true), (by first | rfl | (simp; done) | (simp [*]; done)), H', ⟨by have := HJ2.out; first | omega | exact Nat.le_refl _⟩, ⟨by repeat (first | (with_reducible first | exact HB.out | apply below_alloc | apply pw_below_drewN | apply below_drew1) | exact HB.out)⟩⟩
              · rw [if_neg c26] at H
                have c26b0 : decide (t429 < 0) = false := decide_eq_false c26
                clear c26
                have H' := Aside0.mk H
                clear H
                go_wp2_with (first | ((with_reducible refine gate_callee (f := 29) rfl ?_); refine goesL_ (some 26) rfl rfl Try.func29 (by kernel_rfl) rfl #[.slice A0 l0.length c0, .slice A1 l1.length c1] rfl (by (try simp only [List.map_toArray, List.map_cons, List.map_nil]); first | done | rfl | (simp only [List.length_drop, List.length_take]; rfl)) ?_; (with_reducible refine (interval_Union.calls kj2 (fun k_ => k_ < w.heap.size) _ _ l0 (fun k_ => k_ < w.heap.size) _ _ l1 t435 _ ?side1 ?side2 A20.out).mono ?_); (case side1 => exact Kd.V_mk HC0.out (Kd.F_below (Kd.C_F k52_heap HR0.out) (by repeat (first | (with_reducible first | exact HB.out | apply below_alloc | apply pw_below_drewN | apply below_drew1) | exact HB.out)))); (case side2 => exact Kd.V_mk HC1.out (Kd.F_below (Kd.C_F k52_heap HR1.out) (by repeat (first | (with_reducible first | exact HB.out | apply below_alloc | apply pw_below_drewN | apply below_drew1) | exact HB.out)))); rintro e w33 ⟨v436, rfl, ho0, hb⟩; refine ⟨_, rfl, ?_⟩; have n0_ := Aside0.mk (Kd.R_elder' (by (with_reducible repeat (first | apply Kd.R_alloc | apply Kd.R_drewN | apply Kd.R_drew)); exact HO433.out) (Kd.R_base ho0) hb); have n1_ := Aside0.mk (Kd.R_lower (Kd.R_new' (Kd.R_mono (ok' := fun k_ => True) ho0 (fun _ hk_ => trivial)) (Kd.R_lt (by (with_reducible repeat (first | apply Kd.R_alloc | apply Kd.R_drewN | apply Kd.R_drew)); exact HO433.out))) (below_size (by repeat (first | (with_reducible first | exact HB.out | apply below_alloc | apply pw_below_drewN | apply below_drew1) | exact HB.out)))); have n2_ := Aside0.mk (below_step (by repeat (first | (with_reducible first | exact HB.out | apply below_alloc | apply pw_below_drewN | apply below_drew1) | exact HB.out)) hb); clear HO433; clear HB; have HO433 := n0_; have HO437 := n1_; have HB := n2_; clear n0_ n1_ n2_; (try clear hb); (try clear hb2); (try clear hk); (try clear hi); (try clear ho0); obtain ⟨Ao34, co34, eo34⟩ := Kd.R_slice HO437.out; subst eo34) | ((with_reducible refine gate_callee (f := 21) rfl ?_); refine goesL_ (some 27) rfl rfl Try.func21 (by kernel_rfl) rfl #[.slice Ao34 t435.length co34] rfl (by (try simp only [List.map_toArray, List.map_cons, List.map_nil]); first | done | rfl | (simp only [List.length_drop, List.length_take]; rfl)) ?_; (with_reducible refine (interval_Count.calls kj2 _ _ t435 t438 _ ?side1 ?side2 A21.out).mono ?_); (case side1 => repeat (first | exact (Kd.R_reads' HO437.out).2.2 | (with_reducible refine Kd.C_alloc ?_ _) | (with_reducible refine Kd.C_drewN ?_ _) | (with_reducible refine Kd.C_drew ?_))); (case side2 => exact (Kd.R_reads' HO437.out).2.1); rintro e w35 ⟨rfl, hb⟩; refine ⟨_, rfl, ?_⟩; have n0_ := Aside0.mk (Kd.R_below (by (with_reducible repeat (first | apply Kd.R_alloc | apply Kd.R_drewN | apply Kd.R_drew)); exact HO433.out) hb); have n1_ := Aside0.mk (Kd.R_below (by (with_reducible repeat (first | apply Kd.R_alloc | apply Kd.R_drewN | apply Kd.R_drew)); exact HO437.out) hb); have n2_ := Aside0.mk (below_step (by repeat (first | (with_reducible first | exact HB.out | apply below_alloc | apply pw_below_drewN | apply below_drew1) | exact HB.out)) hb); clear HO433; clear HO437; clear HB; have HO433 := n0_; have HO437 := n1_; have HB := n2_; clear n0_ n1_ n2_; (try clear hb); (try clear hb2); (try clear hk); (try clear hi)) | (go_at_call 33; (with_reducible refine (interval_Minus.calls kj2 _ _ l0 _ _ l1 t439 _ ?side1 ?side2 ?side3 ?side4 A23.out).mono ?_); (case side1 => repeat (first | exact (Kd.C_below HR0.out HB.out) | (with_reducible refine Kd.C_alloc ?_ _) | (with_reducible refine Kd.C_drewN ?_ _) | (with_reducible refine Kd.C_drew ?_))); (case side2 => exact HC0.out); (case side3 => repeat (first | exact (Kd.C_below HR1.out HB.out) | (with_reducible refine Kd.C_alloc ?_ _) | (with_reducible refine Kd.C_drewN ?_ _) | (with_reducible refine Kd.C_drew ?_))); (case side4 => exact HC1.out); rintro e w36 ⟨v440, rfl, ho0, hb⟩; have n0_ := Aside0.mk (Kd.R_elder' (by (with_reducible repeat (first | apply Kd.R_alloc | apply Kd.R_drewN | apply Kd.R_drew)); exact HO433.out) (Kd.R_base ho0) hb); have n1_ := Aside0.mk (Kd.R_elder' (by (with_reducible repeat (first | apply Kd.R_alloc | apply Kd.R_drewN | apply Kd.R_drew)); exact HO437.out) (Kd.R_base ho0) hb); have n2_ := Aside0.mk (Kd.R_lower (Kd.R_new' (Kd.R_new' ho0 (Kd.R_lt (by (with_reducible repeat (first | apply Kd.R_alloc | apply Kd.R_drewN | apply Kd.R_drew)); exact HO433.out))) (Kd.R_lt (by (with_reducible repeat (first | apply Kd.R_alloc | apply Kd.R_drewN | apply Kd.R_drew)); exact HO437.out))) (below_size (by repeat (first | (with_reducible first | exact HB.out | apply below_alloc | apply pw_below_drewN | apply below_drew1) | exact HB.out)))); have n3_ := Aside0.mk (below_step (by repeat (first | (with_reducible first | exact HB.out | apply below_alloc | apply pw_below_drewN | apply below_drew1) | exact HB.out)) hb); clear HO433; clear HO437; clear HB; have HO433 := n0_; have HO437 := n1_; have HO441 := n2_; have HB := n3_; clear n0_ n1_ n2_ n3_; (try clear hb); (try clear hb2); (try clear hk); (try clear hi); (try clear ho0); obtain ⟨Ao37, co37, eo37⟩ := Kd.R_slice HO441.out; subst eo37) | (go_at_call 21; (with_reducible refine (interval_Count.calls kj2 _ _ t439 t442 _ ?side1 ?side2 A24.out).mono ?_); (case side1 => repeat (first | exact (Kd.R_reads' HO441.out).2.2 | (with_reducible refine Kd.C_alloc ?_ _) | (with_reducible refine Kd.C_drewN ?_ _) | (with_reducible refine Kd.C_drew ?_))); (case side2 => exact (Kd.R_reads' HO441.out).2.1); rintro e w38 ⟨rfl, hb⟩; have n0_ := Aside0.mk (Kd.R_below (by (with_reducible repeat (first | apply Kd.R_alloc | apply Kd.R_drewN | apply Kd.R_drew)); exact HO433.out) hb); have n1_ := Aside0.mk (Kd.R_below (by (with_reducible repeat (first | apply Kd.R_alloc | apply Kd.R_drewN | apply Kd.R_drew)); exact HO437.out) hb); have n2_ := Aside0.mk (Kd.R_below (by (with_reducible repeat (first | apply Kd.R_alloc | apply Kd.R_drewN | apply Kd.R_drew)); exact HO441.out) hb); have n3_ := Aside0.mk (below_step (by repeat (first | (with_reducible first | exact HB.out | apply below_alloc | apply pw_below_drewN | apply below_drew1) | exact HB.out)) hb); clear HO433; clear HO437; clear HO441; clear HB; have HO433 := n0_; have HO437 := n1_; have HO441 := n2_; have HB := n3_; clear n0_ n1_ n2_ n3_; (try clear hb); (try clear hb2); (try clear hk); (try clear hi)))
                go_meet
                case rel => exact ⟨_, (decide (t429 > 4294967297)), (by first | rfl | (simp; done) | (simp [*]; done)), H', ⟨by have := HJ2.out; first | omega | exact Nat.le_refl _⟩, ⟨by repeat (first | (with_reducible first | exact HB.out | apply below_alloc | apply pw_below_drewN | apply below_drew1) | exact HB.out)⟩⟩
            · rw [if_neg c25] at H
              have c25b0 : (t442 == (wrap64 (t429 - t434))) = false := beq_eq_false_iff_ne.mpr c25
              have c25b1 : (t442 != (wrap64 (t429 - t434))) = true := bne_iff_ne.mpr c25
              have H' := Aside0.mk H
              clear H
              go_wp2_with (first | ((with_reducible refine gate_callee (f := 29) rfl ?_); refine goesL_ (some 26) rfl rfl Try.func29 (by kernel_rfl) rfl #[.slice A0 l0.length c0, .slice A1 l1.length c1] rfl (by (try simp only [List.map_toArray, List.map_cons, List.map_nil]); first | done | rfl | (simp only [List.length_drop, List.length_take]; rfl)) ?_; (with_reducible refine (interval_Union.calls kj2 (fun k_ => k_ < w.heap.size) _ _ l0 (fun k_ => k_ < w.heap.size) _ _ l1 t435 _ ?side1 ?side2 A20.out).mono ?_); (case side1 => exact Kd.V_mk HC0.out (Kd.F_below (Kd.C_F k52_heap HR0.out) (by repeat (first | (with_reducible first | exact HB.out | apply below_alloc | apply pw_below_drewN | apply below_drew1) | exact HB.out)))); (case side2 => exact Kd.V_mk HC1.out (Kd.F_below (Kd.C_F k52_heap HR1.out) (by repeat (first | (with_reducible first | exact HB.out | apply below_alloc | apply pw_below_drewN | apply below_drew1) | exact HB.out)))); rintro e w39 ⟨v436, rfl, ho0, hb⟩; refine ⟨_, rfl, ?_⟩; have n0_ := Aside0.mk (Kd.R_elder' (by (with_reducible repeat (first | apply Kd.R_alloc | apply Kd.R_drewN | apply Kd.R_drew)); exact HO433.out) (Kd.R_base ho0) hb); have n1_ := Aside0.mk (Kd.R_lower (Kd.R_new' (Kd.R_mono (ok' := fun k_ => True) ho0 (fun _ hk_ => trivial)) (Kd.R_lt (by (with_reducible repeat (first | apply Kd.R_alloc | apply Kd.R_drewN | apply Kd.R_drew)); exact HO433.out))) (below_size (by repeat (first | (with_reducible first | exact HB.out | apply below_alloc | apply pw_below_drewN | apply below_drew1) | exact HB.out)))); have n2_ := Aside0.mk (below_step (by repeat (first | (with_reducible first | exact HB.out | apply below_alloc | apply pw_below_drewN | apply below_drew1) | exact HB.out)) hb); clear HO433; clear HB; have HO433 := n0_; have HO437 := n1_; have HB := n2_; clear n0_ n1_ n2_; (try clear hb); (try clear hb2); (try clear hk); (try clear hi); (try clear ho0); obtain ⟨Ao40, co40, eo40⟩ := Kd.R_slice HO437.out; subst eo40) | ((with_reducible refine gate_callee (f := 21) rfl ?_); refine goesL_ (some 27) rfl rfl Try.func21 (by kernel_rfl) rfl #[.slice Ao40 t435.length co40] rfl (by (try simp only [List.map_toArray, List.map_cons, List.map_nil]); first | done | rfl | (simp only [List.length_drop, List.length_take]; rfl)) ?_; (with_reducible refine (interval_Count.calls kj2 _ _ t435 t438 _ ?side1 ?side2 A21.out).mono ?_); (case side1 => repeat (first | exact (Kd.R_reads' HO437.out).2.2 | (with_reducible refine Kd.C_alloc ?_ _) | (with_reducible refine Kd.C_drewN ?_ _) | (with_reducible refine Kd.C_drew ?_))); (case side2 => exact (Kd.R_reads' HO437.out).2.1); rintro e w41 ⟨rfl, hb⟩; refine ⟨_, rfl, ?_⟩; have n0_ := Aside0.mk (Kd.R_below (by (with_reducible repeat (first | apply Kd.R_alloc | apply Kd.R_drewN | apply Kd.R_drew)); exact HO433.out) hb); have n1_ := Aside0.mk (Kd.R_below (by (with_reducible repeat (first | apply Kd.R_alloc | apply Kd.R_drewN | apply Kd.R_drew)); exact HO437.out) hb); have n2_ := Aside0.mk (below_step (by repeat (first | (with_reducible first | exact HB.out | apply below_alloc | apply pw_below_drewN | apply below_drew1) | exact HB.out)) hb); clear HO433; clear HO437; clear HB; have HO433 := n0_; have HO437 := n1_; have HB := n2_; clear n0_ n1_ n2_; (try clear hb); (try clear hb2); (try clear hk); (try clear hi)) | (go_at_call 33; (with_reducible refine (interval_Minus.calls kj2 _ _ l0 _ _ l1 t439 _ ?side1 ?side2 ?side3 ?side4 A23.out).mono ?_); (case side1 => repeat (first | exact (Kd.C_below HR0.out HB.out) | (with_reducible refine Kd.C_alloc ?_ _) | (with_reducible refine Kd.C_drewN ?_ _) | (with_reducible refine Kd.C_drew ?_))); (case side2 => exact HC0.out); (case side3 => repeat (first | exact (Kd.C_below HR1.out HB.out) | (with_reducible refine Kd.C_alloc ?_ _) | (with_reducible refine Kd.C_drewN ?_ _) | (with_reducible refine Kd.C_drew ?_))); (case side4 => exact HC1.out); rintro e w42 ⟨v440, rfl, ho0, hb⟩; have n0_ := Aside0.mk (Kd.R_elder' (by (with_reducible repeat (first | apply Kd.R_alloc | apply Kd.R_drewN | apply Kd.R_drew)); exact HO433.out) (Kd.R_base ho0) hb); have n1_ := Aside0.mk (Kd.R_elder' (by (with_reducible repeat (first | apply Kd.R_alloc | apply Kd.R_drewN | apply Kd.R_drew)); exact HO437.out) (Kd.R_base ho0) hb); have n2_ := Aside0.mk (Kd.R_lower (Kd.R_new' (Kd.R_new' ho0 (Kd.R_lt (by (with_reducible repeat (first | apply Kd.R_alloc | apply Kd.R_drewN | apply Kd.R_drew)); exact HO433.out))) (Kd.R_lt (by (with_reducible repeat (first | apply Kd.R_alloc | apply Kd.R_drewN | apply Kd.R_drew)); exact HO437.out))) (below_size (by repeat (first | (with_reducible first | exact HB.out | apply below_alloc | apply pw_below_drewN | apply below_drew1) | exact HB.out)))); have n3_ := Aside0.mk (below_step (by repeat (first | (with_reducible first | exact HB.out | apply below_alloc | apply pw_below_drewN | apply below_drew1) | exact HB.out)) hb); clear HO433; clear HO437; clear HB; have HO433 := n0_; have HO437 := n1_; have HO441 := n2_; have HB := n3_; clear n0_ n1_ n2_ n3_; (try clear hb); (try clear hb2); (try clear hk); (try clear hi); (try clear ho0); obtain ⟨Ao43, co43, eo43⟩ := Kd.R_slice HO441.out; subst eo43) | (go_at_call 21; (with_reducible refine (interval_Count.calls kj2 _ _ t439 t442 _ ?side1 ?side2 A24.out).mono ?_); (case side1 => repeat (first | exact (Kd.R_reads' HO441.out).2.2 | (with_reducible refine Kd.C_alloc ?_ _) | (with_reducible refine Kd.C_drewN ?_ _) | (with_reducible refine Kd.C_drew ?_))); (case side2 => exact (Kd.R_reads' HO441.out).2.1); rintro e w44 ⟨rfl, hb⟩; have n0_ := Aside0.mk (Kd.R_below (by (with_reducible repeat (first | apply Kd.R_alloc | apply Kd.R_drewN | apply Kd.R_drew)); exact HO433.out) hb); have n1_ := Aside0.mk (Kd.R_below (by (with_reducible repeat (first | apply Kd.R_alloc | apply Kd.R_drewN | apply Kd.R_drew)); exact HO437.out) hb); have n2_ := Aside0.mk (Kd.R_below (by (with_reducible repeat (first | apply Kd.R_alloc | apply Kd.R_drewN | apply Kd.R_drew)); exact HO441.out) hb); have n3_ := Aside0.mk (below_step (by repeat (first | (with_reducible first | exact HB.out | apply below_alloc | apply pw_below_drewN | apply below_drew1) | exact HB.out)) hb); clear HO433; clear HO437; clear HO441; clear HB; have HO433 := n0_; have HO437 := n1_; have HO441 := n2_; have HB := n3_; clear n0_ n1_ n2_ n3_; (try clear hb); (try clear hb2); (try clear hk); (try clear hi)))
              go_meet
              case rel => exact ⟨_, (true), (by first | rfl | (simp; done) | (simp [*]; done)), H', ⟨by have := HJ2.out; first | omega | exact Nat.le_refl _⟩, ⟨by repeat (first | (with_reducible first | exact HB.out | apply below_alloc | apply pw_below_drewN | apply below_drew1) | exact HB.out)⟩⟩
          · rw [if_neg c22] at H
            have c22b0 : ((wrap64 (t438 + t434)) == (wrap64 (t429 + t430))) = false := beq_eq_false_iff_ne.mpr c22
            have c22b1 : ((wrap64 (t438 + t434)) != (wrap64 (t429 + t430))) = true := bne_iff_ne.mpr c22
            (first | rw [c22b0] | (simp only [i64_w, i32_w]; rw [c22b0]) | skip)
            have H' := Aside0.mk H
            clear H
            go_wp2_with (first | ((with_reducible refine gate_callee (f := 29) rfl ?_); refine goesL_ (some 26) rfl rfl Try.func29 (by kernel_rfl) rfl #[.slice A0 l0.length c0, .slice A1 l1.length c1] rfl (by (try simp only [List.map_toArray, List.map_cons, List.map_nil]); first | done | rfl | (simp only [List.length_drop, List.length_take]; rfl)) ?_; (with_reducible refine (interval_Union.calls kj2 (fun k_ => k_ < w.heap.size) _ _ l0 (fun k_ => k_ < w.heap.size) _ _ l1 t435 _ ?side1 ?side2 A20.out).mono ?_); (case side1 => exact Kd.V_mk HC0.out (Kd.F_below (Kd.C_F k52_heap HR0.out) (by repeat (first | (with_reducible first | exact HB.out | apply below_alloc | apply pw_below_drewN | apply below_drew1) | exact HB.out)))); (case side2 => exact Kd.V_mk HC1.out (Kd.F_below (Kd.C_F k52_heap HR1.out) (by repeat (first | (with_reducible first | exact HB.out | apply below_alloc | apply pw_below_drewN | apply below_drew1) | exact HB.out)))); rintro e w45 ⟨v436, rfl, ho0, hb⟩; refine ⟨_, rfl, ?_⟩; have n0_ := Aside0.mk (Kd.R_elder' (by (with_reducible repeat (first | apply Kd.R_alloc | apply Kd.R_drewN | apply Kd.R_drew)); exact HO433.out) (Kd.R_base ho0) hb); have n1_ := Aside0.mk (Kd.R_lower (Kd.R_new' (Kd.R_mono (ok' := fun k_ => True) ho0 (fun _ hk_ => trivial)) (Kd.R_lt (by (with_reducible repeat (first | apply Kd.R_alloc | apply Kd.R_drewN | apply Kd.R_drew)); exact HO433.out))) (below_size (by repeat (first | (with_reducible first | exact HB.out | apply below_alloc | apply pw_below_drewN | apply below_drew1) | exact HB.out)))); have n2_ := Aside0.mk (below_step (by repeat (first | (with_reducible first | exact HB.out | apply below_alloc | apply pw_below_drewN | apply below_drew1) | exact HB.out)) hb); clear HO433; clear HB; have HO433 := n0_; have HO437 := n1_; have HB := n2_; clear n0_ n1_ n2_; (try clear hb); (try clear hb2); (try clear hk); (try clear hi); (try clear ho0); obtain ⟨Ao46, co46, eo46⟩ := Kd.R_slice HO437.out; subst eo46) | ((with_reducible refine gate_callee (f := 21) rfl ?_); refine goesL_ (some 27) rfl rfl Try.func21 (by kernel_rfl) rfl #[.slice Ao46 t435.length co46] rfl (by (try simp only [List.map_toArray, List.map_cons, List.map_nil]); first | done | rfl | (simp only [List.length_drop, List.length_take]; rfl)) ?_; (with_reducible refine (interval_Count.calls kj2 _ _ t435 t438 _ ?side1 ?side2 A21.out).mono ?_); (case side1 => repeat (first | exact (Kd.R_reads' HO437.out).2.2 | (with_reducible refine Kd.C_alloc ?_ _) | (with_reducible refine Kd.C_drewN ?_ _) | (with_reducible refine Kd.C_drew ?_))); (case side2 => exact (Kd.R_reads' HO437.out).2.1); rintro e w47 ⟨rfl, hb⟩; refine ⟨_, rfl, ?_⟩; have n0_ := Aside0.mk (Kd.R_below (by (with_reducible repeat (first | apply Kd.R_alloc | apply Kd.R_drewN | apply Kd.R_drew)); exact HO433.out) hb); have n1_ := Aside0.mk (Kd.R_below (by (with_reducible repeat (first | apply Kd.R_alloc | apply Kd.R_drewN | apply Kd.R_drew)); exact HO437.out) hb); have n2_ := Aside0.mk (below_step (by repeat (first | (with_reducible first | exact HB.out | apply below_alloc | apply pw_below_drewN | apply below_drew1) | exact HB.out)) hb); clear HO433; clear HO437; clear HB; have HO433 := n0_; have HO437 := n1_; have HB := n2_; clear n0_ n1_ n2_; (try clear hb); (try clear hb2); (try clear hk); (try clear hi)))
            go_meet
            case rel => exact ⟨_, (true), (by first | rfl | (simp; done) | (simp [*]; done)), H', ⟨by have := HJ2.out; first | omega | exact Nat.le_refl _⟩, ⟨by repeat (first | (with_reducible first | exact HB.out | apply below_alloc | apply pw_below_drewN | apply below_drew1) | exact HB.out)⟩⟩
        case rest =>
          clear HC14
          try clear c1
          try clear c2
          try clear p2
          try clear c3
          try clear c5
          try clear p6
          try clear c7
          try clear c8
          try clear c14
          try clear c15
          try clear c21
          try clear c22
          try clear c22b0
          try clear c22b1
          try clear c25
          try clear c25b0
          try clear c25b1
          try clear c26
          try clear c26b0
          try clear c29
          try clear c31
          try clear p2
          obtain ⟨kq, x51_13, rfl, HA, HJ13, HB⟩ := hcut
          cases kq with
          | zero => exact absurd HA.out (by simp [intrusionlaw05_IntervalCounts.j1])
          | succ kj13 =>
            have H := HA.out
            clear HA
            simp only [intrusionlaw05_IntervalCounts.j1] at H
            by_cases c48 : x51_13 = true
            · subst c48
              have H1 : (some false) = some r := by rw [if_pos rfl] at H; exact H
              clear H
              have H := H1
              clear H1
              obtain rfl := Option.some.inj H
              go_wp2
              go_ret
              exact ⟨by first | rfl | (simp [errW_none, errW_some] <;> rfl) | (simp [*, errW_none, errW_some] <;> rfl), by repeat (first | (with_reducible first | exact HB.out | apply below_alloc | apply pw_below_drewN | apply below_drew1) | exact HB.out)⟩
            · replace c48 := Bool.eq_false_iff.mpr c48
              subst c48
              have H1 : ((interval_Normal.f kj13 l0).bind fun t443 => ((interval_Normal.f kj13 t443).bind fun t446 => ((intrusionlaw05_same.f kj13 t446 t443).bind fun t449 => (if t449 = true then ((interval_Subset.f kj13 l0 l1).bind fun t450 => (if (t450 == (t434 == t429)) = true then ((interval_Valid.f kj13 l0).bind fun t451 => (if t451 = true then ((intrusionlaw05_same.f kj13 l0 t443).bind fun t452 => (if t452 = true then ((intrusionlaw05_awake.f kj13).bind fun t453 => (some t453)) else (some false))) else ((intrusionlaw05_awake.f kj13).bind fun t454 => (some t454)))) else (some false))) else (some false))))) = some r := by rw [if_neg (show ¬ (false = true) by decide)] at H; exact H
              clear H
              have H := H1
              clear H1
              replace H := Option.bind_eq_some_iff.mp H
              obtain ⟨t443, A490, H⟩ := H
              replace H : ((interval_Normal.f kj13 t443).bind fun t446 => ((intrusionlaw05_same.f kj13 t446 t443).bind fun t449 => (if t449 = true then ((interval_Subset.f kj13 l0 l1).bind fun t450 => (if (t450 == (t434 == t429)) = true then ((interval_Valid.f kj13 l0).bind fun t451 => (if t451 = true then ((intrusionlaw05_same.f kj13 l0 t443).bind fun t452 => (if t452 = true then ((intrusionlaw05_awake.f kj13).bind fun t453 => (some t453)) else (some false))) else ((intrusionlaw05_awake.f kj13).bind fun t454 => (some t454)))) else (some false))) else (some false)))) = some r := H
              have A49 := Aside0.mk A490
              clear A490
              replace H := Option.bind_eq_some_iff.mp H
              obtain ⟨t446, A500, H⟩ := H
              replace H : ((intrusionlaw05_same.f kj13 t446 t443).bind fun t449 => (if t449 = true then ((interval_Subset.f kj13 l0 l1).bind fun t450 => (if (t450 == (t434 == t429)) = true then ((interval_Valid.f kj13 l0).bind fun t451 => (if t451 = true then ((intrusionlaw05_same.f kj13 l0 t443).bind fun t452 => (if t452 = true then ((intrusionlaw05_awake.f kj13).bind fun t453 => (some t453)) else (some false))) else ((intrusionlaw05_awake.f kj13).bind fun t454 => (some t454)))) else (some false))) else (some false))) = some r := H
              have A50 := Aside0.mk A500
              clear A500
              replace H := Option.bind_eq_some_iff.mp H
              obtain ⟨t449, A510, H⟩ := H
              replace H : (if t449 = true then ((interval_Subset.f kj13 l0 l1).bind fun t450 => (if (t450 == (t434 == t429)) = true then ((interval_Valid.f kj13 l0).bind fun t451 => (if t451 = true then ((intrusionlaw05_same.f kj13 l0 t443).bind fun t452 => (if t452 = true then ((intrusionlaw05_awake.f kj13).bind fun t453 => (some t453)) else (some false))) else ((intrusionlaw05_awake.f kj13).bind fun t454 => (some t454)))) else (some false))) else (some false)) = some r := H
              have A51 := Aside0.mk A510
              clear A510
              by_cases c52 : t449 = true
              · subst c52
                have H1 : ((interval_Subset.f kj13 l0 l1).bind fun t450 => (if (t450 == (t434 == t429)) = true then ((interval_Valid.f kj13 l0).bind fun t451 => (if t451 = true then ((intrusionlaw05_same.f kj13 l0 t443).bind fun t452 => (if t452 = true then ((intrusionlaw05_awake.f kj13).bind fun t453 => (some t453)) else (some false))) else ((intrusionlaw05_awake.f kj13).bind fun t454 => (some t454)))) else (some false))) = some r := by rw [if_pos rfl] at H; exact H
                clear H
                have H := H1
                clear H1
                replace H := Option.bind_eq_some_iff.mp H
                obtain ⟨t450, A530, H⟩ := H
                replace H : (if (t450 == (t434 == t429)) = true then ((interval_Valid.f kj13 l0).bind fun t451 => (if t451 = true then ((intrusionlaw05_same.f kj13 l0 t443).bind fun t452 => (if t452 = true then ((intrusionlaw05_awake.f kj13).bind fun t453 => (some t453)) else (some false))) else ((intrusionlaw05_awake.f kj13).bind fun t454 => (some t454)))) else (some false)) = some r := H
                have A53 := Aside0.mk A530
                clear A530
                by_cases c54 : (t450 == (t434 == t429)) = true
                · rw [if_pos c54] at H
                  have c54b0 : (t450 == (t434 == t429)) = true := c54
                  (try (have c54b1 : decide (t450 = (t434 == t429)) = true := by first | (simpa using c54) | exact decide_eq_true (Decidable.not_not.1 (fun hn => c54 (bne_iff_ne.2 hn))) | exact beq_iff_eq.2 (Decidable.not_not.1 (fun hn => c54 (bne_iff_ne.2 hn))) | exact decide_eq_false (bne_iff_ne.1 c54) | exact beq_eq_false_iff_ne.2 (bne_iff_ne.1 c54) | exact bne_iff_ne.1 c54))
                  (try (have c54b2 : (t450 == (t434 == t429)) = true := by first | (simpa using c54) | exact decide_eq_true (Decidable.not_not.1 (fun hn => c54 (bne_iff_ne.2 hn))) | exact beq_iff_eq.2 (Decidable.not_not.1 (fun hn => c54 (bne_iff_ne.2 hn))) | exact decide_eq_false (bne_iff_ne.1 c54) | exact beq_eq_false_iff_ne.2 (bne_iff_ne.1 c54) | exact bne_iff_ne.1 c54))
                  clear c54
                  replace H := Option.bind_eq_some_iff.mp H
                  obtain ⟨t451, A550, H⟩ := H
                  replace H : (if t451 = true then ((intrusionlaw05_same.f kj13 l0 t443).bind fun t452 => (if t452 = true then ((intrusionlaw05_awake.f kj13).bind fun t453 => (some t453)) else (some false))) else ((intrusionlaw05_awake.f kj13).bind fun t454 => (some t454))) = some r := H
                  have A55 := Aside0.mk A550
                  clear A550
                  by_cases c56 : t451 = true
                  · subst c56
                    have H1 : ((intrusionlaw05_same.f kj13 l0 t443).bind fun t452 => (if t452 = true then ((intrusionlaw05_awake.f kj13).bind fun t453 => (some t453)) else (some false))) = some r := by rw [if_pos rfl] at H; exact H
                    clear H
                    have H := H1
                    clear H1
                    replace H := Option.bind_eq_some_iff.mp H
                    obtain ⟨t452, A570, H⟩ := H
                    replace H : (if t452 = true then ((intrusionlaw05_awake.f kj13).bind fun t453 => (some t453)) else (some false)) = some r := H
                    have A57 := Aside0.mk A570
                    clear A570
                    by_cases c58 : t452 = true
                    · subst c58
                      have H1 : ((intrusionlaw05_awake.f kj13).bind fun t453 => (some t453)) = some r := by rw [if_pos rfl] at H; exact H
                      clear H
                      have H := H1
                      clear H1
                      replace H := Option.bind_eq_some_iff.mp H
                      obtain ⟨t453, A590, H⟩ := H
                      replace H : (some t453) = some r := H
                      have A59 := Aside0.mk A590
                      clear A590
                      obtain rfl := Option.some.inj H
                      go_wp2_with (first | ((with_reducible refine gate_callee (f := 19) rfl ?_); refine goesL_ (some 53) rfl rfl Try.func19 (by kernel_rfl) rfl #[.slice A0 l0.length c0] rfl (by (try simp only [List.map_toArray, List.map_cons, List.map_nil]); first | done | rfl | (simp only [List.length_drop, List.length_take]; rfl)) ?_; (with_reducible refine (interval_Normal.calls kj13 _ _ l0 t443 _ ?side1 ?side2 A49.out).mono ?_); (case side1 => repeat (first | exact (Kd.C_below HR0.out HB.out) | (with_reducible refine Kd.C_alloc ?_ _) | (with_reducible refine Kd.C_drewN ?_ _) | (with_reducible refine Kd.C_drew ?_))); (case side2 => exact HC0.out); rintro e w60 ⟨v444, rfl, ho0, hb⟩; refine ⟨_, rfl, ?_⟩; have n0_ := Aside0.mk (Kd.R_lower ho0 (below_size (by repeat (first | (with_reducible first | exact HB.out | apply below_alloc | apply pw_below_drewN | apply below_drew1) | exact HB.out)))); have n1_ := Aside0.mk (below_step (by repeat (first | (with_reducible first | exact HB.out | apply below_alloc | apply pw_below_drewN | apply below_drew1) | exact HB.out)) hb); clear HB; have HO445 := n0_; have HB := n1_; clear n0_ n1_; (try clear hb); (try clear hb2); (try clear hk); (try clear hi); (try clear ho0); obtain ⟨Ao61, co61, eo61⟩ := Kd.R_slice HO445.out; subst eo61) | ((with_reducible refine gate_callee (f := 19) rfl ?_); refine goesL_ (some 55) rfl rfl Try.func19 (by kernel_rfl) rfl #[.slice Ao61 t443.length co61] rfl (by (try simp only [List.map_toArray, List.map_cons, List.map_nil]); first | done | rfl | (simp only [List.length_drop, List.length_take]; rfl)) ?_; (with_reducible refine (interval_Normal.calls kj13 _ _ t443 t446 _ ?side1 ?side2 A50.out).mono ?_); (case side1 => repeat (first | exact (Kd.R_reads' HO445.out).2.2 | (with_reducible refine Kd.C_alloc ?_ _) | (with_reducible refine Kd.C_drewN ?_ _) | (with_reducible refine Kd.C_drew ?_))); (case side2 => exact (Kd.R_reads' HO445.out).2.1); rintro e w62 ⟨v447, rfl, ho0, hb⟩; refine ⟨_, rfl, ?_⟩; have n0_ := Aside0.mk (Kd.R_elder' (by (with_reducible repeat (first | apply Kd.R_alloc | apply Kd.R_drewN | apply Kd.R_drew)); exact HO445.out) (Kd.R_base ho0) hb); have n1_ := Aside0.mk (Kd.R_lower (Kd.R_new' ho0 (Kd.R_lt (by (with_reducible repeat (first | apply Kd.R_alloc | apply Kd.R_drewN | apply Kd.R_drew)); exact HO445.out))) (below_size (by repeat (first | (with_reducible first | exact HB.out | apply below_alloc | apply pw_below_drewN | apply below_drew1) | exact HB.out)))); have n2_ := Aside0.mk (below_step (by repeat (first | (with_reducible first | exact HB.out | apply below_alloc | apply pw_below_drewN | apply below_drew1) | exact HB.out)) hb); clear HO445; clear HB; have HO445 := n0_; have HO448 := n1_; have HB := n2_; clear n0_ n1_ n2_; (try clear hb); (try clear hb2); (try clear hk); (try clear hi); (try clear ho0); obtain ⟨Ao63, co63, eo63⟩ := Kd.R_slice HO448.out; subst eo63) | ((with_reducible refine gate_callee (f := 18) rfl ?_); refine goesL_ (some 57) rfl rfl Try.func18 (by kernel_rfl) rfl #[.slice Ao63 t446.length co63, .slice Ao61 t443.length co61] rfl (by (try simp only [List.map_toArray, List.map_cons, List.map_nil]); first | done | rfl | (simp only [List.length_drop, List.length_take]; rfl)) ?_; (with_reducible refine (intrusionlaw05_same.calls kj13 _ _ t446 _ _ t443 true _ ?side1 ?side2 ?side3 ?side4 A51.out).mono ?_); (case side1 => repeat (first | exact (Kd.R_reads' HO448.out).2.2 | (with_reducible refine Kd.C_alloc ?_ _) | (with_reducible refine Kd.C_drewN ?_ _) | (with_reducible refine Kd.C_drew ?_))); (case side2 => exact (Kd.R_reads' HO448.out).2.1); (case side3 => repeat (first | exact (Kd.R_reads' HO445.out).2.2 | (with_reducible refine Kd.C_alloc ?_ _) | (with_reducible refine Kd.C_drewN ?_ _) | (with_reducible refine Kd.C_drew ?_))); (case side4 => exact (Kd.R_reads' HO445.out).2.1); rintro e w' ⟨rfl, ⟨nd, rfl⟩⟩; refine ⟨_, rfl, ?_⟩) | (go_at_call 27; (with_reducible refine (interval_Subset.calls kj13 _ _ l0 _ _ l1 t450 _ ?side1 ?side2 ?side3 ?side4 A53.out).mono ?_); (case side1 => repeat (first | exact (Kd.C_below HR0.out (by repeat (first | (with_reducible first | exact HB.out | apply below_alloc | apply pw_below_drewN | apply below_drew1) | exact HB.out))) | (with_reducible refine Kd.C_alloc ?_ _) | (with_reducible refine Kd.C_drewN ?_ _) | (with_reducible refine Kd.C_drew ?_))); (case side2 => exact HC0.out); (case side3 => repeat (first | exact (Kd.C_below HR1.out (by repeat (first | (with_reducible first | exact HB.out | apply below_alloc | apply pw_below_drewN | apply below_drew1) | exact HB.out))) | (with_reducible refine Kd.C_alloc ?_ _) | (with_reducible refine Kd.C_drewN ?_ _) | (with_reducible refine Kd.C_drew ?_))); (case side4 => exact HC1.out); rintro e w64 ⟨rfl, hb⟩; have n0_ := Aside0.mk (Kd.R_below (by (with_reducible repeat (first | apply Kd.R_alloc | apply Kd.R_drewN | apply Kd.R_drew)); exact HO445.out) hb); have n1_ := Aside0.mk (Kd.R_below (by (with_reducible repeat (first | apply Kd.R_alloc | apply Kd.R_drewN | apply Kd.R_drew)); exact HO448.out) hb); have n2_ := Aside0.mk (below_step (by repeat (first | (with_reducible first | exact HB.out | apply below_alloc | apply pw_below_drewN | apply below_drew1) | exact HB.out)) hb); clear HO445; clear HO448; clear HB; have HO445 := n0_; have HO448 := n1_; have HB := n2_; clear n0_ n1_ n2_; (try clear hb); (try clear hb2); (try clear hk); (try clear hi)) | (go_at_call 16; (with_reducible refine (interval_Valid.calls kj13 _ _ l0 true _ ?side1 ?side2 A55.out).mono ?_); (case side1 => repeat (first | exact (Kd.C_below HR0.out HB.out) | (with_reducible refine Kd.C_alloc ?_ _) | (with_reducible refine Kd.C_drewN ?_ _) | (with_reducible refine Kd.C_drew ?_))); (case side2 => exact HC0.out); rintro e w65 ⟨rfl, hb⟩; have n0_ := Aside0.mk (Kd.R_below (by (with_reducible repeat (first | apply Kd.R_alloc | apply Kd.R_drewN | apply Kd.R_drew)); exact HO445.out) hb); have n1_ := Aside0.mk (Kd.R_below (by (with_reducible repeat (first | apply Kd.R_alloc | apply Kd.R_drewN | apply Kd.R_drew)); exact HO448.out) hb); have n2_ := Aside0.mk (below_step (by repeat (first | (with_reducible first | exact HB.out | apply below_alloc | apply pw_below_drewN | apply below_drew1) | exact HB.out)) hb); clear HO445; clear HO448; clear HB; have HO445 := n0_; have HO448 := n1_; have HB := n2_; clear n0_ n1_ n2_; (try clear hb); (try clear hb2); (try clear hk); (try clear hi)) | (go_at_call 18; (with_reducible refine (intrusionlaw05_same.calls kj13 _ _ l0 _ _ t443 true _ ?side1 ?side2 ?side3 ?side4 A57.out).mono ?_); (case side1 => repeat (first | exact (Kd.C_below HR0.out HB.out) | (with_reducible refine Kd.C_alloc ?_ _) | (with_reducible refine Kd.C_drewN ?_ _) | (with_reducible refine Kd.C_drew ?_))); (case side2 => exact HC0.out); (case side3 => repeat (first | exact (Kd.R_reads' HO445.out).2.2 | (with_reducible refine Kd.C_alloc ?_ _) | (with_reducible refine Kd.C_drewN ?_ _) | (with_reducible refine Kd.C_drew ?_))); (case side4 => exact (Kd.R_reads' HO445.out).2.1); rintro e w' ⟨rfl, ⟨nd, rfl⟩⟩) | (go_at_call 15; (with_reducible refine (intrusionlaw05_awake.calls kj13  t453 _ A59.out).mono ?_); rintro e w66 ⟨rfl, hb⟩; have n0_ := Aside0.mk (Kd.R_below (by (with_reducible repeat (first | apply Kd.R_alloc | apply Kd.R_drewN | apply Kd.R_drew)); exact HO445.out) hb); have n1_ := Aside0.mk (Kd.R_below (by (with_reducible repeat (first | apply Kd.R_alloc | apply Kd.R_drewN | apply Kd.R_drew)); exact HO448.out) hb); have n2_ := Aside0.mk (below_step (by repeat (first | (with_reducible first | exact HB.out | apply below_alloc | apply pw_below_drewN | apply below_drew1) | exact HB.out)) hb); clear HO445; clear HO448; clear HB; have HO445 := n0_; have HO448 := n1_; have HB := n2_; clear n0_ n1_ n2_; (try clear hb); (try clear hb2); (try clear hk); (try clear hi)))
                      go_ret
                      exact ⟨by first | rfl | (simp [errW_none, errW_some] <;> rfl) | (simp [*, errW_none, errW_some] <;> rfl), by repeat (first | (with_reducible first | exact HB.out | apply below_alloc | apply pw_below_drewN | apply below_drew1) | exact HB.out)⟩
                    · replace c58 := Bool.eq_false_iff.mpr c58
                      subst c58
                      have H1 : (some false) = some r := by rw [if_neg (show ¬ (false = true) by decide)] at H; exact H
                      clear H
                      have H := H1
                      clear H1
                      obtain rfl := Option.some.inj H
                      go_wp2_with (first | ((with_reducible refine gate_callee (f := 19) rfl ?_); refine goesL_ (some 53) rfl rfl Try.func19 (by kernel_rfl) rfl #[.slice A0 l0.length c0] rfl (by (try simp only [List.map_toArray, List.map_cons, List.map_nil]); first | done | rfl | (simp only [List.length_drop, List.length_take]; rfl)) ?_; (with_reducible refine (interval_Normal.calls kj13 _ _ l0 t443 _ ?side1 ?side2 A49.out).mono ?_); (case side1 => repeat (first | exact (Kd.C_below HR0.out HB.out) | (with_reducible refine Kd.C_alloc ?_ _) | (with_reducible refine Kd.C_drewN ?_ _) | (with_reducible refine Kd.C_drew ?_))); (case side2 => exact HC0.out); rintro e w67 ⟨v444, rfl, ho0, hb⟩; refine ⟨_, rfl, ?_⟩; have n0_ := Aside0.mk (Kd.R_lower ho0 (below_size (by repeat (first | (with_reducible first | exact HB.out | apply below_alloc | apply pw_below_drewN | apply below_drew1) | exact HB.out)))); have n1_ := Aside0.mk (below_step (by repeat (first | (with_reducible first | exact HB.out | apply below_alloc | apply pw_below_drewN | apply below_drew1) | exact HB.out)) hb); clear HB; have HO445 := n0_; have HB := n1_; clear n0_ n1_; (try clear hb); (try clear hb2); (try clear hk); (try clear hi); (try clear ho0); obtain ⟨Ao68, co68, eo68⟩ := Kd.R_slice HO445.out; subst eo68) | ((with_reducible refine gate_callee (f := 19) rfl ?_); refine goesL_ (some 55) rfl rfl Try.func19 (by kernel_rfl) rfl #[.slice Ao68 t443.length co68] rfl (by (try simp only [List.map_toArray, List.map_cons, List.map_nil]); first | done | rfl | (simp only [List.length_drop, List.length_take]; rfl)) ?_; (with_reducible refine (interval_Normal.calls kj13 _ _ t443 t446 _ ?side1 ?side2 A50.out).mono ?_); (case side1 => repeat (first | exact (Kd.R_reads' HO445.out).2.2 | (with_reducible refine Kd.C_alloc ?_ _) | (with_reducible refine Kd.C_drewN ?_ _) | (with_reducible refine Kd.C_drew ?_))); (case side2 => exact (Kd.R_reads' HO445.out).2.1); rintro e w69 ⟨v447, rfl, ho0, hb⟩; refine ⟨_, rfl, ?_⟩; have n0_ := Aside0.mk (Kd.R_elder' (by (with_reducible repeat (first | apply Kd.R_alloc | apply Kd.R_drewN | apply Kd.R_drew)); exact HO445.out) (Kd.R_base ho0) hb); have n1_ := Aside0.mk (Kd.R_lower (Kd.R_new' ho0 (Kd.R_lt (by (with_reducible repeat (first | apply Kd.R_alloc | apply Kd.R_drewN | apply Kd.R_drew)); exact HO445.out))) (below_size (by repeat (first | (with_reducible first | exact HB.out | apply below_alloc | apply pw_below_drewN | apply below_drew1) | exact HB.out)))); have n2_ := Aside0.mk (below_step (by repeat (first | (with_reducible first | exact HB.out | apply below_alloc | apply pw_below_drewN | apply below_drew1) | exact HB.out)) hb); clear HO445; clear HB; have HO445 := n0_; have HO448 := n1_; have HB := n2_; clear n0_ n1_ n2_; (try clear hb); (try clear hb2); (try clear hk); (try clear hi); (try clear ho0); obtain ⟨Ao70, co70, eo70⟩ := Kd.R_slice HO448.out; subst eo70) | ((with_reducible refine gate_callee (f := 18) rfl ?_); refine goesL_ (some 57) rfl rfl Try.func18 (by kernel_rfl) rfl #[.slice Ao70 t446.length co70, .slice Ao68 t443.length co68] rfl (by (try simp only [List.map_toArray, List.map_cons, List.map_nil]); first | done | rfl | (simp only [List.length_drop, List.length_take]; rfl)) ?_; (with_reducible refine (intrusionlaw05_same.calls kj13 _ _ t446 _ _ t443 true _ ?side1 ?side2 ?side3 ?side4 A51.out).mono ?_); (case side1 => repeat (first | exact (Kd.R_reads' HO448.out).2.2 | (with_reducible refine Kd.C_alloc ?_ _) | (with_reducible refine Kd.C_drewN ?_ _) | (with_reducible refine Kd.C_drew ?_))); (case side2 => exact (Kd.R_reads' HO448.out).2.1); (case side3 => repeat (first | exact (Kd.R_reads' HO445.out).2.2 | (with_reducible refine Kd.C_alloc ?_ _) | (with_reducible refine Kd.C_drewN ?_ _) | (with_reducible refine Kd.C_drew ?_))); (case side4 => exact (Kd.R_reads' HO445.out).2.1); rintro e w' ⟨rfl, ⟨nd, rfl⟩⟩; refine ⟨_, rfl, ?_⟩) | (go_at_call 27; (with_reducible refine (interval_Subset.calls kj13 _ _ l0 _ _ l1 t450 _ ?side1 ?side2 ?side3 ?side4 A53.out).mono ?_); (case side1 => repeat (first | exact (Kd.C_below HR0.out (by repeat (first | (with_reducible first | exact HB.out | apply below_alloc | apply pw_below_drewN | apply below_drew1) | exact HB.out))) | (with_reducible refine Kd.C_alloc ?_ _) | (with_reducible refine Kd.C_drewN ?_ _) | (with_reducible refine Kd.C_drew ?_))); (case side2 => exact HC0.out); (case side3 => repeat (first | exact (Kd.C_below HR1.out (by repeat (first | (with_reducible first | exact HB.out | apply below_alloc | apply pw_below_drewN | apply below_drew1) | exact HB.out))) | (with_reducible refine Kd.C_alloc ?_ _) | (with_reducible refine Kd.C_drewN ?_ _) | (with_reducible refine Kd.C_drew ?_))); (case side4 => exact HC1.out); rintro e w71 ⟨rfl, hb⟩; have n0_ := Aside0.mk (Kd.R_below (by (with_reducible repeat (first | apply Kd.R_alloc | apply Kd.R_drewN | apply Kd.R_drew)); exact HO445.out) hb); have n1_ := Aside0.mk (Kd.R_below (by (with_reducible repeat (first | apply Kd.R_alloc | apply Kd.R_drewN | apply Kd.R_drew)); exact HO448.out) hb); have n2_ := Aside0.mk (below_step (by repeat (first | (with_reducible first | exact HB.out | apply below_alloc | apply pw_below_drewN | apply below_drew1) | exact HB.out)) hb); clear HO445; clear HO448; clear HB; have HO445 := n0_; have HO448 := n1_; have HB := n2_; clear n0_ n1_ n2_; (try clear hb); (try clear hb2); (try clear hk); (try clear hi)) | (go_at_call 16; (with_reducible refine (interval_Valid.calls kj13 _ _ l0 true _ ?side1 ?side2 A55.out).mono ?_); (case side1 => repeat (first | exact (Kd.C_below HR0.out HB.out) | (with_reducible refine Kd.C_alloc ?_ _) | (with_reducible refine Kd.C_drewN ?_ _) | (with_reducible refine Kd.C_drew ?_))); (case side2 => exact HC0.out); rintro e w72 ⟨rfl, hb⟩; have n0_ := Aside0.mk (Kd.R_below (by (with_reducible repeat (first | apply Kd.R_alloc | apply Kd.R_drewN | apply Kd.R_drew)); exact HO445.out) hb); have n1_ := Aside0.mk (Kd.R_below (by (with_reducible repeat (first | apply Kd.R_alloc | apply Kd.R_drewN | apply Kd.R_drew)); exact HO448.out) hb); have n2_ := Aside0.mk (below_step (by repeat (first | (with_reducible first | exact HB.out | apply below_alloc | apply pw_below_drewN | apply below_drew1) | exact HB.out)) hb); clear HO445; clear HO448; clear HB; have HO445 := n0_; have HO448 := n1_; have HB := n2_; clear n0_ n1_ n2_; (try clear hb); (try clear hb2); (try clear hk); (try clear hi)) | (go_at_call 18; (with_reducible refine (intrusionlaw05_same.calls kj13 _ _ l0 _ _ t443 false _ ?side1 ?side2 ?side3 ?side4 A57.out).mono ?_); (case side1 => repeat (first | exact (Kd.C_below HR0.out HB.out) | (with_reducible refine Kd.C_alloc ?_ _) | (with_reducible refine Kd.C_drewN ?_ _) | (with_reducible refine Kd.C_drew ?_))); (case side2 => exact HC0.out); (case side3 => repeat (first | exact (Kd.R_reads' HO445.out).2.2 | (with_reducible refine Kd.C_alloc ?_ _) | (with_reducible refine Kd.C_drewN ?_ _) | (with_reducible refine Kd.C_drew ?_))); (case side4 => exact (Kd.R_reads' HO445.out).2.1); rintro e w' ⟨rfl, ⟨nd, rfl⟩⟩))
                      go_ret
                      exact ⟨by first | rfl | (simp [errW_none, errW_some] <;> rfl) | (simp [*, errW_none, errW_some] <;> rfl), by repeat (first | (with_reducible first | exact HB.out | apply below_alloc | apply pw_below_drewN | apply below_drew1) | exact HB.out)⟩
                  · replace c56 := Bool.eq_false_iff.mpr c56
                    subst c56
                    have H1 : ((intrusionlaw05_awake.f kj13).bind fun t454 => (some t454)) = some r := by rw [if_neg (show ¬ (false = true) by decide)] at H; exact H
                    clear H
                    have H := H1
                    clear H1
                    replace H := Option.bind_eq_some_iff.mp H
                    obtain ⟨t454, A730, H⟩ := H
                    replace H : (some t454) = some r := H
                    have A73 := Aside0.mk A730
                    clear A730
                    obtain rfl := Option.some.inj H
                    go_wp2_with (first | ((with_reducible refine gate_callee (f := 19) rfl ?_); refine goesL_ (some 53) rfl rfl Try.func19 (by kernel_rfl) rfl #[.slice A0 l0.length c0] rfl (by (try simp only [List.map_toArray, List.map_cons, List.map_nil]); first | done | rfl | (simp only [List.length_drop, List.length_take]; rfl)) ?_; (with_reducible refine (interval_Normal.calls kj13 _ _ l0 t443 _ ?side1 ?side2 A49.out).mono ?_); (case side1 => repeat (first | exact (Kd.C_below HR0.out HB.out) | (with_reducible refine Kd.C_alloc ?_ _) | (with_reducible refine Kd.C_drewN ?_ _) | (with_reducible refine Kd.C_drew ?_))); (case side2 => exact HC0.out); rintro e w74 ⟨v444, rfl, ho0, hb⟩; refine ⟨_, rfl, ?_⟩; have n0_ := Aside0.mk (Kd.R_lower ho0 (below_size (by repeat (first | (with_reducible first | exact HB.out | apply below_alloc | apply pw_below_drewN | apply below_drew1) | exact HB.out)))); have n1_ := Aside0.mk (below_step (by repeat (first | (with_reducible first | exact HB.out | apply below_alloc | apply pw_below_drewN | apply below_drew1) | exact HB.out)) hb); clear HB; have HO445 := n0_; have HB := n1_; clear n0_ n1_; (try clear hb); (try clear hb2); (try clear hk); (try clear hi); (try clear ho0); obtain ⟨Ao75, co75, eo75⟩ := Kd.R_slice HO445.out; subst eo75) | ((with_reducible refine gate_callee (f := 19) rfl ?_); refine goesL_ (some 55) rfl rfl Try.func19 (by kernel_rfl) rfl #[.slice Ao75 t443.length co75] rfl (by (try simp only [List.map_toArray, List.map_cons, List.map_nil]); first | done | rfl | (simp only [List.length_drop, List.length_take]; rfl)) ?_; (with_reducible refine (interval_Normal.calls kj13 _ _ t443 t446 _ ?side1 ?side2 A50.out).mono ?_); (case side1 => repeat (first | exact (Kd.R_reads' HO445.out).2.2 | (with_reducible refine Kd.C_alloc ?_ _) | (with_reducible refine Kd.C_drewN ?_ _) | (with_reducible refine Kd.C_drew ?_))); (case side2 => exact (Kd.R_reads' HO445.out).2.1); rintro e w76 ⟨v447, rfl, ho0, hb⟩; refine ⟨_, rfl, ?_⟩; have n0_ := Aside0.mk (Kd.R_elder' (by (with_reducible repeat (first | apply Kd.R_alloc | apply Kd.R_drewN | apply Kd.R_drew)); exact HO445.out) (Kd.R_base ho0) hb); have n1_ := Aside0.mk (Kd.R_lower (Kd.R_new' ho0 (Kd.R_lt (by (with_reducible repeat (first | apply Kd.R_alloc | apply Kd.R_drewN | apply Kd.R_drew)); exact HO445.out))) (below_size (by repeat (first | (with_reducible first | exact HB.out | apply below_alloc | apply pw_below_drewN | apply below_drew1) | exact HB.out)))); have n2_ := Aside0.mk (below_step (by repeat (first | (with_reducible first | exact HB.out | apply below_alloc | apply pw_below_drewN | apply below_drew1) | exact HB.out)) hb); clear HO445; clear HB; have HO445 := n0_; have HO448 := n1_; have HB := n2_; clear n0_ n1_ n2_; (try clear hb); (try clear hb2); (try clear hk); (try clear hi); (try clear ho0); obtain ⟨Ao77, co77, eo77⟩ := Kd.R_slice HO448.out; subst eo77) | ((with_reducible refine gate_callee (f := 18) rfl ?_); refine goesL_ (some 57) rfl rfl Try.func18 (by kernel_rfl) rfl #[.slice Ao77 t446.length co77, .slice Ao75 t443.length co75] rfl (by (try simp only [List.map_toArray, List.map_cons, List.map_nil]); first | done | rfl | (simp only [List.length_drop, List.length_take]; rfl)) ?_; (with_reducible refine (intrusionlaw05_same.calls kj13 _ _ t446 _ _ t443 true _ ?side1 ?side2 ?side3 ?side4 A51.out).mono ?_); (case side1 => repeat (first | exact (Kd.R_reads' HO448.out).2.2 | (with_reducible refine Kd.C_alloc ?_ _) | (with_reducible refine Kd.C_drewN ?_ _) | (with_reducible refine Kd.C_drew ?_))); (case side2 => exact (Kd.R_reads' HO448.out).2.1); (case side3 => repeat (first | exact (Kd.R_reads' HO445.out).2.2 | (with_reducible refine Kd.C_alloc ?_ _) | (with_reducible refine Kd.C_drewN ?_ _) | (with_reducible refine Kd.C_drew ?_))); (case side4 => exact (Kd.R_reads' HO445.out).2.1); rintro e w' ⟨rfl, ⟨nd, rfl⟩⟩; refine ⟨_, rfl, ?_⟩) | (go_at_call 27; (with_reducible refine (interval_Subset.calls kj13 _ _ l0 _ _ l1 t450 _ ?side1 ?side2 ?side3 ?side4 A53.out).mono ?_); (case side1 => repeat (first | exact (Kd.C_below HR0.out (by repeat (first | (with_reducible first | exact HB.out | apply below_alloc | apply pw_below_drewN | apply below_drew1) | exact HB.out))) | (with_reducible refine Kd.C_alloc ?_ _) | (with_reducible refine Kd.C_drewN ?_ _) | (with_reducible refine Kd.C_drew ?_))); (case side2 => exact HC0.out); (case side3 => repeat (first | exact (Kd.C_below HR1.out (by repeat (first | (with_reducible first | exact HB.out | apply below_alloc | apply pw_below_drewN | apply below_drew1) | exact HB.out))) | (with_reducible refine Kd.C_alloc ?_ _) | (with_reducible refine Kd.C_drewN ?_ _) | (with_reducible refine Kd.C_drew ?_))); (case side4 => exact HC1.out); rintro e w78 ⟨rfl, hb⟩; have n0_ := Aside0.mk (Kd.R_below (by (with_reducible repeat (first | apply Kd.R_alloc | apply Kd.R_drewN | apply Kd.R_drew)); exact HO445.out) hb); have n1_ := Aside0.mk (Kd.R_below (by (with_reducible repeat (first | apply Kd.R_alloc | apply Kd.R_drewN | apply Kd.R_drew)); exact HO448.out) hb); have n2_ := Aside0.mk (below_step (by repeat (first | (with_reducible first | exact HB.out | apply below_alloc | apply pw_below_drewN | apply below_drew1) | exact HB.out)) hb); clear HO445; clear HO448; clear HB; have HO445 := n0_; have HO448 := n1_; have HB := n2_; clear n0_ n1_ n2_; (try clear hb); (try clear hb2); (try clear hk); (try clear hi)) | (go_at_call 16; (with_reducible refine (interval_Valid.calls kj13 _ _ l0 false _ ?side1 ?side2 A55.out).mono ?_); (case side1 => repeat (first | exact (Kd.C_below HR0.out HB.out) | (with_reducible refine Kd.C_alloc ?_ _) | (with_reducible refine Kd.C_drewN ?_ _) | (with_reducible refine Kd.C_drew ?_))); (case side2 => exact HC0.out); rintro e w79 ⟨rfl, hb⟩; have n0_ := Aside0.mk (Kd.R_below (by (with_reducible repeat (first | apply Kd.R_alloc | apply Kd.R_drewN | apply Kd.R_drew)); exact HO445.out) hb); have n1_ := Aside0.mk (Kd.R_below (by (with_reducible repeat (first | apply Kd.R_alloc | apply Kd.R_drewN | apply Kd.R_drew)); exact HO448.out) hb); have n2_ := Aside0.mk (below_step (by repeat (first | (with_reducible first | exact HB.out | apply below_alloc | apply pw_below_drewN | apply below_drew1) | exact HB.out)) hb); clear HO445; clear HO448; clear HB; have HO445 := n0_; have HO448 := n1_; have HB := n2_; clear n0_ n1_ n2_; (try clear hb); (try clear hb2); (try clear hk); (try clear hi)) | (go_at_call 15; (with_reducible refine (intrusionlaw05_awake.calls kj13  t454 _ A73.out).mono ?_); rintro e w80 ⟨rfl, hb⟩; have n0_ := Aside0.mk (Kd.R_below (by (with_reducible repeat (first | apply Kd.R_alloc | apply Kd.R_drewN | apply Kd.R_drew)); exact HO445.out) hb); have n1_ := Aside0.mk (Kd.R_below (by (with_reducible repeat (first | apply Kd.R_alloc | apply Kd.R_drewN | apply Kd.R_drew)); exact HO448.out) hb); have n2_ := Aside0.mk (below_step (by repeat (first | (with_reducible first | exact HB.out | apply below_alloc | apply pw_below_drewN | apply below_drew1) | exact HB.out)) hb); clear HO445; clear HO448; clear HB; have HO445 := n0_; have HO448 := n1_; have HB := n2_; clear n0_ n1_ n2_; (try clear hb); (try clear hb2); (try clear hk); (try clear hi)))
                    go_ret
                    exact ⟨by first | rfl | (simp [errW_none, errW_some] <;> rfl) | (simp [*, errW_none, errW_some] <;> rfl), by repeat (first | (with_reducible first | exact HB.out | apply below_alloc | apply pw_below_drewN | apply below_drew1) | exact HB.out)⟩
                · rw [if_neg c54] at H
                  have c54b0 : (t450 == (t434 == t429)) = false := by simpa using c54
                  (try (have c54b1 : decide (t450 = (t434 == t429)) = false := by first | (simpa using c54) | exact decide_eq_true (Decidable.not_not.1 (fun hn => c54 (bne_iff_ne.2 hn))) | exact beq_iff_eq.2 (Decidable.not_not.1 (fun hn => c54 (bne_iff_ne.2 hn))) | exact decide_eq_false (bne_iff_ne.1 c54) | exact beq_eq_false_iff_ne.2 (bne_iff_ne.1 c54) | exact bne_iff_ne.1 c54))
                  (try (have c54b2 : (t450 == (t434 == t429)) = false := by first | (simpa using c54) | exact decide_eq_true (Decidable.not_not.1 (fun hn => c54 (bne_iff_ne.2 hn))) | exact beq_iff_eq.2 (Decidable.not_not.1 (fun hn => c54 (bne_iff_ne.2 hn))) | exact decide_eq_false (bne_iff_ne.1 c54) | exact beq_eq_false_iff_ne.2 (bne_iff_ne.1 c54) | exact bne_iff_ne.1 c54))
                  (try (have c54b3 : ¬ (t450 = (t434 == t429)) := by first | (simpa using c54) | exact decide_eq_true (Decidable.not_not.1 (fun hn => c54 (bne_iff_ne.2 hn))) | exact beq_iff_eq.2 (Decidable.not_not.1 (fun hn => c54 (bne_iff_ne.2 hn))) | exact decide_eq_false (bne_iff_ne.1 c54) | exact beq_eq_false_iff_ne.2 (bne_iff_ne.1 c54) | exact bne_iff_ne.1 c54))
                  clear c54
                  obtain rfl := Option.some.inj H
                  go_wp2_with (first | ((with_reducible refine gate_callee (f := 19) rfl ?_); refine goesL_ (some 53) rfl rfl Try.func19 (by kernel_rfl) rfl #[.slice A0 l0.length c0] rfl (by (try simp only [List.map_toArray, List.map_cons, List.map_nil]); first | done | rfl | (simp only [List.length_drop, List.length_take]; rfl)) ?_; (with_reducible refine (interval_Normal.calls kj13 _ _ l0 t443 _ ?side1 ?side2 A49.out).mono ?_); (case side1 => repeat (first | exact (Kd.C_below HR0.out HB.out) | (with_reducible refine Kd.C_alloc ?_ _) | (with_reducible refine Kd.C_drewN ?_ _) | (with_reducible refine Kd.C_drew ?_))); (case side2 => exact HC0.out); rintro e w81 ⟨v444, rfl, ho0, hb⟩; refine ⟨_, rfl, ?_⟩; have n0_ := Aside0.mk (Kd.R_lower ho0 (below_size (by repeat (first | (with_reducible first | exact HB.out | apply below_alloc | apply pw_below_drewN | apply below_drew1) | exact HB.out)))); have n1_ := Aside0.mk (below_step (by repeat (first | (with_reducible first | exact HB.out | apply below_alloc | apply pw_below_drewN | apply below_drew1) | exact HB.out)) hb); clear HB; have HO445 := n0_; have HB := n1_; clear n0_ n1_; (try clear hb); (try clear hb2); (try clear hk); (try clear hi); (try clear ho0); obtain ⟨Ao82, co82, eo82⟩ := Kd.R_slice HO445.out; subst eo82) | ((with_reducible refine gate_callee (f := 19) rfl ?_); refine goesL_ (some 55) rfl rfl Try.func19 (by kernel_rfl) rfl #[.slice Ao82 t443.length co82] rfl (by (try simp only [List.map_toArray, List.map_cons, List.map_nil]); first | done | rfl | (simp only [List.length_drop, List.length_take]; rfl)) ?_; (with_reducible refine (interval_Normal.calls kj13 _ _ t443 t446 _ ?side1 ?side2 A50.out).mono ?_); (case side1 => repeat (first | exact (Kd.R_reads' HO445.out).2.2 | (with_reducible refine Kd.C_alloc ?_ _) | (with_reducible refine Kd.C_drewN ?_ _) | (with_reducible refine Kd.C_drew ?_))); (case side2 => exact (Kd.R_reads' HO445.out).2.1); rintro e w83 ⟨v447, rfl, ho0, hb⟩; refine ⟨_, rfl, ?_⟩; have n0_ := Aside0.mk (Kd.R_elder' (by (with_reducible repeat (first | apply Kd.R_alloc | apply Kd.R_drewN | apply Kd.R_drew)); exact HO445.out) (Kd.R_base ho0) hb); have n1_ := Aside0.mk (Kd.R_lower (Kd.R_new' ho0 (Kd.R_lt (by (with_reducible repeat (first | apply Kd.R_alloc | apply Kd.R_drewN | apply Kd.R_drew)); exact HO445.out))) (below_size (by repeat (first | (with_reducible first | exact HB.out | apply below_alloc | apply pw_below_drewN | apply below_drew1) | exact HB.out)))); have n2_ := Aside0.mk (below_step (by repeat (first | (with_reducible first | exact HB.out | apply below_alloc | apply pw_below_drewN | apply below_drew1) | exact HB.out)) hb); clear HO445; clear HB; have HO445 := n0_; have HO448 := n1_; have HB := n2_; clear n0_ n1_ n2_; (try clear hb); (try clear hb2); (try clear hk); (try clear hi); (try clear ho0); obtain ⟨Ao84, co84, eo84⟩ := Kd.R_slice HO448.out; subst eo84) | ((with_reducible refine gate_callee (f := 18) rfl ?_); refine goesL_ (some 57) rfl rfl Try.func18 (by kernel_rfl) rfl #[.slice Ao84 t446.length co84, .slice Ao82 t443.length co82] rfl (by (try simp only [List.map_toArray, List.map_cons, List.map_nil]); first | done | rfl | (simp only [List.length_drop, List.length_take]; rfl)) ?_; (with_reducible refine (intrusionlaw05_same.calls kj13 _ _ t446 _ _ t443 true _ ?side1 ?side2 ?side3 ?side4 A51.out).mono ?_); (case side1 => repeat (first | exact (Kd.R_reads' HO448.out).2.2 | (with_reducible refine Kd.C_alloc ?_ _) | (with_reducible refine Kd.C_drewN ?_ _) | (with_reducible refine Kd.C_drew ?_))); (case side2 => exact (Kd.R_reads' HO448.out).2.1); (case side3 => repeat (first | exact (Kd.R_reads' HO445.out).2.2 | (with_reducible refine Kd.C_alloc ?_ _) | (with_reducible refine Kd.C_drewN ?_ _) | (with_reducible refine Kd.C_drew ?_))); (case side4 => exact (Kd.R_reads' HO445.out).2.1); rintro e w' ⟨rfl, ⟨nd, rfl⟩⟩; refine ⟨_, rfl, ?_⟩) | (go_at_call 27; (with_reducible refine (interval_Subset.calls kj13 _ _ l0 _ _ l1 t450 _ ?side1 ?side2 ?side3 ?side4 A53.out).mono ?_); (case side1 => repeat (first | exact (Kd.C_below HR0.out (by repeat (first | (with_reducible first | exact HB.out | apply below_alloc | apply pw_below_drewN | apply below_drew1) | exact HB.out))) | (with_reducible refine Kd.C_alloc ?_ _) | (with_reducible refine Kd.C_drewN ?_ _) | (with_reducible refine Kd.C_drew ?_))); (case side2 => exact HC0.out); (case side3 => repeat (first | exact (Kd.C_below HR1.out (by repeat (first | (with_reducible first | exact HB.out | apply below_alloc | apply pw_below_drewN | apply below_drew1) | exact HB.out))) | (with_reducible refine Kd.C_alloc ?_ _) | (with_reducible refine Kd.C_drewN ?_ _) | (with_reducible refine Kd.C_drew ?_))); (case side4 => exact HC1.out); rintro e w85 ⟨rfl, hb⟩; have n0_ := Aside0.mk (Kd.R_below (by (with_reducible repeat (first | apply Kd.R_alloc | apply Kd.R_drewN | apply Kd.R_drew)); exact HO445.out) hb); have n1_ := Aside0.mk (Kd.R_below (by (with_reducible repeat (first | apply Kd.R_alloc | apply Kd.R_drewN | apply Kd.R_drew)); exact HO448.out) hb); have n2_ := Aside0.mk (below_step (by repeat (first | (with_reducible first | exact HB.out | apply below_alloc | apply pw_below_drewN | apply below_drew1) | exact HB.out)) hb); clear HO445; clear HO448; clear HB; have HO445 := n0_; have HO448 := n1_; have HB := n2_; clear n0_ n1_ n2_; (try clear hb); (try clear hb2); (try clear hk); (try clear hi)))
                  go_ret
                  exact ⟨by first | rfl | (simp [errW_none, errW_some] <;> rfl) | (simp [*, errW_none, errW_some] <;> rfl), by repeat (first | (with_reducible first | exact HB.out | apply below_alloc | apply pw_below_drewN | apply below_drew1) | exact HB.out)⟩
              · replace c52 := Bool.eq_false_iff.mpr c52
                subst c52
                have H1 : (some false) = some r := by rw [if_neg (show ¬ (false = true) by decide)] at H; exact H
                clear H
                have H := H1
                clear H1
                obtain rfl := Option.some.inj H
                go_wp2_with (first | ((with_reducible refine gate_callee (f := 19) rfl ?_); refine goesL_ (some 53) rfl rfl Try.func19 (by kernel_rfl) rfl #[.slice A0 l0.length c0] rfl (by (try simp only [List.map_toArray, List.map_cons, List.map_nil]); first | done | rfl | (simp only [List.length_drop, List.length_take]; rfl)) ?_; (with_reducible refine (interval_Normal.calls kj13 _ _ l0 t443 _ ?side1 ?side2 A49.out).mono ?_); (case side1 => repeat (first | exact (Kd.C_below HR0.out HB.out) | (with_reducible refine Kd.C_alloc ?_ _) | (with_reducible refine Kd.C_drewN ?_ _) | (with_reducible refine Kd.C_drew ?_))); (case side2 => exact HC0.out); rintro e w86 ⟨v444, rfl, ho0, hb⟩; refine ⟨_, rfl, ?_⟩; have n0_ := Aside0.mk (Kd.R_lower ho0 (below_size (by repeat (first | (with_reducible first | exact HB.out | apply below_alloc | apply pw_below_drewN | apply below_drew1) | exact HB.out)))); have n1_ := Aside0.mk (below_step (by repeat (first | (with_reducible first | exact HB.out | apply below_alloc | apply pw_below_drewN | apply below_drew1) | exact HB.out)) hb); clear HB; have HO445 := n0_; have HB := n1_; clear n0_ n1_; (try clear hb); (try clear hb2); (try clear hk); (try clear hi); (try clear ho0); obtain ⟨Ao87, co87, eo87⟩ := Kd.R_slice HO445.out; subst eo87) | ((with_reducible refine gate_callee (f := 19) rfl ?_); refine goesL_ (some 55) rfl rfl Try.func19 (by kernel_rfl) rfl #[.slice Ao87 t443.length co87] rfl (by (try simp only [List.map_toArray, List.map_cons, List.map_nil]); first | done | rfl | (simp only [List.length_drop, List.length_take]; rfl)) ?_; (with_reducible refine (interval_Normal.calls kj13 _ _ t443 t446 _ ?side1 ?side2 A50.out).mono ?_); (case side1 => repeat (first | exact (Kd.R_reads' HO445.out).2.2 | (with_reducible refine Kd.C_alloc ?_ _) | (with_reducible refine Kd.C_drewN ?_ _) | (with_reducible refine Kd.C_drew ?_))); (case side2 => exact (Kd.R_reads' HO445.out).2.1); rintro e w88 ⟨v447, rfl, ho0, hb⟩; refine ⟨_, rfl, ?_⟩; have n0_ := Aside0.mk (Kd.R_elder' (by (with_reducible repeat (first | apply Kd.R_alloc | apply Kd.R_drewN | apply Kd.R_drew)); exact HO445.out) (Kd.R_base ho0) hb); have n1_ := Aside0.mk (Kd.R_lower (Kd.R_new' ho0 (Kd.R_lt (by (with_reducible repeat (first | apply Kd.R_alloc | apply Kd.R_drewN | apply Kd.R_drew)); exact HO445.out))) (below_size (by repeat (first | (with_reducible first | exact HB.out | apply below_alloc | apply pw_below_drewN | apply below_drew1) | exact HB.out)))); have n2_ := Aside0.mk (below_step (by repeat (first | (with_reducible first | exact HB.out | apply below_alloc | apply pw_below_drewN | apply below_drew1) | exact HB.out)) hb); clear HO445; clear HB; have HO445 := n0_; have HO448 := n1_; have HB := n2_; clear n0_ n1_ n2_; (try clear hb); (try clear hb2); (try clear hk); (try clear hi); (try clear ho0); obtain ⟨Ao89, co89, eo89⟩ := Kd.R_slice HO448.out; subst eo89) | ((with_reducible refine gate_callee (f := 18) rfl ?_); refine goesL_ (some 57) rfl rfl Try.func18 (by kernel_rfl) rfl #[.slice Ao89 t446.length co89, .slice Ao87 t443.length co87] rfl (by (try simp only [List.map_toArray, List.map_cons, List.map_nil]); first | done | rfl | (simp only [List.length_drop, List.length_take]; rfl)) ?_; (with_reducible refine (intrusionlaw05_same.calls kj13 _ _ t446 _ _ t443 false _ ?side1 ?side2 ?side3 ?side4 A51.out).mono ?_); (case side1 => repeat (first | exact (Kd.R_reads' HO448.out).2.2 | (with_reducible refine Kd.C_alloc ?_ _) | (with_reducible refine Kd.C_drewN ?_ _) | (with_reducible refine Kd.C_drew ?_))); (case side2 => exact (Kd.R_reads' HO448.out).2.1); (case side3 => repeat (first | exact (Kd.R_reads' HO445.out).2.2 | (with_reducible refine Kd.C_alloc ?_ _) | (with_reducible refine Kd.C_drewN ?_ _) | (with_reducible refine Kd.C_drew ?_))); (case side4 => exact (Kd.R_reads' HO445.out).2.1); rintro e w' ⟨rfl, ⟨nd, rfl⟩⟩; refine ⟨_, rfl, ?_⟩))
                go_ret
                exact ⟨by first | rfl | (simp [errW_none, errW_some] <;> rfl) | (simp [*, errW_none, errW_some] <;> rfl), by repeat (first | (with_reducible first | exact HB.out | apply below_alloc | apply pw_below_drewN | apply below_drew1) | exact HB.out)⟩
end Go.Proofs.Ytcgfpffgiimgmaa.Q
end

section
set_option linter.unusedVariables false
namespace Go.Proofs.Ytcgfpffgiimgmaa.Read
open Go.RowKit Go.Deep Go.WideShapes Go.Proofs.YtcgfpffgiimgmaaW.PrintWords
def Reads {α : Type} (P : Program) (W : World) (d : Kd α) (Q : α → Prop) (t : TypeId) : Prop :=
  ∀ (H : Type) (enc : TypeId × Value → H) (fuel : Nat) (cs : List Value) (x : DataW H × List MemPlace), DataW.trod enc P W 0 (fun _ => true) true fuel t cs = some x → ∃ y, d.K W y cs ∧ Q y
section
variable {P : Program} {W : World}
theorem reads_int {k : IntKind} {t : TypeId} (ht : P.underlying t = some (.int k)) : Reads P W (Kd.int k) (fun n => (Lit.int k n).wf = true) t := by
  intro H enc fuel cs x h
  obtain ⟨n, rfl, _, hw⟩ := DataW.trod_int ht h
  exact ⟨n, rfl, hw⟩
theorem cells_at {a : Addr} {n : Nat} {cs : List Value} (h : W.cells? 0 a n = some cs) : ∀ i u, cs[i]? = some u → W.cell? (a.add i) = some u := by
  obtain ⟨_, hl, hc⟩ := World.cells?_some h
  intro i u hi
  have hlt : i < cs.length := (List.getElem?_eq_some_iff.1 hi).1
  rw [hc i (by omega), hi]
theorem reads_slice {α : Type} {d : Kd α} {Q : α → Prop} {t e : TypeId} (ht : P.underlying t = some (.slice e)) (hc : P.cellsOf e = d.sz) (he : Reads P W d Q e) :
    Reads P W (Kd.slice e d) (fun xs => xs.length ≤ maxLen ∧ ∀ x ∈ xs, Q x) t := by
  intro H enc fuel cs x h
  rcases open_slice ht h with ⟨rfl, _⟩ | ⟨a, len, cap, m, n, D, Pl, rfl, _, hl, hm, hmm, _, hx⟩
  · exact ⟨[], ⟨none, 0, rfl, Nat.le_refl _, ⟨rfl, by simp, fun h => absurd h (by simp)⟩⟩, by simp⟩
  · have hml : m = cap := by simpa using hmm
    have hy : ∀ i : Fin len, ∃ y, (∃ cs', cs'.length = d.sz ∧ d.K W y cs' ∧ ∀ j u, cs'[j]? = some u → W.cell? (a.add (i.1 * d.sz + j)) = some u) ∧ Q y := by
      intro i
      obtain ⟨cs', h1, h2⟩ := hx i.1 (by omega)
      obtain ⟨y, hk, hq⟩ := he H enc n cs' _ h2
      refine ⟨y, ⟨cs', d.K_len hk, hk, fun j u hj => ?_⟩, hq⟩
      have := cells_at h1 j u hj
      rwa [hc, Addr.add_add] at this
    have hf : ∃ f : Fin len → α, ∀ i, (∃ cs', cs'.length = d.sz ∧ d.K W (f i) cs' ∧ ∀ j u, cs'[j]? = some u → W.cell? (a.add (i.1 * d.sz + j)) = some u) ∧ Q (f i) := ⟨fun i => Classical.choose (hy i), fun i => Classical.choose_spec (hy i)⟩
    obtain ⟨f, hf⟩ := hf
    refine ⟨List.ofFn f, ⟨some a, cap, by simp, by simpa using hl, ⟨rfl, by simp [maxLen] at hm ⊢; omega, fun _ => ⟨a, rfl, fun j p hj => ?_⟩⟩⟩, by simpa using Nat.le_trans hl hm, fun y hy => ?_⟩
    · obtain ⟨hlt, rfl⟩ := List.getElem?_eq_some_iff.1 hj
      have hjl : j < len := by simpa using hlt
      rw [List.getElem_ofFn]
      exact (hf ⟨j, hjl⟩).1
    · obtain ⟨j, hj, rfl⟩ := List.getElem_of_mem hy
      rw [List.getElem_ofFn]
      exact (hf _).2
theorem pair_mk {α β : Type} {a : Kd α} {b : Kd β} {x : α} {y : β} {cs : List Value} (s : Nat) (h0 : a.K W x (cs.take s)) (h1 : b.K W y (cs.drop s)) : (Kd.pair a b).K W (x, y) cs :=
  ⟨cs.take s, cs.drop s, (List.take_append_drop s cs).symm, h0, h1⟩
theorem field_at {α : Type} {d : Kd α} {Q : α → Prop} {fs : Array Field} {H : Type} {enc : TypeId × Value → H} {n : Nat} {cs : List Value} {xs : List (DataW H × List MemPlace)} (hl : xs.length = fs.size)
    (hf : ∀ (i : Nat) (f : Field), fs[i]? = some f → DataW.trod enc P W 0 (fun _ => true) true n f.type ((cs.drop f.offset).take (P.cellsOf f.type)) = xs[i]?)
    (i : Nat) {f : Field} (hi : fs[i]? = some f) {t off sz : Nat} (ht : f.type = t) (ho : f.offset = off) (hc : P.cellsOf t = sz) (hr : Reads P W d Q t) : ∃ y, d.K W y ((cs.drop off).take sz) ∧ Q y := by
  subst ht ho hc
  have h := hf i f hi
  have hlt : i < xs.length := by rw [hl]; exact (Array.getElem?_eq_some_iff.1 hi).1
  rw [List.getElem?_eq_getElem hlt] at h
  exact hr H enc n _ _ h
end
end Go.Proofs.Ytcgfpffgiimgmaa.Read
end

section
set_option linter.unusedVariables false
namespace Go.Proofs.Ytcgfpffgiimgmaa.Q
open Go.RowKit Go.Proofs.YtcgfpffgiimgmaaW.PrintWords Go.Proofs.Ytcgfpffgiimgmaa.Read
def q52 (x : S52) : Prop := (Lit.int .i64 x.f0).wf = true ∧ (Lit.int .i64 x.f1).wf = true
theorem reads_k52 (W : World) : Reads Try.prog W k52 q52 52 := by
  intro H enc fuel cs x h
  obtain ⟨xs, n, rfl, _, hcl, hxl, hf⟩ := DataW.trod_struct Try.underlying52 h
  have hc : cs.length = 2 := hcl.trans (by kernel_rfl)
  obtain ⟨y0, h0, g0⟩ := field_at hxl hf 0 rfl (t := 3) (off := 0) (sz := 1) rfl rfl (by kernel_rfl) (reads_int Try.underlying3)
  obtain ⟨y1, h1, g1⟩ := field_at hxl hf 1 rfl (t := 3) (off := 1) (sz := 1) rfl rfl (by kernel_rfl) (reads_int Try.underlying3)
  refine ⟨⟨y0, y1⟩, ?_, ⟨g0, g1⟩⟩
  rw [show (cs.drop 0).take 1 = (cs.drop 0).take 1 from rfl] at h0
  rw [show (cs.drop 1).take 1 = (cs.drop 1) from List.take_of_length_le (by rw [List.length_drop, hc]; decide)] at h1
  skip
  have e0 : cs.drop 0 = cs := rfl
  rw [e0] at h0
  exact pair_mk (a := (Kd.int .i64)) 1 h0 (h1)
end Go.Proofs.Ytcgfpffgiimgmaa.Q
end

section
namespace Go.Proofs.Ytcgfpffgiimgmaa.Canon
abbrev Sp := Int × Int
def Mem (l : List Sp) (n : Int) : Prop := ∃ x, x ∈ l ∧ x.1 ≤ n ∧ n ≤ x.2
def CanFrom : Int → List Sp → Prop
  | _, [] => True
  | lo, x :: t => lo ≤ x.1 ∧ x.1 ≤ x.2 ∧ CanFrom (x.2 + 2) t
theorem mem_nil (n : Int) : Mem [] n ↔ False := by simp [Mem]
theorem mem_cons (x : Sp) (t : List Sp) (n : Int) : Mem (x :: t) n ↔ (x.1 ≤ n ∧ n ≤ x.2) ∨ Mem t n := by
  simp only [Mem, List.mem_cons]
  constructor
  · rintro ⟨y, rfl | hy, h⟩
    · exact .inl h
    · exact .inr ⟨y, hy, h⟩
  · rintro (h | ⟨y, hy, h⟩)
    · exact ⟨x, .inl rfl, h⟩
    · exact ⟨y, .inr hy, h⟩
theorem mem_append (a b : List Sp) (n : Int) : Mem (a ++ b) n ↔ Mem a n ∨ Mem b n := by
  induction a with
  | nil => simp [mem_nil]
  | cons x t ih => simp only [List.cons_append, mem_cons, ih]; exact or_assoc.symm
theorem CanFrom.mono {lo lo' : Int} {l : List Sp} (h : lo' ≤ lo) (c : CanFrom lo l) : CanFrom lo' l := by
  cases l with
  | nil => trivial
  | cons x t => exact ⟨Int.le_trans h c.1, c.2⟩
theorem CanFrom.ge : ∀ {l : List Sp} {lo n : Int}, CanFrom lo l → Mem l n → lo ≤ n
  | [], _, _, _, h => ((mem_nil _).1 h).elim
  | x :: t, lo, n, c, h => by
    rcases (mem_cons x t n).1 h with h | h
    · have := c.1; omega
    · have := CanFrom.ge c.2.2 h; have := c.1; have := c.2.1; omega
theorem uniq : ∀ (a b : List Sp) (lo : Int), CanFrom lo a → CanFrom lo b → (∀ n, Mem a n ↔ Mem b n) → a = b
  | [], [], _, _, _, _ => rfl
  | [], y :: t, _, _, cb, h => by
    have := (h y.1).2 ((mem_cons y t _).2 (.inl ⟨Int.le_refl _, cb.2.1⟩))
    exact ((mem_nil _).1 this).elim
  | x :: s, [], _, ca, _, h => by
    have := (h x.1).1 ((mem_cons x s _).2 (.inl ⟨Int.le_refl _, ca.2.1⟩))
    exact ((mem_nil _).1 this).elim
  | x :: s, y :: t, lo, ca, cb, h => by
    have hx : ∀ n, Mem (x :: s) n → x.1 ≤ n := fun n hn => CanFrom.ge (lo := x.1) (l := x :: s) ⟨Int.le_refl _, ca.2⟩ hn
    have hy : ∀ n, Mem (y :: t) n → y.1 ≤ n := fun n hn => CanFrom.ge (lo := y.1) (l := y :: t) ⟨Int.le_refl _, cb.2⟩ hn
    have e1 : x.1 = y.1 := by
      have a1 := hy _ ((h x.1).1 ((mem_cons x s _).2 (.inl ⟨Int.le_refl _, ca.2.1⟩)))
      have a2 := hx _ ((h y.1).2 ((mem_cons y t _).2 (.inl ⟨Int.le_refl _, cb.2.1⟩)))
      omega
    have e2 : x.2 = y.2 := by
      have k1 : ¬ x.2 < y.2 := fun hlt => by
        have := (h (x.2 + 1)).2 ((mem_cons y t _).2 (.inl ⟨by have := ca.2.1; omega, by omega⟩))
        rcases (mem_cons x s _).1 this with m | m
        · omega
        · have := ca.2.2.ge m; omega
      have k2 : ¬ y.2 < x.2 := fun hlt => by
        have := (h (y.2 + 1)).1 ((mem_cons x s _).2 (.inl ⟨by have := cb.2.1; omega, by omega⟩))
        rcases (mem_cons y t _).1 this with m | m
        · omega
        · have := cb.2.2.ge m; omega
      omega
    have e : x = y := Prod.ext e1 e2
    subst e
    rw [uniq s t (x.2 + 2) ca.2.2 cb.2.2 (fun n => by
      constructor
      · intro hn
        have g := ca.2.2.ge hn
        rcases (mem_cons x t _).1 ((h n).1 ((mem_cons x s _).2 (.inr hn))) with m | m
        · omega
        · exact m
      · intro hn
        have g := cb.2.2.ge hn
        rcases (mem_cons x s _).1 ((h n).2 ((mem_cons x t _).2 (.inr hn))) with m | m
        · omega
        · exact m)]
theorem can_append : ∀ (a b : List Sp) (lo : Int), CanFrom lo (a ++ b) ↔ CanFrom lo a ∧ (∀ x ∈ a, ∀ y ∈ b, x.2 + 1 < y.1) ∧ (∃ lo', CanFrom lo' b) ∧ (∀ y ∈ b, lo ≤ y.1)
  | [], b, lo => by
    constructor
    · intro c
      refine ⟨trivial, by simp, ⟨lo, c⟩, fun y hy => ?_⟩
      have hm : Mem b y.1 → lo ≤ y.1 := c.ge
      refine hm ⟨y, hy, Int.le_refl _, ?_⟩
      have : ∀ (b : List Sp) (lo : Int), CanFrom lo b → ∀ y ∈ b, y.1 ≤ y.2 := by
        intro b
        induction b with
        | nil => simp
        | cons z t ih =>
          intro lo c y hy
          rcases List.mem_cons.1 hy with rfl | hy
          · exact c.2.1
          · exact ih _ c.2.2 y hy
      exact this b lo c y hy
    · rintro ⟨_, _, ⟨lo', c⟩, h⟩
      cases b with
      | nil => trivial
      | cons z t => exact ⟨h z (List.mem_cons_self ..), c.2⟩
  | x :: a, b, lo => by
    have ih := can_append a b (x.2 + 2)
    constructor
    · rintro ⟨c1, c2, c3⟩
      obtain ⟨i1, i2, i3, i4⟩ := ih.1 c3
      refine ⟨⟨c1, c2, i1⟩, fun z hz y hy => ?_, i3, fun y hy => ?_⟩
      · rcases List.mem_cons.1 hz with rfl | hz
        · have := i4 y hy; omega
        · exact i2 z hz y hy
      · have := i4 y hy; omega
    · rintro ⟨⟨c1, c2, c3⟩, h2, h3, h4⟩
      refine ⟨c1, c2, ih.2 ⟨c3, fun z hz => h2 z (List.mem_cons_of_mem _ hz), h3, fun y hy => ?_⟩⟩
      have := h2 x (List.mem_cons_self ..) y hy
      omega
theorem can_wf : ∀ (b : List Sp) (lo : Int), CanFrom lo b → ∀ y ∈ b, lo ≤ y.1 ∧ y.1 ≤ y.2
  | [], _, _, y, hy => by simp at hy
  | z :: t, lo, c, y, hy => by
    rcases List.mem_cons.1 hy with rfl | hy
    · exact ⟨c.1, c.2.1⟩
    · have := can_wf t _ c.2.2 y hy
      have := c.1; have := c.2.1
      exact ⟨by omega, by omega⟩
end Go.Proofs.Ytcgfpffgiimgmaa.Canon
end

section
namespace Go.Proofs.Ytcgfpffgiimgmaa.Q
open Go.RowKit Go.Proofs.YtcgfpffgiimgmaaW.PrintWords Go.Proofs.YtcgfpffgiimgmaaW.PrintLast Go.Proofs.YtcgfpffgiimgmaaW.PrintMore
attribute [local go_sem] max2_int min2_int max_two min_two max_three min_three max_four min_four
set_option linter.unusedVariables false
set_option linter.unusedSimpArgs false
def intrusionref05_cut.f (a0_0 : Int) (a0_1 : Int) (a1 : Int) (a2 : Int) : Option (Int × Int × Bool) := some (mx a0_0 a1, mn a0_1 a2, decide ((mx a0_0 a1) ≤ (mn a0_1 a2)))
end Go.Proofs.Ytcgfpffgiimgmaa.Q
end

section
namespace Go.Proofs.Ytcgfpffgiimgmaa.Q
open Go.RowKit Go.Proofs.YtcgfpffgiimgmaaW.PrintWords Go.Proofs.YtcgfpffgiimgmaaW.PrintLast Go.Proofs.YtcgfpffgiimgmaaW.PrintMore
attribute [local go_sem] max2_int min2_int max_two min_two max_three min_three max_four min_four
set_option linter.unusedVariables false
set_option linter.unusedSimpArgs false
mutual
def intrusionref05_least.l0 : Nat → List (S52) → Int → Int → Int → Option (Int × Int × (List (S52)))
  | 0, _, _, _, _ => none
  | k + 1, x0, x5, x217000, x217001 => if x5 < (x0.length : Int) then (if 0 ≤ x5 then (if ((rd_T52 x0 x5).f0) < x217000 then (intrusionref05_least.l0 k x0 (wrap64 (x5 + 1)) ((rd_T52 x0 x5).f0) ((rd_T52 x0 x5).f1)) else (intrusionref05_least.l0 k x0 (wrap64 (x5 + 1)) x217000 x217001)) else (none)) else (intrusionref05_least.l1 k x0 true x217000 x217001)
def intrusionref05_least.l1 : Nat → List (S52) → Bool → Int → Int → Option (Int × Int × (List (S52)))
  | 0, _, _, _, _ => none
  | k + 1, x0, x6, x217000, x217001 => if x6 = true then (intrusionref05_least.l2 k x0 false 0 x217000 x217001) else (intrusionref05_least.l3 k x0 (([] : List (S52))) 0 x217000 x217001)
def intrusionref05_least.l2 : Nat → List (S52) → Bool → Int → Int → Int → Option (Int × Int × (List (S52)))
  | 0, _, _, _, _, _ => none
  | k + 1, x0, x6, x7, x217000, x217001 => if x7 < (x0.length : Int) then (if 0 ≤ x7 then (if ((rd_T52 x0 x7).f0) ≤ (wrap64 (x217001 + 1)) then (if ((rd_T52 x0 x7).f1) > x217001 then (intrusionref05_least.l2 k x0 true (wrap64 (x7 + 1)) x217000 ((rd_T52 x0 x7).f1)) else (intrusionref05_least.l2 k x0 x6 (wrap64 (x7 + 1)) x217000 x217001)) else (intrusionref05_least.l2 k x0 x6 (wrap64 (x7 + 1)) x217000 x217001)) else (none)) else (intrusionref05_least.l1 k x0 x6 x217000 x217001)
def intrusionref05_least.l3 : Nat → List (S52) → List (S52) → Int → Int → Int → Option (Int × Int × (List (S52)))
  | 0, _, _, _, _, _ => none
  | k + 1, x0, x8, x9, x217000, x217001 => if x9 < (x0.length : Int) then (if 0 ≤ x9 then (if ((rd_T52 x0 x9).f0) > x217001 then (if x8.length < 8796093022208 then (intrusionref05_least.l3 k x0 (x8 ++ [(⟨(rd_T52 x0 x9).f0, (rd_T52 x0 x9).f1⟩ : S52)]) (wrap64 (x9 + 1)) x217000 x217001) else (none)) else (intrusionref05_least.l3 k x0 x8 (wrap64 (x9 + 1)) x217000 x217001)) else (none)) else (some (x217000, x217001, x8))
end
def intrusionref05_least.f (k : Nat) (l0 : List (S52)) : Option (Int × Int × (List (S52))) := if 0 < (l0.length : Int) then (intrusionref05_least.l0 k l0 0 ((rd_T52 l0 0).f0) ((rd_T52 l0 0).f1)) else (none)
theorem intrusionref05_least.mono_l : ∀ k, (∀ y0 y1 y2 y3, LeO (intrusionref05_least.l0 k y0 y1 y2 y3) (intrusionref05_least.l0 (k + 1) y0 y1 y2 y3)) ∧ (∀ y0 y1 y2 y3, LeO (intrusionref05_least.l1 k y0 y1 y2 y3) (intrusionref05_least.l1 (k + 1) y0 y1 y2 y3)) ∧ (∀ y0 y1 y2 y3 y4, LeO (intrusionref05_least.l2 k y0 y1 y2 y3 y4) (intrusionref05_least.l2 (k + 1) y0 y1 y2 y3 y4)) ∧ (∀ y0 y1 y2 y3 y4, LeO (intrusionref05_least.l3 k y0 y1 y2 y3 y4) (intrusionref05_least.l3 (k + 1) y0 y1 y2 y3 y4))
  | 0 => ⟨fun _ _ _ _ r h => by simp [intrusionref05_least.l0] at h, fun _ _ _ _ r h => by simp [intrusionref05_least.l1] at h, fun _ _ _ _ _ r h => by simp [intrusionref05_least.l2] at h, fun _ _ _ _ _ r h => by simp [intrusionref05_least.l3] at h⟩
  | k + 1 => by
    obtain ⟨ih0, ih1, ih2, ih3⟩ := intrusionref05_least.mono_l k
    refine ⟨?_, ?_, ?_, ?_⟩
    · intro y0 y1 y2 y3
      unfold intrusionref05_least.l0
      repeat' first
      | (with_reducible exact ih0 _ _ _ _)
      | (with_reducible exact ih1 _ _ _ _)
      | (with_reducible exact ih2 _ _ _ _ _)
      | (with_reducible exact ih3 _ _ _ _ _)
      | (with_reducible exact LeO.refl _)
      | (with_reducible exact LeO.none _)
      | (with_reducible refine LeO.ite ?_ ?_)
      | (with_reducible refine LeO.bind ?_ (fun _ => ?_))
      | exact ih0 _ _ _ _
      | exact ih1 _ _ _ _
      | exact ih2 _ _ _ _ _
      | exact ih3 _ _ _ _ _
      | exact LeO.none _
      | refine LeO.ite ?_ ?_
      | refine LeO.bind ?_ (fun _ => ?_)
    · intro y0 y1 y2 y3
      unfold intrusionref05_least.l1
      repeat' first
      | (with_reducible exact ih0 _ _ _ _)
      | (with_reducible exact ih1 _ _ _ _)
      | (with_reducible exact ih2 _ _ _ _ _)
      | (with_reducible exact ih3 _ _ _ _ _)
      | (with_reducible exact LeO.refl _)
      | (with_reducible exact LeO.none _)
      | (with_reducible refine LeO.ite ?_ ?_)
      | (with_reducible refine LeO.bind ?_ (fun _ => ?_))
      | exact ih0 _ _ _ _
      | exact ih1 _ _ _ _
      | exact ih2 _ _ _ _ _
      | exact ih3 _ _ _ _ _
      | exact LeO.none _
      | refine LeO.ite ?_ ?_
      | refine LeO.bind ?_ (fun _ => ?_)
    · intro y0 y1 y2 y3 y4
      unfold intrusionref05_least.l2
      repeat' first
      | (with_reducible exact ih0 _ _ _ _)
      | (with_reducible exact ih1 _ _ _ _)
      | (with_reducible exact ih2 _ _ _ _ _)
      | (with_reducible exact ih3 _ _ _ _ _)
      | (with_reducible exact LeO.refl _)
      | (with_reducible exact LeO.none _)
      | (with_reducible refine LeO.ite ?_ ?_)
      | (with_reducible refine LeO.bind ?_ (fun _ => ?_))
      | exact ih0 _ _ _ _
      | exact ih1 _ _ _ _
      | exact ih2 _ _ _ _ _
      | exact ih3 _ _ _ _ _
      | exact LeO.none _
      | refine LeO.ite ?_ ?_
      | refine LeO.bind ?_ (fun _ => ?_)
    · intro y0 y1 y2 y3 y4
      unfold intrusionref05_least.l3
      repeat' first
      | (with_reducible exact ih0 _ _ _ _)
      | (with_reducible exact ih1 _ _ _ _)
      | (with_reducible exact ih2 _ _ _ _ _)
      | (with_reducible exact ih3 _ _ _ _ _)
      | (with_reducible exact LeO.refl _)
      | (with_reducible exact LeO.none _)
      | (with_reducible refine LeO.ite ?_ ?_)
      | (with_reducible refine LeO.bind ?_ (fun _ => ?_))
      | exact ih0 _ _ _ _
      | exact ih1 _ _ _ _
      | exact ih2 _ _ _ _ _
      | exact ih3 _ _ _ _ _
      | exact LeO.none _
      | refine LeO.ite ?_ ?_
      | refine LeO.bind ?_ (fun _ => ?_)
theorem intrusionref05_least.mono : ∀ a0 k, LeO (intrusionref05_least.f k a0) (intrusionref05_least.f (k + 1) a0) := by
  intro a0 k
  obtain ⟨ih0, ih1, ih2, ih3⟩ := intrusionref05_least.mono_l k
  unfold intrusionref05_least.f
  repeat' first
      | (with_reducible exact ih0 _ _ _ _)
      | (with_reducible exact ih1 _ _ _ _)
      | (with_reducible exact ih2 _ _ _ _ _)
      | (with_reducible exact ih3 _ _ _ _ _)
      | (with_reducible exact LeO.refl _)
      | (with_reducible exact LeO.none _)
      | (with_reducible refine LeO.ite ?_ ?_)
      | (with_reducible refine LeO.bind ?_ (fun _ => ?_))
      | exact ih0 _ _ _ _
      | exact ih1 _ _ _ _
      | exact ih2 _ _ _ _ _
      | exact ih3 _ _ _ _ _
      | exact LeO.none _
      | refine LeO.ite ?_ ?_
      | refine LeO.bind ?_ (fun _ => ?_)
end Go.Proofs.Ytcgfpffgiimgmaa.Q
end

section
namespace Go.Proofs.Ytcgfpffgiimgmaa.Q
open Go.RowKit Go.Proofs.YtcgfpffgiimgmaaW.PrintWords Go.Proofs.YtcgfpffgiimgmaaW.PrintLast Go.Proofs.YtcgfpffgiimgmaaW.PrintMore
attribute [local go_sem] max2_int min2_int max_two min_two max_three min_three max_four min_four
set_option linter.unusedVariables false
set_option linter.unusedSimpArgs false
mutual
def intrusionref05_Normal.l0 : Nat → List (S52) → List (S52) → Int → Option ((List (S52)))
  | 0, _, _, _ => none
  | k + 1, x0, x3, x4 => if x4 < (x0.length : Int) then (if 0 ≤ x4 then ((intrusionref05_cut.f ((rd_T52 x0 x4).f0) ((rd_T52 x0 x4).f1) 0 4294967296).bind fun bt234 => (if bt234.2.2 = true then (if x3.length < 8796093022208 then (intrusionref05_Normal.l0 k x0 (x3 ++ [(⟨bt234.1, bt234.2.1⟩ : S52)]) (wrap64 (x4 + 1))) else (none)) else (intrusionref05_Normal.l0 k x0 x3 (wrap64 (x4 + 1))))) else (none)) else (intrusionref05_Normal.l1 k x3 (([] : List (S52))))
def intrusionref05_Normal.l1 : Nat → List (S52) → List (S52) → Option ((List (S52)))
  | 0, _, _ => none
  | k + 1, x3, x7 => if (x3.length : Int) > 0 then ((intrusionref05_least.f k x3).bind fun bt244 => (if x7.length < 8796093022208 then (intrusionref05_Normal.l1 k bt244.2.2 (x7 ++ [(⟨bt244.1, bt244.2.1⟩ : S52)])) else (none))) else (some x7)
end
def intrusionref05_Normal.f (k : Nat) (l0 : List (S52)) : Option ((List (S52))) := intrusionref05_Normal.l0 k l0 (([] : List (S52))) 0
theorem intrusionref05_Normal.mono_l : ∀ k, (∀ y0 y1 y2, LeO (intrusionref05_Normal.l0 k y0 y1 y2) (intrusionref05_Normal.l0 (k + 1) y0 y1 y2)) ∧ (∀ y0 y1, LeO (intrusionref05_Normal.l1 k y0 y1) (intrusionref05_Normal.l1 (k + 1) y0 y1))
  | 0 => ⟨fun _ _ _ r h => by simp [intrusionref05_Normal.l0] at h, fun _ _ r h => by simp [intrusionref05_Normal.l1] at h⟩
  | k + 1 => by
    obtain ⟨ih0, ih1⟩ := intrusionref05_Normal.mono_l k
    refine ⟨?_, ?_⟩
    · intro y0 y1 y2
      unfold intrusionref05_Normal.l0
      repeat' first
      | (with_reducible exact ih0 _ _ _)
      | (with_reducible exact ih1 _ _)
      | (with_reducible exact intrusionref05_least.mono _ _)
      | (with_reducible exact LeO.refl _)
      | (with_reducible exact LeO.none _)
      | (with_reducible refine LeO.ite ?_ ?_)
      | (with_reducible refine LeO.bind ?_ (fun _ => ?_))
      | exact ih0 _ _ _
      | exact ih1 _ _
      | exact intrusionref05_least.mono _ _
      | exact LeO.none _
      | refine LeO.ite ?_ ?_
      | refine LeO.bind ?_ (fun _ => ?_)
    · intro y0 y1
      unfold intrusionref05_Normal.l1
      repeat' first
      | (with_reducible exact ih0 _ _ _)
      | (with_reducible exact ih1 _ _)
      | (with_reducible exact intrusionref05_least.mono _ _)
      | (with_reducible exact LeO.refl _)
      | (with_reducible exact LeO.none _)
      | (with_reducible refine LeO.ite ?_ ?_)
      | (with_reducible refine LeO.bind ?_ (fun _ => ?_))
      | exact ih0 _ _ _
      | exact ih1 _ _
      | exact intrusionref05_least.mono _ _
      | exact LeO.none _
      | refine LeO.ite ?_ ?_
      | refine LeO.bind ?_ (fun _ => ?_)
theorem intrusionref05_Normal.mono : ∀ a0 k, LeO (intrusionref05_Normal.f k a0) (intrusionref05_Normal.f (k + 1) a0) := by
  intro a0 k
  obtain ⟨ih0, ih1⟩ := intrusionref05_Normal.mono_l k
  unfold intrusionref05_Normal.f
  repeat' first
      | (with_reducible exact ih0 _ _ _)
      | (with_reducible exact ih1 _ _)
      | (with_reducible exact intrusionref05_least.mono _ _)
      | (with_reducible exact LeO.refl _)
      | (with_reducible exact LeO.none _)
      | (with_reducible refine LeO.ite ?_ ?_)
      | (with_reducible refine LeO.bind ?_ (fun _ => ?_))
      | exact ih0 _ _ _
      | exact ih1 _ _
      | exact intrusionref05_least.mono _ _
      | exact LeO.none _
      | refine LeO.ite ?_ ?_
      | refine LeO.bind ?_ (fun _ => ?_)
end Go.Proofs.Ytcgfpffgiimgmaa.Q
end

section
set_option linter.unusedVariables false
set_option linter.unusedSimpArgs false
namespace Go.Proofs.Ytcgfpffgiimgmaa.Q
open Go.RowKit Go.Proofs.YtcgfpffgiimgmaaW.PrintWords Go.Proofs.YtcgfpffgiimgmaaW.PrintLast Go.Proofs.YtcgfpffgiimgmaaW.PrintMore Go.Proofs.Ytcgfpffgiimgmaa.Canon
abbrev Sn := S52
def sp (x : Sn) : Sp := (x.f0, x.f1)
theorem sp_inj {x y : Sn} (h : sp x = sp y) : x = y := by
  cases x; cases y
  simp [sp] at h
  simp [h.1, h.2]
def SM (l : List Sn) (n : Int) : Prop := Mem (l.map sp) n
theorem sm_cons (x : Sn) (t : List Sn) (n : Int) : SM (x :: t) n ↔ (x.f0 ≤ n ∧ n ≤ x.f1) ∨ SM t n := by unfold SM; rw [List.map_cons, mem_cons]; rfl
theorem sm_nil (n : Int) : SM [] n ↔ False := mem_nil n
theorem sm_append (a b : List Sn) (n : Int) : SM (a ++ b) n ↔ SM a n ∨ SM b n := by unfold SM; rw [List.map_append, mem_append]
theorem sm_iff (l : List Sn) (n : Int) : SM l n ↔ ∃ x ∈ l, x.f0 ≤ n ∧ n ≤ x.f1 := by
  unfold SM Mem
  constructor
  · rintro ⟨y, hy, h⟩
    obtain ⟨x, hx, rfl⟩ := List.mem_map.1 hy
    exact ⟨x, hx, h⟩
  · rintro ⟨x, hx, h⟩
    exact ⟨sp x, List.mem_map.2 ⟨x, hx, rfl⟩, h⟩
def Can (P : Int → Prop) (r : List Sn) : Prop := CanFrom 0 (r.map sp) ∧ (∀ x ∈ r, x.f1 ≤ 4294967296) ∧ ∀ n, SM r n ↔ P n
theorem map_sp_inj : ∀ {a b : List Sn}, a.map sp = b.map sp → a = b
  | [], [], _ => rfl
  | [], y :: t, h => by simp at h
  | x :: s, [], h => by simp at h
  | x :: s, y :: t, h => by
    simp only [List.map_cons, List.cons.injEq] at h
    rw [sp_inj h.1, map_sp_inj h.2]
theorem Can.uniq {P : Int → Prop} {a b : List Sn} (ha : Can P a) (hb : Can P b) : a = b :=
  map_sp_inj (Canon.uniq _ _ 0 ha.1 hb.1 (fun n => (ha.2.2 n).trans (hb.2.2 n).symm))
theorem Can.congr {P Q : Int → Prop} {r : List Sn} (h : Can P r) (e : ∀ n, P n ↔ Q n) : Can Q r := ⟨h.1, h.2.1, fun n => (h.2.2 n).trans (e n)⟩
theorem Can.wf {P : Int → Prop} {r : List Sn} (h : Can P r) : ∀ x ∈ r, 0 ≤ x.f0 ∧ x.f0 ≤ x.f1 ∧ x.f1 ≤ 4294967296 := fun x hx => by
  have := can_wf _ _ h.1 (sp x) (List.mem_map.2 ⟨x, hx, rfl⟩)
  exact ⟨this.1, this.2, h.2.1 x hx⟩
theorem Can.range {P : Int → Prop} {r : List Sn} (h : Can P r) (n : Int) (hn : P n) : 0 ≤ n ∧ n ≤ 4294967296 := by
  obtain ⟨x, hx, h1, h2⟩ := (sm_iff r n).1 ((h.2.2 n).2 hn)
  have := h.wf x hx
  omega
theorem rd_at (l : List Sn) (i : Nat) (h : i < l.length) : rd_T52 l (i : Int) = l[i] := by
  simp [rd_T52, List.getD_eq_getElem?_getD, List.getElem?_eq_getElem h]
theorem wrap_id {x : Int} (h0 : -9223372036854775808 ≤ x) (h1 : x ≤ 9223372036854775807) : wrap64 x = x := by unfold wrap64; omega
theorem wrap_succ (i : Nat) (h : i < 9223372036854775807) : wrap64 ((i : Int) + 1) = ((i + 1 : Nat) : Int) := by rw [wrap_id (by omega) (by omega)]; simp
theorem drop_cons {α : Type} (l : List α) (i : Nat) (h : i < l.length) : l.drop i = l[i] :: l.drop (i + 1) := (List.drop_eq_getElem_cons h)
theorem ev_cutp (a b : Int) : interval_cut_1.f a b = some (decide (a ≤ b)) := by unfold interval_cut_1.f; simp
theorem ev_sel (L : List Sn) (hl : L.length < 8796093022208) : ∀ (d i : Nat) (out : List Sn), L.length - i = d → i ≤ L.length → out.length ≤ i → Ev (fun k => interval_selected_at_interval_cut_1.l0 k out L (L.length : Int) (i : Int)) (out ++ (L.drop i).filter (fun x => decide (x.f0 ≤ x.f1))) := by
  intro d
  induction d with
  | zero =>
    intro i out hd hi ho
    have : i = L.length := by omega
    subst this
    refine Ev.step (f := fun _ => some out) (fun k => ?_) ?_
    · simp only [interval_selected_at_interval_cut_1.l0]; rw [if_neg (by omega)]
    · simpa using Ev.now out
  | succ d ih =>
    intro i out hd hi ho
    have hlt : i < L.length := by omega
    rw [drop_cons L i hlt, List.filter_cons]
    by_cases hc : L[i].f0 ≤ L[i].f1
    · rw [if_pos (by simpa using hc)]
      have h2 := ih (i + 1) (out ++ [L[i]]) (by omega) (by omega) (by simp; omega)
      rw [List.append_assoc] at h2
      refine Ev.step (fun k => ?_) h2
      simp only [interval_selected_at_interval_cut_1.l0]
      rw [if_pos (by omega), if_pos (by omega), if_pos (by omega), rd_at L i hlt, ev_cutp]
      simp only [Option.bind_some]
      rw [if_pos (by simpa using hc), if_pos (by omega), wrap_succ i (by omega)]
    · rw [if_neg (by simpa using hc)]
      refine Ev.step (fun k => ?_) (ih (i + 1) out (by omega) (by omega) (by omega))
      simp only [interval_selected_at_interval_cut_1.l0]
      rw [if_pos (by omega), if_pos (by omega), if_pos (by omega), rd_at L i hlt, ev_cutp]
      simp only [Option.bind_some]
      rw [if_neg (by simpa using hc), wrap_succ i (by omega)]
def clip (lo hi : Int) (x : Sn) : Sn := ⟨mx x.f0 lo, mn x.f1 hi⟩
theorem ev_cut0 (L : List Sn) (lo hi : Int) (hl : L.length < 8796093022208) : ∀ (d i : Nat) (out : List Sn), L.length - i = d → i ≤ L.length → out.length = i → Ev (fun k => interval_cut.l0 k lo hi out L (L.length : Int) (i : Int)) ((out ++ (L.drop i).map (clip lo hi)).filter (fun x => decide (x.f0 ≤ x.f1))) := by
  intro d
  induction d with
  | zero =>
    intro i out hd hle ho
    have : i = L.length := by omega
    subst this
    refine Ev.step (f := fun k => (interval_selected_at_interval_cut_1.f k out).bind fun t => some t) (fun k => ?_) ?_
    · simp only [interval_cut.l0]; rw [if_neg (by omega)]
    · refine Ev.bind (a := out.filter (fun x => decide (x.f0 ≤ x.f1))) ?_ ?_
      · have := ev_sel out (by omega) out.length 0 [] (by omega) (by omega) (by simp)
        simpa [interval_selected_at_interval_cut_1.f] using this
      · simpa using Ev.now _
  | succ d ih =>
    intro i out hd hle ho
    have hlt : i < L.length := by omega
    have h2 := ih (i + 1) (out ++ [clip lo hi L[i]]) (by omega) (by omega) (by simp; omega)
    rw [List.append_assoc] at h2
    rw [drop_cons L i hlt, List.map_cons]
    refine Ev.step (fun k => ?_) h2
    simp only [interval_cut.l0]
    rw [if_pos (by omega), if_pos (by omega), if_pos (by omega), rd_at L i hlt, if_pos (by omega), wrap_succ i (by omega)]
    rfl
def clipped (lo hi : Int) (L : List Sn) : List Sn := (L.map (clip lo hi)).filter (fun x => decide (x.f0 ≤ x.f1))
theorem ev_cut (L : List Sn) (lo hi : Int) (hl : L.length < 8796093022208) : Ev (fun k => interval_cut.f k L lo hi) (clipped lo hi L) := by
  have h := ev_cut0 L lo hi hl L.length 0 [] (by omega) (by omega) rfl
  refine Ev.congr (fun k => ?_) h
  unfold interval_cut.f
  rw [if_pos (by omega), if_pos (by omega)]
  rfl
theorem clipped_spec (L : List Sn) : (clipped 0 4294967296 L).length ≤ L.length ∧ (∀ x ∈ clipped 0 4294967296 L, 0 ≤ x.f0 ∧ x.f0 ≤ x.f1 ∧ x.f1 ≤ 4294967296) ∧ ∀ n, SM (clipped 0 4294967296 L) n ↔ SM L n ∧ 0 ≤ n ∧ n ≤ 4294967296 := by
  refine ⟨?_, ?_, ?_⟩
  · unfold clipped
    refine Nat.le_trans (List.length_filter_le _ _) (by simp)
  · intro x hx
    unfold clipped at hx
    obtain ⟨h1, h2⟩ := List.mem_filter.1 hx
    obtain ⟨y, hy, rfl⟩ := List.mem_map.1 h1
    have h3 := of_decide_eq_true h2
    simp only [clip, mx, mn] at h3 ⊢
    refine ⟨?_, h3, ?_⟩
    · split <;> omega
    · split <;> omega
  · intro n
    rw [sm_iff, sm_iff]
    unfold clipped
    constructor
    · rintro ⟨x, hx, h1, h2⟩
      obtain ⟨h3, h4⟩ := List.mem_filter.1 hx
      obtain ⟨y, hy, rfl⟩ := List.mem_map.1 h3
      simp only [clip, mx, mn] at h1 h2
      refine ⟨⟨y, hy, ?_, ?_⟩, ?_, ?_⟩
      · split at h1 <;> omega
      · split at h2 <;> omega
      · split at h1 <;> omega
      · split at h2 <;> omega
    · rintro ⟨⟨y, hy, h1, h2⟩, h3, h4⟩
      refine ⟨clip 0 4294967296 y, List.mem_filter.2 ⟨List.mem_map.2 ⟨y, hy, rfl⟩, ?_⟩, ?_, ?_⟩
      · refine decide_eq_true ?_
        simp only [clip, mx, mn]
        split <;> split <;> omega
      · simp only [clip, mx]
        split <;> omega
      · simp only [clip, mn]
        split <;> omega
def mrg (out : List Sn) (x : Sn) : List Sn :=
  if h : 0 < out.length then (if x.f0 ≤ (out[out.length - 1]'(by omega)).f1 + 1 then out.set (out.length - 1) ⟨(out[out.length - 1]'(by omega)).f0, mx (out[out.length - 1]'(by omega)).f1 x.f1⟩ else out ++ [x]) else out ++ [x]
theorem mrg_nil (x : Sn) : mrg [] x = [x] := by simp [mrg]
theorem mrg_snoc (i : List Sn) (y x : Sn) : mrg (i ++ [y]) x = if x.f0 ≤ y.f1 + 1 then i ++ [(⟨y.f0, mx y.f1 x.f1⟩ : Sn)] else i ++ [y] ++ [x] := by
  have hl : (i ++ [y]).length - 1 = i.length := by simp
  have hg : (i ++ [y])[(i ++ [y]).length - 1]'(by simp) = y := by simp
  unfold mrg
  rw [dif_pos (by simp)]
  rw [hg, hl]
  split
  · simp
  · rfl
theorem mrg_len (out : List Sn) (x : Sn) : out.length ≤ (mrg out x).length ∧ (mrg out x).length ≤ out.length + 1 := by
  unfold mrg
  split
  · split <;> simp
  · simp
theorem fold_len : ∀ (L out : List Sn), (L.foldl mrg out).length ≤ out.length + L.length
  | [], out => by simp
  | x :: t, out => by
    have h1 := fold_len t (mrg out x)
    have h2 := (mrg_len out x).2
    simp only [List.foldl_cons, List.length_cons]
    omega
def WF (x : Sn) : Prop := 0 ≤ x.f0 ∧ x.f0 ≤ x.f1 ∧ x.f1 ≤ 4294967296
theorem ev_nl (L : List Sn) (hl : L.length < 8796093022208) (hL : ∀ x ∈ L, WF x) : ∀ (d i : Nat) (out : List Sn), L.length - i = d → i ≤ L.length → out.length ≤ i → (∀ x ∈ out, WF x) → Ev (fun k => interval_Normal.l0 k out L (L.length : Int) (i : Int)) ((L.drop i).foldl mrg out) := by
  intro d
  induction d with
  | zero =>
    intro i out hd hi ho _
    have : i = L.length := by omega
    subst this
    refine Ev.step (f := fun _ => some out) (fun k => ?_) ?_
    · simp only [interval_Normal.l0]; rw [if_neg (by omega)]
    · simpa using Ev.now out
  | succ d ih =>
    intro i out hd hi ho hw
    have hlt : i < L.length := by omega
    have hx := hL L[i] (List.getElem_mem hlt)
    rw [drop_cons L i hlt, List.foldl_cons]
    have hm : ∀ x ∈ mrg out L[i], WF x := by
      rcases List.eq_nil_or_concat out with rfl | ⟨j, y, rfl⟩
      · rw [mrg_nil]; intro x h; rw [List.mem_singleton.1 h]; exact hx
      · have hy := hw y (by simp)
        rw [List.concat_eq_append, mrg_snoc]
        split
        · intro x h
          rcases List.mem_append.1 h with h | h
          · exact hw x (by simp [h])
          · rw [List.mem_singleton.1 h]
            obtain ⟨y1, y2, y3⟩ := hy
            obtain ⟨x1, x2, x3⟩ := hx
            refine ⟨y1, ?_, ?_⟩ <;> simp only [mx] <;> split <;> omega
        · intro x h
          rcases List.mem_append.1 h with h | h
          · exact hw x (by rw [List.concat_eq_append]; exact h)
          · rw [List.mem_singleton.1 h]; exact hx
    have h2 := ih (i + 1) (mrg out L[i]) (by omega) (by omega) (by have := (mrg_len out L[i]).2; omega) hm
    refine Ev.step (fun k => ?_) h2
    simp only [interval_Normal.l0]
    rw [if_pos (by omega), if_pos (by omega), if_pos (by omega), rd_at L i hlt]
    by_cases h0 : 0 < out.length
    · have hy := hw (out[out.length - 1]'(by omega)) (List.getElem_mem _)
      rw [if_pos (by omega), show wrap64 ((out.length : Int) - 1) = ((out.length - 1 : Nat) : Int) from by rw [wrap_id (by omega) (by omega)]; omega, if_pos (by omega), if_pos (by omega), rd_at out (out.length - 1) (by omega)]
      obtain ⟨y1, y2, y3⟩ := hy
      rw [wrap_id (x := (out[out.length - 1]'(by omega)).f1 + 1) (by omega) (by omega), wrap_succ i (by omega)]
      unfold mrg
      rw [dif_pos h0]
      split
      · rfl
      · rw [if_pos (by omega)]
    · rw [if_neg (by omega), if_pos (by omega), wrap_succ i (by omega)]
      unfold mrg
      rw [dif_neg h0]
theorem mrg_spec : ∀ (L i : List Sn) (y : Sn), (∀ x ∈ L, WF x) → L.Pairwise (fun a b => a.f0 ≤ b.f0) → (∀ x ∈ L, y.f0 ≤ x.f0) → WF y → CanFrom 0 ((i ++ [y]).map sp) → (∀ x ∈ i ++ [y], x.f1 ≤ 4294967296) → Can (fun n => SM (i ++ [y]) n ∨ SM L n) (L.foldl mrg (i ++ [y]))
  | [], i, y, _, _, _, _, hc, hm => by
    refine ⟨hc, hm, fun n => ?_⟩
    simp [sm_nil]
  | x :: t, i, y, hL, hp, hy, hwy, hc, hm => by
    have hx := hL x (List.mem_cons_self ..)
    have ht : ∀ z ∈ t, WF z := fun z hz => hL z (List.mem_cons_of_mem _ hz)
    obtain ⟨p1, p2⟩ := List.pairwise_cons.1 hp
    rw [List.foldl_cons, mrg_snoc]
    have hxy := hy x (List.mem_cons_self ..)
    rw [List.map_append, can_append] at hc
    obtain ⟨c1, c2, _, c4⟩ := hc
    simp only [List.map_cons, List.map_nil, List.mem_singleton, forall_eq] at c2 c4
    obtain ⟨w1, w2, w3⟩ := hwy
    obtain ⟨x1, x2, x3⟩ := hx
    split
    · rename_i hj
      have hmx : y.f1 ≤ mx y.f1 x.f1 ∧ x.f1 ≤ mx y.f1 x.f1 ∧ mx y.f1 x.f1 ≤ 4294967296 ∧ (mx y.f1 x.f1 = y.f1 ∨ mx y.f1 x.f1 = x.f1) := by
        simp only [mx]
        split <;> omega
      generalize mx y.f1 x.f1 = m at hmx
      have h := mrg_spec t i ⟨y.f0, m⟩ ht p2 (fun z hz => Int.le_trans hxy (p1 z hz)) ⟨w1, by simp; omega, hmx.2.2.1⟩ (by
        rw [List.map_append, can_append]
        refine ⟨c1, ?_, ⟨y.f0, by simp [sp, CanFrom]; omega⟩, ?_⟩
        · intro z hz u hu
          simp only [List.map_cons, List.map_nil, List.mem_singleton] at hu
          subst hu
          exact c2 z hz
        · intro u hu
          simp only [List.map_cons, List.map_nil, List.mem_singleton] at hu
          subst hu
          exact c4) (by
        intro z hz
        rcases List.mem_append.1 hz with hz | hz
        · exact hm z (by simp [hz])
        · rw [List.mem_singleton.1 hz]; exact hmx.2.2.1)
      refine h.congr (fun n => ?_)
      rw [sm_append, sm_append, sm_cons, sm_cons, sm_cons, sm_nil]
      simp only [or_false]
      constructor
      · rintro ((h | h) | h)
        · exact .inl (.inl h)
        · by_cases hn : n ≤ y.f1
          · exact .inl (.inr ⟨h.1, hn⟩)
          · exact .inr (.inl ⟨by omega, by have h3 : n ≤ m := h.2; omega⟩)
        · exact .inr (.inr h)
      · rintro ((h | h) | h | h)
        · exact .inl (.inl h)
        · exact .inl (.inr ⟨h.1, show n ≤ m from by omega⟩)
        · exact .inl (.inr ⟨show y.f0 ≤ n from by omega, show n ≤ m from by omega⟩)
        · exact .inr h
    · rename_i hj
      have h := mrg_spec t (i ++ [y]) x ht p2 p1 ⟨x1, x2, x3⟩ (by
        rw [List.map_append, can_append]
        refine ⟨?_, ?_, ⟨x.f0, by simp [sp, CanFrom]; omega⟩, ?_⟩
        · rw [List.map_append, can_append]
          refine ⟨c1, ?_, ⟨y.f0, by simp [sp, CanFrom]; omega⟩, ?_⟩
          · intro z hz u hu
            simp only [List.map_cons, List.map_nil, List.mem_singleton] at hu
            subst hu
            exact c2 z hz
          · intro u hu
            simp only [List.map_cons, List.map_nil, List.mem_singleton] at hu
            subst hu
            exact c4
        · intro z hz u hu
          simp only [List.map_cons, List.map_nil, List.mem_singleton] at hu
          subst hu
          rw [List.map_append] at hz
          rcases List.mem_append.1 hz with hz | hz
          · have := c2 z hz
            simp only [sp] at this ⊢
            omega
          · simp only [List.map_cons, List.map_nil, List.mem_singleton] at hz
            subst hz
            simp only [sp]
            omega
        · intro u hu
          simp only [List.map_cons, List.map_nil, List.mem_singleton] at hu
          subst hu
          exact x1) (by
        intro z hz
        rcases List.mem_append.1 hz with hz | hz
        · exact hm z hz
        · rw [List.mem_singleton.1 hz]; exact x3)
      refine h.congr (fun n => ?_)
      rw [sm_append (i ++ [y]) [x], sm_cons x t, sm_cons x [], sm_nil]
      simp only [or_false, or_assoc]
theorem merge_spec (L : List Sn) (hL : ∀ x ∈ L, WF x) (hp : L.Pairwise (fun a b => a.f0 ≤ b.f0)) : Can (SM L) (L.foldl mrg []) := by
  cases L with
  | nil => exact ⟨trivial, by simp, fun n => Iff.rfl⟩
  | cons x t =>
    obtain ⟨p1, p2⟩ := List.pairwise_cons.1 hp
    have hx := hL x (List.mem_cons_self ..)
    have h := mrg_spec t [] x (fun z hz => hL z (List.mem_cons_of_mem _ hz)) p2 p1 hx ⟨hx.1, hx.2.1, trivial⟩ (by simp; exact hx.2.2)
    rw [List.foldl_cons, mrg_nil]
    refine h.congr (fun n => ?_)
    rw [List.nil_append, sm_cons, sm_cons, sm_nil, or_false]
theorem normal_spec (l : List Sn) (hl : l.length < 8796093022208) : ∃ r, Ev (fun k => interval_Normal.f k l) r ∧ Can (fun n => SM l n ∧ 0 ≤ n ∧ n ≤ 4294967296) r ∧ r.length ≤ l.length := by
  obtain ⟨c1, c2, c3⟩ := clipped_spec l
  obtain ⟨s1, s2, s3⟩ := sortSpans_spec (clipped 0 4294967296 l)
  have hw : ∀ x ∈ sortSpans (clipped 0 4294967296 l), WF x := fun x hx => c2 x (s2.mem_iff.1 hx)
  refine ⟨(sortSpans (clipped 0 4294967296 l)).foldl mrg [], ?_, ?_, ?_⟩
  · refine Ev.congr (fun k => by unfold interval_Normal.f; rfl) (Ev.bind (ev_cut l 0 4294967296 hl) (Ev.bind (g := fun _ => sort_Span.f (clipped 0 4294967296 l)) (a := sortSpans (clipped 0 4294967296 l)) ?_ ?_))
    · refine Ev.congr (fun k => ?_) (Ev.now _)
      unfold sort_Span.f
      rw [if_pos (by omega)]
    · have h := ev_nl (sortSpans (clipped 0 4294967296 l)) (by omega) hw _ 0 [] rfl (Nat.zero_le _) (Nat.le_refl _) (by simp)
      rw [s1] at h
      simpa using h
  · refine (merge_spec _ hw s3).congr (fun n => ?_)
    rw [← c3 n, sm_iff, sm_iff]
    constructor
    · rintro ⟨x, hx, h⟩
      exact ⟨x, s2.mem_iff.1 hx, h⟩
    · rintro ⟨x, hx, h⟩
      exact ⟨x, s2.mem_iff.2 hx, h⟩
  · have := fold_len (sortSpans (clipped 0 4294967296 l)) []
    simp at this
    omega
end Go.Proofs.Ytcgfpffgiimgmaa.Q
end

section
set_option linter.unusedVariables false
set_option linter.unusedSimpArgs false
namespace Go.Proofs.Ytcgfpffgiimgmaa.Q
open Go.RowKit Go.Proofs.YtcgfpffgiimgmaaW.PrintWords Go.Proofs.YtcgfpffgiimgmaaW.PrintLast Go.Proofs.YtcgfpffgiimgmaaW.PrintMore Go.Proofs.Ytcgfpffgiimgmaa.Canon
def minS (c x : Sn) : Sn := if x.f0 < c.f0 then x else c
theorem min_spec (W : List Sn) : ∀ (T : List Sn) (c : Sn), (∀ x ∈ T, x ∈ W) → c ∈ W → (T.foldl minS c) ∈ W ∧ (T.foldl minS c).f0 ≤ c.f0 ∧ ∀ x ∈ T, (T.foldl minS c).f0 ≤ x.f0
  | [], c, _, hc => ⟨hc, Int.le_refl _, by simp⟩
  | x :: t, c, hT, hc => by
    have hm : minS c x ∈ W := by
      unfold minS
      split
      · exact hT x (List.mem_cons_self ..)
      · exact hc
    obtain ⟨h1, h2, h3⟩ := min_spec W t (minS c x) (fun z hz => hT z (List.mem_cons_of_mem _ hz)) hm
    have h4 : (minS c x).f0 ≤ c.f0 ∧ (minS c x).f0 ≤ x.f0 := by unfold minS; split <;> constructor <;> omega
    refine ⟨h1, Int.le_trans h2 h4.1, fun z hz => ?_⟩
    rcases List.mem_cons.1 hz with rfl | hz
    · exact Int.le_trans h2 h4.2
    · exact h3 z hz
theorem ev_min {r : Int × Int × List Sn} (W : List Sn) (hl : W.length < 8796093022208) : ∀ (d i : Nat) (c : Sn), W.length - i = d → i ≤ W.length → Ev (fun k => intrusionref05_least.l1 k W true ((W.drop i).foldl minS c).f0 ((W.drop i).foldl minS c).f1) r → Ev (fun k => intrusionref05_least.l0 k W (i : Int) c.f0 c.f1) r := by
  intro d
  induction d with
  | zero =>
    intro i c hd hi h
    have : i = W.length := by omega
    subst this
    refine Ev.step (fun k => ?_) h
    simp only [intrusionref05_least.l0]
    rw [if_neg (by omega)]
    simp
  | succ d ih =>
    intro i c hd hi h
    have hlt : i < W.length := by omega
    rw [drop_cons W i hlt, List.foldl_cons] at h
    refine Ev.step (fun k => ?_) (ih (i + 1) (minS c W[i]) (by omega) (by omega) h)
    simp only [intrusionref05_least.l0]
    rw [if_pos (by omega), if_pos (by omega), rd_at W i hlt, wrap_succ i (by omega)]
    unfold minS
    split <;> rfl
def pass (s : Int × Bool) (x : Sn) : Int × Bool := if x.f0 ≤ s.1 + 1 ∧ x.f1 > s.1 then (x.f1, true) else s
theorem pass_spec (a : Int) (W : List Sn) (hW : ∀ x ∈ W, WF x) : ∀ (T : List Sn) (s : Int × Bool), (∀ x ∈ T, x ∈ W) → 0 ≤ s.1 → s.1 ≤ 4294967296 → (∀ n, a ≤ n → n ≤ s.1 → SM W n) →
    s.1 ≤ (T.foldl pass s).1 ∧ (T.foldl pass s).1 ≤ 4294967296 ∧ (∀ n, a ≤ n → n ≤ (T.foldl pass s).1 → SM W n) ∧ ((T.foldl pass s).2 = false → (T.foldl pass s).1 = s.1 ∧ ∀ x ∈ T, ¬ (x.f0 ≤ s.1 + 1 ∧ x.f1 > s.1)) ∧
    ((T.foldl pass s).1 = s.1 ∨ ∃ x ∈ T, x.f1 = (T.foldl pass s).1) ∧ ((T.foldl pass s).2 = true → s.2 = true ∨ s.1 < (T.foldl pass s).1) ∧ ((T.foldl pass s).2 = false → s.2 = false)
  | [], s, _, h0, h1, hc => ⟨Int.le_refl _, h1, hc, fun _ => ⟨rfl, by simp⟩, .inl rfl, fun h => .inl h, fun h => h⟩
  | x :: t, s, hT, h0, h1, hc => by
    have hx := hT x (List.mem_cons_self ..)
    have wx := hW x hx
    have ht := fun z hz => hT z (List.mem_cons_of_mem _ hz)
    rw [List.foldl_cons]
    by_cases hp : x.f0 ≤ s.1 + 1 ∧ x.f1 > s.1
    · have e : pass s x = (x.f1, true) := by unfold pass; rw [if_pos hp]
      rw [e]
      obtain ⟨i1, i2, i3, i4, i5, i6, i7⟩ := pass_spec a W hW t (x.f1, true) ht (by have := wx.1; have := wx.2.1; simp; omega) wx.2.2 (fun n n1 n2 => by
        by_cases hn : n ≤ s.1
        · exact hc n n1 hn
        · exact (sm_iff W n).2 ⟨x, hx, by omega, n2⟩)
      simp only at i1 i2 i3 i4 i5 i6 i7
      refine ⟨by omega, i2, i3, fun h => ?_, ?_, fun _ => .inr (by omega), fun h => by simpa using i7 h⟩
      · have := i7 h
        simp at this
      · rcases i5 with e5 | ⟨z, hz, e5⟩
        · exact .inr ⟨x, List.mem_cons_self .., e5.symm⟩
        · exact .inr ⟨z, List.mem_cons_of_mem _ hz, e5⟩
    · have e : pass s x = s := by unfold pass; rw [if_neg hp]
      rw [e]
      obtain ⟨i1, i2, i3, i4, i5, i6, i7⟩ := pass_spec a W hW t s ht h0 h1 hc
      refine ⟨i1, i2, i3, fun h => ⟨(i4 h).1, fun z hz => ?_⟩, ?_, i6, i7⟩
      · rcases List.mem_cons.1 hz with rfl | hz
        · exact hp
        · exact (i4 h).2 z hz
      · rcases i5 with e5 | ⟨z, hz, e5⟩
        · exact .inl e5
        · exact .inr ⟨z, List.mem_cons_of_mem _ hz, e5⟩
theorem ev_pass {r : Int × Int × List Sn} (a : Int) (W : List Sn) (hl : W.length < 8796093022208) (hW : ∀ x ∈ W, WF x) : ∀ (d i : Nat) (s : Int × Bool), W.length - i = d → i ≤ W.length → 0 ≤ s.1 → s.1 ≤ 4294967296 →
    Ev (fun k => intrusionref05_least.l1 k W ((W.drop i).foldl pass s).2 a ((W.drop i).foldl pass s).1) r → Ev (fun k => intrusionref05_least.l2 k W s.2 (i : Int) a s.1) r := by
  intro d
  induction d with
  | zero =>
    intro i s hd hi h0 h1 h
    have : i = W.length := by omega
    subst this
    refine Ev.step (fun k => ?_) h
    simp only [intrusionref05_least.l2]
    rw [if_neg (by omega)]
    simp
  | succ d ih =>
    intro i s hd hi h0 h1 h
    have hlt : i < W.length := by omega
    have wx := hW W[i] (List.getElem_mem hlt)
    rw [drop_cons W i hlt, List.foldl_cons] at h
    have hr : 0 ≤ (pass s W[i]).1 ∧ (pass s W[i]).1 ≤ 4294967296 := by
      unfold pass
      split
      · exact ⟨by have := wx.1; have := wx.2.1; simp; omega, wx.2.2⟩
      · exact ⟨h0, h1⟩
    refine Ev.step (fun k => ?_) (ih (i + 1) (pass s W[i]) (by omega) (by omega) hr.1 hr.2 h)
    simp only [intrusionref05_least.l2]
    rw [if_pos (by omega), if_pos (by omega), rd_at W i hlt, wrap_succ i (by omega), wrap_id (by omega) (by omega)]
    unfold pass
    by_cases c1 : W[i].f0 ≤ s.1 + 1
    · by_cases c2 : W[i].f1 > s.1
      · rw [if_pos c1, if_pos c2, if_pos ⟨c1, c2⟩]
      · rw [if_pos c1, if_neg c2, if_neg (fun h => c2 h.2)]
    · rw [if_neg c1, if_neg (fun h => c1 h.1)]
theorem ev_rest (a b : Int) (W : List Sn) (hl : W.length < 8796093022208) : ∀ (d i : Nat) (out : List Sn), W.length - i = d → i ≤ W.length → out.length ≤ i → Ev (fun k => intrusionref05_least.l3 k W out (i : Int) a b) (a, b, out ++ (W.drop i).filter (fun x => decide (b < x.f0))) := by
  intro d
  induction d with
  | zero =>
    intro i out hd hi ho
    have : i = W.length := by omega
    subst this
    refine Ev.step (f := fun _ => some (a, b, out)) (fun k => ?_) ?_
    · simp only [intrusionref05_least.l3]; rw [if_neg (by omega)]
    · simpa using Ev.now (a, b, out)
  | succ d ih =>
    intro i out hd hi ho
    have hlt : i < W.length := by omega
    rw [drop_cons W i hlt, List.filter_cons]
    by_cases hc : b < W[i].f0
    · rw [if_pos (by simpa using hc)]
      have h2 := ih (i + 1) (out ++ [W[i]]) (by omega) (by omega) (by simp; omega)
      rw [List.append_assoc] at h2
      refine Ev.step (fun k => ?_) h2
      simp only [intrusionref05_least.l3]
      rw [if_pos (by omega), if_pos (by omega), rd_at W i hlt, if_pos (by omega), if_pos (by omega), wrap_succ i (by omega)]
    · rw [if_neg (by simpa using hc)]
      refine Ev.step (fun k => ?_) (ih (i + 1) out (by omega) (by omega) (by omega))
      simp only [intrusionref05_least.l3]
      rw [if_pos (by omega), if_pos (by omega), rd_at W i hlt, if_neg (by omega), wrap_succ i (by omega)]
theorem count_lt {h h' : Int} (hlt : h < h') : ∀ (W : List Sn), (∃ x ∈ W, x.f1 = h') → (W.countP fun x => decide (h' < x.f1)) < (W.countP fun x => decide (h < x.f1))
  | [], hx => by simp at hx
  | y :: t, hx => by
    have hle : ∀ T : List Sn, (T.countP fun x => decide (h' < x.f1)) ≤ (T.countP fun x => decide (h < x.f1)) := fun T => List.countP_mono_left (fun x _ hp => by simp at hp ⊢; omega)
    rw [List.countP_cons, List.countP_cons]
    obtain ⟨x, hx, e⟩ := hx
    rcases List.mem_cons.1 hx with rfl | hx
    · have := hle t
      rw [if_neg (by simp; omega), if_pos (by simp; omega)]
      omega
    · have h1 := count_lt hlt t ⟨x, hx, e⟩
      by_cases c : h' < y.f1
      · rw [if_pos (by simpa using c), if_pos (by simp; omega)]
        omega
      · rw [if_neg (by simpa using c)]
        omega
theorem fix_spec (a : Int) (W : List Sn) (hl : W.length < 8796093022208) (hW : ∀ x ∈ W, WF x) : ∀ (c : Nat) (hi : Int), (W.countP fun x => decide (hi < x.f1)) = c → 0 ≤ hi → hi ≤ 4294967296 → (∀ n, a ≤ n → n ≤ hi → SM W n) →
    ∃ b, hi ≤ b ∧ b ≤ 4294967296 ∧ Ev (fun k => intrusionref05_least.l1 k W true a hi) (a, b, W.filter (fun x => decide (b < x.f0))) ∧ (∀ n, a ≤ n → n ≤ b → SM W n) ∧ ∀ x ∈ W, x.f0 ≤ b + 1 → x.f1 ≤ b := by
  intro c
  induction c using Nat.strongRecOn with
  | _ c ih =>
    intro hi hc h0 h1 hcov
    obtain ⟨p1, p2, p3, p4, p5, p6, p7⟩ := pass_spec a W hW W (hi, false) (fun _ h => h) h0 h1 hcov
    simp only at p1 p2 p3 p4 p5 p6 p7
    have hgo : ∀ {r : Int × Int × List Sn}, Ev (fun k => intrusionref05_least.l1 k W (W.foldl pass (hi, false)).2 a (W.foldl pass (hi, false)).1) r → Ev (fun k => intrusionref05_least.l1 k W true a hi) r := by
      intro r h
      have h2 := ev_pass a W hl hW W.length 0 (hi, false) (by omega) (by omega) h0 h1 (by simpa using h)
      refine Ev.step (fun k => ?_) h2
      simp only [intrusionref05_least.l1]
      rfl
    cases hb : (W.foldl pass (hi, false)).2 with
    | true =>
      have hlt : hi < (W.foldl pass (hi, false)).1 := by
        rcases p6 hb with h | h
        · simp at h
        · exact h
      have hex : ∃ x ∈ W, x.f1 = (W.foldl pass (hi, false)).1 := by
        rcases p5 with h | h
        · omega
        · exact h
      obtain ⟨b, b1, b2, b3, b4, b5⟩ := ih _ (by rw [← hc]; exact count_lt hlt W hex) (W.foldl pass (hi, false)).1 rfl (by omega) p2 p3
      refine ⟨b, by omega, b2, hgo ?_, b4, b5⟩
      rw [hb]
      exact b3
    | false =>
      obtain ⟨e1, e2⟩ := p4 hb
      refine ⟨hi, Int.le_refl _, h1, hgo ?_, hcov, fun x hx hle => ?_⟩
      · rw [hb, e1]
        have h3 := ev_rest a hi W hl W.length 0 [] (by omega) (by omega) (by simp)
        refine Ev.step (fun k => ?_) (by simpa using h3)
        simp only [intrusionref05_least.l1]
        rfl
      · have := e2 x hx
        omega
theorem least_spec (W : List Sn) (hl : W.length < 8796093022208) (hW : ∀ x ∈ W, WF x) (hne : 0 < W.length) :
    ∃ a b, (∃ x ∈ W, x.f0 = a) ∧ a ≤ b ∧ b ≤ 4294967296 ∧ Ev (fun k => intrusionref05_least.f k W) (a, b, W.filter (fun x => decide (b < x.f0))) ∧ (∀ n, a ≤ n → n ≤ b → SM W n) ∧ (∀ x ∈ W, a ≤ x.f0) ∧ ∀ x ∈ W, x.f0 ≤ b + 1 → x.f1 ≤ b := by
  obtain ⟨m1, m2, m3⟩ := min_spec W W W[0] (fun _ h => h) (List.getElem_mem hne)
  have wm := hW _ m1
  obtain ⟨b, b1, b2, b3, b4, b5⟩ := fix_spec (W.foldl minS W[0]).f0 W hl hW _ (W.foldl minS W[0]).f1 rfl (by have := wm.1; have := wm.2.1; omega) wm.2.2 (fun n n1 n2 => (sm_iff W n).2 ⟨_, m1, n1, n2⟩)
  refine ⟨(W.foldl minS W[0]).f0, b, ⟨_, m1, rfl⟩, by have := wm.2.1; omega, b2, ?_, b4, m3, b5⟩
  have h := ev_min W hl W.length 0 W[0] (by omega) (by omega) (by simpa using b3)
  refine Ev.congr (fun k => ?_) h
  unfold intrusionref05_least.f
  rw [if_pos (by omega), show rd_T52 W 0 = W[0] from rd_at W 0 hne]
  rfl
theorem rn_spec : ∀ (m : Nat) (W : List Sn), W.length = m → m < 8796093022208 → (∀ x ∈ W, WF x) →
    ∃ r : List Sn, (∀ out : List Sn, out.length + m < 8796093022208 → Ev (fun k => intrusionref05_Normal.l1 k W out) (out ++ r)) ∧ r.length ≤ m ∧ (∀ p, (∀ x ∈ W, p ≤ x.f0) → CanFrom p (r.map sp)) ∧ (∀ x ∈ r, x.f1 ≤ 4294967296) ∧ ∀ n, SM r n ↔ SM W n := by
  intro m
  induction m using Nat.strongRecOn with
  | _ m ih =>
    intro W hm hl hW
    by_cases hne : 0 < W.length
    · obtain ⟨a, b, ⟨x0, hx0, e0⟩, hab, hb, hev, hcov, hmin, hclo⟩ := least_spec W (by omega) hW hne
      have hlen : (W.filter (fun x => decide (b < x.f0))).length < W.length := by
        refine Nat.lt_of_le_of_ne (List.length_filter_le _ _) (fun e => ?_)
        have := List.length_filter_eq_length_iff.1 e x0 hx0
        simp at this
        omega
      obtain ⟨r, r1, r2, r3, r4, r5⟩ := ih _ (by omega) (W.filter (fun x => decide (b < x.f0))) rfl (by omega) (fun x hx => hW x ((List.mem_filter.1 hx).1))
      have hrest : ∀ x ∈ W.filter (fun x => decide (b < x.f0)), b + 2 ≤ x.f0 := by
        intro x hx
        obtain ⟨h1, h2⟩ := List.mem_filter.1 hx
        simp at h2
        have := (hW x h1).2.1
        have := hclo x h1
        omega
      refine ⟨(⟨a, b⟩ : Sn) :: r, fun out ho => ?_, by simp; omega, fun p hp => ⟨?_, hab, r3 (b + 2) hrest⟩, ?_, fun n => ?_⟩
      · have h2 := r1 (out ++ [(⟨a, b⟩ : Sn)]) (by simp; omega)
        rw [List.append_assoc] at h2
        refine Ev.step (f := fun k => (intrusionref05_least.f k W).bind fun bt => if out.length < 8796093022208 then intrusionref05_Normal.l1 k bt.2.2 (out ++ [(⟨bt.1, bt.2.1⟩ : Sn)]) else none) (fun k => ?_) (Ev.bind hev ?_)
        · simp only [intrusionref05_Normal.l1]
          rw [if_pos (by omega)]
        · refine Ev.congr (fun k => ?_) h2
          rw [if_pos (by omega)]
      · rw [← e0]; exact hp x0 hx0
      · intro x hx
        rcases List.mem_cons.1 hx with rfl | hx
        · exact hb
        · exact r4 x hx
      · rw [sm_cons, r5 n]
        constructor
        · rintro (h | h)
          · exact hcov n h.1 h.2
          · obtain ⟨x, hx, h⟩ := (sm_iff _ n).1 h
            exact (sm_iff _ n).2 ⟨x, (List.mem_filter.1 hx).1, h⟩
        · intro h
          obtain ⟨x, hx, h1, h2⟩ := (sm_iff _ n).1 h
          by_cases hc : x.f0 ≤ b + 1
          · exact .inl ⟨by have := hmin x hx; simp; omega, by have := hclo x hx hc; simp; omega⟩
          · exact .inr ((sm_iff _ n).2 ⟨x, List.mem_filter.2 ⟨hx, by simp; omega⟩, h1, h2⟩)
    · have h0 : W = [] := List.eq_nil_of_length_eq_zero (by omega)
      subst h0
      refine ⟨[], fun out ho => ?_, by simp, fun p hp => trivial, by simp, fun n => Iff.rfl⟩
      rw [List.append_nil]
      refine Ev.step (f := fun _ => some out) (fun k => ?_) (Ev.now _)
      simp only [intrusionref05_Normal.l1]
      rw [if_neg (by simp)]
theorem ev_rn0 {r : List Sn} (L : List Sn) (hl : L.length < 8796093022208) : ∀ (d i : Nat) (out : List Sn), L.length - i = d → i ≤ L.length → out.length ≤ i → Ev (fun k => intrusionref05_Normal.l1 k (out ++ clipped 0 4294967296 (L.drop i)) []) r → Ev (fun k => intrusionref05_Normal.l0 k L out (i : Int)) r := by
  intro d
  induction d with
  | zero =>
    intro i out hd hi ho h
    have : i = L.length := by omega
    subst this
    refine Ev.step (fun k => ?_) h
    simp only [intrusionref05_Normal.l0]
    rw [if_neg (by omega)]
    simp [clipped]
  | succ d ih =>
    intro i out hd hi ho h
    have hlt : i < L.length := by omega
    rw [drop_cons L i hlt] at h
    unfold clipped at h
    rw [List.map_cons, List.filter_cons] at h
    by_cases hc : (clip 0 4294967296 L[i]).f0 ≤ (clip 0 4294967296 L[i]).f1
    · rw [if_pos (by simpa using hc)] at h
      refine Ev.step (fun k => ?_) (ih (i + 1) (out ++ [clip 0 4294967296 L[i]]) (by omega) (by omega) (by simp; omega) (by rw [List.append_assoc]; exact h))
      simp only [intrusionref05_Normal.l0]
      rw [if_pos (by omega), if_pos (by omega), rd_at L i hlt]
      unfold intrusionref05_cut.f
      simp only [Option.bind_some]
      rw [if_pos (show decide (mx L[i].f0 0 ≤ mn L[i].f1 4294967296) = true from decide_eq_true hc), if_pos (by omega), wrap_succ i (by omega)]
      rfl
    · rw [if_neg (by simpa using hc)] at h
      refine Ev.step (fun k => ?_) (ih (i + 1) out (by omega) (by omega) (by omega) h)
      simp only [intrusionref05_Normal.l0]
      rw [if_pos (by omega), if_pos (by omega), rd_at L i hlt]
      unfold intrusionref05_cut.f
      simp only [Option.bind_some]
      rw [if_neg (show ¬ decide (mx L[i].f0 0 ≤ mn L[i].f1 4294967296) = true from fun h => hc (of_decide_eq_true h)), wrap_succ i (by omega)]
theorem rnormal_spec (l : List Sn) (hl : l.length < 8796093022208) : ∃ r, Ev (fun k => intrusionref05_Normal.f k l) r ∧ Can (fun n => SM l n ∧ 0 ≤ n ∧ n ≤ 4294967296) r ∧ r.length ≤ l.length := by
  obtain ⟨c1, c2, c3⟩ := clipped_spec l
  obtain ⟨r, r1, r2, r3, r4, r5⟩ := rn_spec _ (clipped 0 4294967296 l) rfl (by omega) c2
  refine ⟨r, ?_, ⟨r3 0 (fun x hx => (c2 x hx).1), r4, fun n => (r5 n).trans (c3 n)⟩, by omega⟩
  have h := ev_rn0 l hl l.length 0 [] (by omega) (by omega) (by simp) (by simpa using r1 [] (by simp; omega))
  exact Ev.congr (fun k => rfl) h
end Go.Proofs.Ytcgfpffgiimgmaa.Q
end

section
namespace Go.Proofs.Ytcgfpffgiimgmaa.Q
open Go.RowKit Go.Proofs.YtcgfpffgiimgmaaW.PrintWords Go.Proofs.YtcgfpffgiimgmaaW.PrintLast Go.Proofs.YtcgfpffgiimgmaaW.PrintMore
attribute [local go_sem] max2_int min2_int max_two min_two max_three min_three max_four min_four
set_option linter.unusedVariables false
set_option linter.unusedSimpArgs false
def intrusionref05_Valid.l0 : Nat → List (S52) → Int → Option (Bool)
  | 0, _, _ => none
  | k + 1, x0, x3 => if x3 < (x0.length : Int) then (if 0 ≤ x3 then (if ((rd_T52 x0 x3).f0) < 0 then (some false) else (if ((rd_T52 x0 x3).f1) < ((rd_T52 x0 x3).f0) then (some false) else (if ((rd_T52 x0 x3).f1) > 4294967296 then (some false) else (if x3 > 0 then (if 0 ≤ (wrap64 (x3 - 1)) then (if (wrap64 (x3 - 1)) < (x0.length : Int) then (if ((rd_T52 x0 x3).f0) < (wrap64 (((rd_T52 x0 (wrap64 (x3 - 1))).f1) + 2)) then (some false) else (intrusionref05_Valid.l0 k x0 (wrap64 (x3 + 1)))) else (none)) else (none)) else (intrusionref05_Valid.l0 k x0 (wrap64 (x3 + 1))))))) else (none)) else (some true)
def intrusionref05_Valid.f (k : Nat) (l0 : List (S52)) : Option (Bool) := intrusionref05_Valid.l0 k l0 0
theorem intrusionref05_Valid.mono_l : ∀ k, (∀ y0 y1, LeO (intrusionref05_Valid.l0 k y0 y1) (intrusionref05_Valid.l0 (k + 1) y0 y1))
  | 0 => fun _ _ r h => by simp [intrusionref05_Valid.l0] at h
  | k + 1 => by
    have ih0 := intrusionref05_Valid.mono_l k
    · intro y0 y1
      unfold intrusionref05_Valid.l0
      repeat' first
      | (with_reducible exact ih0 _ _)
      | (with_reducible exact LeO.refl _)
      | (with_reducible exact LeO.none _)
      | (with_reducible refine LeO.ite ?_ ?_)
      | (with_reducible refine LeO.bind ?_ (fun _ => ?_))
      | exact ih0 _ _
      | exact LeO.none _
      | refine LeO.ite ?_ ?_
      | refine LeO.bind ?_ (fun _ => ?_)
theorem intrusionref05_Valid.mono : ∀ a0 k, LeO (intrusionref05_Valid.f k a0) (intrusionref05_Valid.f (k + 1) a0) := by
  intro a0 k
  have ih0 := intrusionref05_Valid.mono_l k
  unfold intrusionref05_Valid.f
  repeat' first
      | (with_reducible exact ih0 _ _)
      | (with_reducible exact LeO.refl _)
      | (with_reducible exact LeO.none _)
      | (with_reducible refine LeO.ite ?_ ?_)
      | (with_reducible refine LeO.bind ?_ (fun _ => ?_))
      | exact ih0 _ _
      | exact LeO.none _
      | refine LeO.ite ?_ ?_
      | refine LeO.bind ?_ (fun _ => ?_)
end Go.Proofs.Ytcgfpffgiimgmaa.Q
end

section
namespace Go.Proofs.Ytcgfpffgiimgmaa.Q
open Go.RowKit Go.Proofs.YtcgfpffgiimgmaaW.PrintWords Go.Proofs.YtcgfpffgiimgmaaW.PrintLast Go.Proofs.YtcgfpffgiimgmaaW.PrintMore
attribute [local go_sem] max2_int min2_int max_two min_two max_three min_three max_four min_four
set_option linter.unusedVariables false
set_option linter.unusedSimpArgs false
def intrusionref05_Count.l0 : Nat → List (S52) → Int → Int → Option (Int)
  | 0, _, _, _ => none
  | k + 1, x3, x4, x5 => if x5 < (x3.length : Int) then (if 0 ≤ x5 then (intrusionref05_Count.l0 k x3 (wrap64 ((wrap64 ((wrap64 (x4 + ((rd_T52 x3 x5).f1))) - ((rd_T52 x3 x5).f0))) + 1)) (wrap64 (x5 + 1))) else (none)) else (some x4)
def intrusionref05_Count.f (k : Nat) (l0 : List (S52)) : Option (Int) := (intrusionref05_Normal.f k l0).bind fun t253 => (intrusionref05_Count.l0 k t253 0 0)
theorem intrusionref05_Count.mono_l : ∀ k, (∀ y0 y1 y2, LeO (intrusionref05_Count.l0 k y0 y1 y2) (intrusionref05_Count.l0 (k + 1) y0 y1 y2))
  | 0 => fun _ _ _ r h => by simp [intrusionref05_Count.l0] at h
  | k + 1 => by
    have ih0 := intrusionref05_Count.mono_l k
    · intro y0 y1 y2
      unfold intrusionref05_Count.l0
      repeat' first
      | (with_reducible exact ih0 _ _ _)
      | (with_reducible exact intrusionref05_Normal.mono _ _)
      | (with_reducible exact LeO.refl _)
      | (with_reducible exact LeO.none _)
      | (with_reducible refine LeO.ite ?_ ?_)
      | (with_reducible refine LeO.bind ?_ (fun _ => ?_))
      | exact ih0 _ _ _
      | exact intrusionref05_Normal.mono _ _
      | exact LeO.none _
      | refine LeO.ite ?_ ?_
      | refine LeO.bind ?_ (fun _ => ?_)
theorem intrusionref05_Count.mono : ∀ a0 k, LeO (intrusionref05_Count.f k a0) (intrusionref05_Count.f (k + 1) a0) := by
  intro a0 k
  have ih0 := intrusionref05_Count.mono_l k
  unfold intrusionref05_Count.f
  repeat' first
      | (with_reducible exact ih0 _ _ _)
      | (with_reducible exact intrusionref05_Normal.mono _ _)
      | (with_reducible exact LeO.refl _)
      | (with_reducible exact LeO.none _)
      | (with_reducible refine LeO.ite ?_ ?_)
      | (with_reducible refine LeO.bind ?_ (fun _ => ?_))
      | exact ih0 _ _ _
      | exact intrusionref05_Normal.mono _ _
      | exact LeO.none _
      | refine LeO.ite ?_ ?_
      | refine LeO.bind ?_ (fun _ => ?_)
end Go.Proofs.Ytcgfpffgiimgmaa.Q
end

section
namespace Go.Proofs.Ytcgfpffgiimgmaa.Q
open Go.RowKit Go.Proofs.YtcgfpffgiimgmaaW.PrintWords Go.Proofs.YtcgfpffgiimgmaaW.PrintLast Go.Proofs.YtcgfpffgiimgmaaW.PrintMore
attribute [local go_sem] max2_int min2_int max_two min_two max_three min_three max_four min_four
set_option linter.unusedVariables false
set_option linter.unusedSimpArgs false
mutual
def intrusionref05_Complement.l0 : Nat → Int → Int → List (S52) → List (S52) → Int → Option ((List (S52)))
  | 0, _, _, _, _, _ => none
  | k + 1, x1, x2, x7, x8, x9 => if x9 < (x7.length : Int) then (intrusionref05_Complement.j1 k x1 x2 x7 x8 x9 (decide (x1 ≤ x2))) else (intrusionref05_Complement.j1 k x1 x2 x7 x8 x9 false)
def intrusionref05_Complement.j1 : Nat → Int → Int → List (S52) → List (S52) → Int → Bool → Option ((List (S52)))
  | 0, _, _, _, _, _, _ => none
  | k + 1, x1, x2, x7, x8, x9, x26 => if x26 = true then (if 0 ≤ x9 then (if x9 < (x7.length : Int) then (if x1 ≤ (mn x2 (wrap64 (((rd_T52 x7 x9).f0) - 1))) then (if x8.length < 8796093022208 then (intrusionref05_Complement.l0 k (mx x1 (wrap64 (((rd_T52 x7 x9).f1) + 1))) x2 x7 (x8 ++ [(⟨x1, mn x2 (wrap64 (((rd_T52 x7 x9).f0) - 1))⟩ : S52)]) (wrap64 (x9 + 1))) else (none)) else (intrusionref05_Complement.l0 k (mx x1 (wrap64 (((rd_T52 x7 x9).f1) + 1))) x2 x7 x8 (wrap64 (x9 + 1)))) else (none)) else (none)) else (if x1 ≤ x2 then (if x8.length < 8796093022208 then (some (x8 ++ [(⟨x1, x2⟩ : S52)])) else (none)) else (some x8))
end
def intrusionref05_Complement.f (k : Nat) (l0 : List (S52)) (a1 : Int) (a2 : Int) : Option ((List (S52))) := (intrusionref05_Normal.f k l0).bind fun t272 => (intrusionref05_Complement.l0 k (mx a1 0) (mn a2 4294967296) t272 (([] : List (S52))) 0)
theorem intrusionref05_Complement.mono_l : ∀ k, (∀ y0 y1 y2 y3 y4, LeO (intrusionref05_Complement.l0 k y0 y1 y2 y3 y4) (intrusionref05_Complement.l0 (k + 1) y0 y1 y2 y3 y4)) ∧ (∀ y0 y1 y2 y3 y4 y5, LeO (intrusionref05_Complement.j1 k y0 y1 y2 y3 y4 y5) (intrusionref05_Complement.j1 (k + 1) y0 y1 y2 y3 y4 y5))
  | 0 => ⟨fun _ _ _ _ _ r h => by simp [intrusionref05_Complement.l0] at h, fun _ _ _ _ _ _ r h => by simp [intrusionref05_Complement.j1] at h⟩
  | k + 1 => by
    obtain ⟨ih0, ih1⟩ := intrusionref05_Complement.mono_l k
    refine ⟨?_, ?_⟩
    · intro y0 y1 y2 y3 y4
      unfold intrusionref05_Complement.l0
      repeat' first
      | (with_reducible exact ih0 _ _ _ _ _)
      | (with_reducible exact ih1 _ _ _ _ _ _)
      | (with_reducible exact intrusionref05_Normal.mono _ _)
      | (with_reducible exact LeO.refl _)
      | (with_reducible exact LeO.none _)
      | (with_reducible refine LeO.ite ?_ ?_)
      | (with_reducible refine LeO.bind ?_ (fun _ => ?_))
      | exact ih0 _ _ _ _ _
      | exact ih1 _ _ _ _ _ _
      | exact intrusionref05_Normal.mono _ _
      | exact LeO.none _
      | refine LeO.ite ?_ ?_
      | refine LeO.bind ?_ (fun _ => ?_)
    · intro y0 y1 y2 y3 y4 y5
      unfold intrusionref05_Complement.j1
      repeat' first
      | (with_reducible exact ih0 _ _ _ _ _)
      | (with_reducible exact ih1 _ _ _ _ _ _)
      | (with_reducible exact intrusionref05_Normal.mono _ _)
      | (with_reducible exact LeO.refl _)
      | (with_reducible exact LeO.none _)
      | (with_reducible refine LeO.ite ?_ ?_)
      | (with_reducible refine LeO.bind ?_ (fun _ => ?_))
      | exact ih0 _ _ _ _ _
      | exact ih1 _ _ _ _ _ _
      | exact intrusionref05_Normal.mono _ _
      | exact LeO.none _
      | refine LeO.ite ?_ ?_
      | refine LeO.bind ?_ (fun _ => ?_)
theorem intrusionref05_Complement.mono : ∀ a0 a1 a2 k, LeO (intrusionref05_Complement.f k a0 a1 a2) (intrusionref05_Complement.f (k + 1) a0 a1 a2) := by
  intro a0 a1 a2 k
  obtain ⟨ih0, ih1⟩ := intrusionref05_Complement.mono_l k
  unfold intrusionref05_Complement.f
  repeat' first
      | (with_reducible exact ih0 _ _ _ _ _)
      | (with_reducible exact ih1 _ _ _ _ _ _)
      | (with_reducible exact intrusionref05_Normal.mono _ _)
      | (with_reducible exact LeO.refl _)
      | (with_reducible exact LeO.none _)
      | (with_reducible refine LeO.ite ?_ ?_)
      | (with_reducible refine LeO.bind ?_ (fun _ => ?_))
      | exact ih0 _ _ _ _ _
      | exact ih1 _ _ _ _ _ _
      | exact intrusionref05_Normal.mono _ _
      | exact LeO.none _
      | refine LeO.ite ?_ ?_
      | refine LeO.bind ?_ (fun _ => ?_)
end Go.Proofs.Ytcgfpffgiimgmaa.Q
end

section
namespace Go.Proofs.Ytcgfpffgiimgmaa.Q
open Go.RowKit Go.Proofs.YtcgfpffgiimgmaaW.PrintWords Go.Proofs.YtcgfpffgiimgmaaW.PrintLast Go.Proofs.YtcgfpffgiimgmaaW.PrintMore
attribute [local go_sem] max2_int min2_int max_two min_two max_three min_three max_four min_four
set_option linter.unusedVariables false
set_option linter.unusedSimpArgs false
mutual
def intrusionref05_Intersect.l0 : Nat → List (S52) → List (S52) → List (S52) → Int → Option ((List (S52)))
  | 0, _, _, _, _ => none
  | k + 1, x5, x6, x7, x8 => if x8 < (x5.length : Int) then (intrusionref05_Intersect.l1 k x5 x6 x7 x8 0) else ((intrusionref05_Normal.f k x7).bind fun t312 => (some t312))
def intrusionref05_Intersect.l1 : Nat → List (S52) → List (S52) → List (S52) → Int → Int → Option ((List (S52)))
  | 0, _, _, _, _, _ => none
  | k + 1, x5, x6, x7, x8, x9 => if x9 < (x6.length : Int) then (if 0 ≤ x8 then (if x8 < (x5.length : Int) then (if 0 ≤ x9 then ((intrusionref05_cut.f ((rd_T52 x5 x8).f0) ((rd_T52 x5 x8).f1) ((rd_T52 x6 x9).f0) ((rd_T52 x6 x9).f1)).bind fun bt318 => (if bt318.2.2 = true then (if x7.length < 8796093022208 then (intrusionref05_Intersect.l1 k x5 x6 (x7 ++ [(⟨bt318.1, bt318.2.1⟩ : S52)]) x8 (wrap64 (x9 + 1))) else (none)) else (intrusionref05_Intersect.l1 k x5 x6 x7 x8 (wrap64 (x9 + 1))))) else (none)) else (none)) else (none)) else (intrusionref05_Intersect.l0 k x5 x6 x7 (wrap64 (x8 + 1)))
end
def intrusionref05_Intersect.f (k : Nat) (l0 : List (S52)) (l1 : List (S52)) : Option ((List (S52))) := (intrusionref05_Normal.f k l0).bind fun t303 => ((intrusionref05_Normal.f k l1).bind fun t306 => (intrusionref05_Intersect.l0 k t303 t306 (([] : List (S52))) 0))
theorem intrusionref05_Intersect.mono_l : ∀ k, (∀ y0 y1 y2 y3, LeO (intrusionref05_Intersect.l0 k y0 y1 y2 y3) (intrusionref05_Intersect.l0 (k + 1) y0 y1 y2 y3)) ∧ (∀ y0 y1 y2 y3 y4, LeO (intrusionref05_Intersect.l1 k y0 y1 y2 y3 y4) (intrusionref05_Intersect.l1 (k + 1) y0 y1 y2 y3 y4))
  | 0 => ⟨fun _ _ _ _ r h => by simp [intrusionref05_Intersect.l0] at h, fun _ _ _ _ _ r h => by simp [intrusionref05_Intersect.l1] at h⟩
  | k + 1 => by
    obtain ⟨ih0, ih1⟩ := intrusionref05_Intersect.mono_l k
    refine ⟨?_, ?_⟩
    · intro y0 y1 y2 y3
      unfold intrusionref05_Intersect.l0
      repeat' first
      | (with_reducible exact ih0 _ _ _ _)
      | (with_reducible exact ih1 _ _ _ _ _)
      | (with_reducible exact intrusionref05_Normal.mono _ _)
      | (with_reducible exact LeO.refl _)
      | (with_reducible exact LeO.none _)
      | (with_reducible refine LeO.ite ?_ ?_)
      | (with_reducible refine LeO.bind ?_ (fun _ => ?_))
      | exact ih0 _ _ _ _
      | exact ih1 _ _ _ _ _
      | exact intrusionref05_Normal.mono _ _
      | exact LeO.none _
      | refine LeO.ite ?_ ?_
      | refine LeO.bind ?_ (fun _ => ?_)
    · intro y0 y1 y2 y3 y4
      unfold intrusionref05_Intersect.l1
      repeat' first
      | (with_reducible exact ih0 _ _ _ _)
      | (with_reducible exact ih1 _ _ _ _ _)
      | (with_reducible exact intrusionref05_Normal.mono _ _)
      | (with_reducible exact LeO.refl _)
      | (with_reducible exact LeO.none _)
      | (with_reducible refine LeO.ite ?_ ?_)
      | (with_reducible refine LeO.bind ?_ (fun _ => ?_))
      | exact ih0 _ _ _ _
      | exact ih1 _ _ _ _ _
      | exact intrusionref05_Normal.mono _ _
      | exact LeO.none _
      | refine LeO.ite ?_ ?_
      | refine LeO.bind ?_ (fun _ => ?_)
theorem intrusionref05_Intersect.mono : ∀ a0 a1 k, LeO (intrusionref05_Intersect.f k a0 a1) (intrusionref05_Intersect.f (k + 1) a0 a1) := by
  intro a0 a1 k
  obtain ⟨ih0, ih1⟩ := intrusionref05_Intersect.mono_l k
  unfold intrusionref05_Intersect.f
  repeat' first
      | (with_reducible exact ih0 _ _ _ _)
      | (with_reducible exact ih1 _ _ _ _ _)
      | (with_reducible exact intrusionref05_Normal.mono _ _)
      | (with_reducible exact LeO.refl _)
      | (with_reducible exact LeO.none _)
      | (with_reducible refine LeO.ite ?_ ?_)
      | (with_reducible refine LeO.bind ?_ (fun _ => ?_))
      | exact ih0 _ _ _ _
      | exact ih1 _ _ _ _ _
      | exact intrusionref05_Normal.mono _ _
      | exact LeO.none _
      | refine LeO.ite ?_ ?_
      | refine LeO.bind ?_ (fun _ => ?_)
end Go.Proofs.Ytcgfpffgiimgmaa.Q
end

section
namespace Go.Proofs.Ytcgfpffgiimgmaa.Q
open Go.RowKit Go.Proofs.YtcgfpffgiimgmaaW.PrintWords Go.Proofs.YtcgfpffgiimgmaaW.PrintLast Go.Proofs.YtcgfpffgiimgmaaW.PrintMore
attribute [local go_sem] max2_int min2_int max_two min_two max_three min_three max_four min_four
set_option linter.unusedVariables false
set_option linter.unusedSimpArgs false
def intrusionref05_Minus.f (k : Nat) (l0 : List (S52)) (l1 : List (S52)) : Option ((List (S52))) := (intrusionref05_Complement.f k l1 0 4294967296).bind fun t325 => ((intrusionref05_Intersect.f k l0 t325).bind fun t328 => (some t328))
theorem intrusionref05_Minus.mono : ∀ a0 a1 k, LeO (intrusionref05_Minus.f k a0 a1) (intrusionref05_Minus.f (k + 1) a0 a1) := by
  intro a0 a1 k
  unfold intrusionref05_Minus.f
  repeat' first
      | (with_reducible exact intrusionref05_Complement.mono _ _ _ _)
      | (with_reducible exact intrusionref05_Intersect.mono _ _ _)
      | (with_reducible exact LeO.refl _)
      | (with_reducible exact LeO.none _)
      | (with_reducible refine LeO.ite ?_ ?_)
      | (with_reducible refine LeO.bind ?_ (fun _ => ?_))
      | exact intrusionref05_Complement.mono _ _ _ _
      | exact intrusionref05_Intersect.mono _ _ _
      | exact LeO.none _
      | refine LeO.ite ?_ ?_
      | refine LeO.bind ?_ (fun _ => ?_)
end Go.Proofs.Ytcgfpffgiimgmaa.Q
end

section
namespace Go.Proofs.Ytcgfpffgiimgmaa.Q
open Go.RowKit Go.Proofs.YtcgfpffgiimgmaaW.PrintWords Go.Proofs.YtcgfpffgiimgmaaW.PrintLast Go.Proofs.YtcgfpffgiimgmaaW.PrintMore
attribute [local go_sem] max2_int min2_int max_two min_two max_three min_three max_four min_four
set_option linter.unusedVariables false
set_option linter.unusedSimpArgs false
def intrusionref05_Subset.f (k : Nat) (l0 : List (S52)) (l1 : List (S52)) : Option (Bool) := (intrusionref05_Minus.f k l0 l1).bind fun t331 => (some ((t331.length : Int) == 0))
theorem intrusionref05_Subset.mono : ∀ a0 a1 k, LeO (intrusionref05_Subset.f k a0 a1) (intrusionref05_Subset.f (k + 1) a0 a1) := by
  intro a0 a1 k
  unfold intrusionref05_Subset.f
  repeat' first
      | (with_reducible exact intrusionref05_Minus.mono _ _ _)
      | (with_reducible exact LeO.refl _)
      | (with_reducible exact LeO.none _)
      | (with_reducible refine LeO.ite ?_ ?_)
      | (with_reducible refine LeO.bind ?_ (fun _ => ?_))
      | exact intrusionref05_Minus.mono _ _ _
      | exact LeO.none _
      | refine LeO.ite ?_ ?_
      | refine LeO.bind ?_ (fun _ => ?_)
end Go.Proofs.Ytcgfpffgiimgmaa.Q
end

section
namespace Go.Proofs.Ytcgfpffgiimgmaa.Q
open Go.RowKit Go.Proofs.YtcgfpffgiimgmaaW.PrintWords Go.Proofs.YtcgfpffgiimgmaaW.PrintLast Go.Proofs.YtcgfpffgiimgmaaW.PrintMore
attribute [local go_sem] max2_int min2_int max_two min_two max_three min_three max_four min_four
set_option linter.unusedVariables false
set_option linter.unusedSimpArgs false
def intrusionref05_Union.f (k : Nat) (l0 : List (S52)) (l1 : List (S52)) : Option ((List (S52))) := (some (([] : List (S52)) : List (S52))).bind fun y360 => (if y360.length + l0.length < 8796093022208 then ((some (y360 ++ l0 : List (S52))).bind fun y363 => (if y363.length + l1.length < 8796093022208 then ((intrusionref05_Normal.f k (y363 ++ l1)).bind fun t369 => (some t369)) else (none))) else (none))
theorem intrusionref05_Union.mono : ∀ a0 a1 k, LeO (intrusionref05_Union.f k a0 a1) (intrusionref05_Union.f (k + 1) a0 a1) := by
  intro a0 a1 k
  unfold intrusionref05_Union.f
  repeat' first
      | (with_reducible exact intrusionref05_Normal.mono _ _)
      | (with_reducible exact LeO.refl _)
      | (with_reducible exact LeO.none _)
      | (with_reducible refine LeO.ite ?_ ?_)
      | (with_reducible refine LeO.bind ?_ (fun _ => ?_))
      | exact intrusionref05_Normal.mono _ _
      | exact LeO.none _
      | refine LeO.ite ?_ ?_
      | refine LeO.bind ?_ (fun _ => ?_)
end Go.Proofs.Ytcgfpffgiimgmaa.Q
end

section
namespace Go.Proofs.Ytcgfpffgiimgmaa.Q
open Go.RowKit Go.Proofs.YtcgfpffgiimgmaaW.PrintWords Go.Proofs.YtcgfpffgiimgmaaW.PrintLast Go.Proofs.YtcgfpffgiimgmaaW.PrintMore
attribute [local go_sem] max2_int min2_int max_two min_two max_three min_three max_four min_four
set_option linter.unusedVariables false
set_option linter.unusedSimpArgs false
mutual
def intrusionref05_Contains.j0 : Nat → List (S52) → Int → Bool → Option (Bool)
  | 0, _, _, _ => none
  | k + 1, x0, x1, x11 => if x11 = true then (some false) else (intrusionref05_Contains.l0 k x0 x1 0)
def intrusionref05_Contains.l0 : Nat → List (S52) → Int → Int → Option (Bool)
  | 0, _, _, _ => none
  | k + 1, x0, x1, x5 => if x5 < (x0.length : Int) then (if 0 ≤ x5 then (if ((rd_T52 x0 x5).f0) ≤ x1 then (if x1 ≤ ((rd_T52 x0 x5).f1) then (some true) else (intrusionref05_Contains.l0 k x0 x1 (wrap64 (x5 + 1)))) else (intrusionref05_Contains.l0 k x0 x1 (wrap64 (x5 + 1)))) else (none)) else (some false)
end
def intrusionref05_Contains.f (k : Nat) (l0 : List (S52)) (a1 : Int) : Option (Bool) := if a1 < 0 then (intrusionref05_Contains.j0 k l0 a1 true) else (intrusionref05_Contains.j0 k l0 a1 (decide (a1 > 4294967296)))
theorem intrusionref05_Contains.mono_l : ∀ k, (∀ y0 y1 y2, LeO (intrusionref05_Contains.j0 k y0 y1 y2) (intrusionref05_Contains.j0 (k + 1) y0 y1 y2)) ∧ (∀ y0 y1 y2, LeO (intrusionref05_Contains.l0 k y0 y1 y2) (intrusionref05_Contains.l0 (k + 1) y0 y1 y2))
  | 0 => ⟨fun _ _ _ r h => by simp [intrusionref05_Contains.j0] at h, fun _ _ _ r h => by simp [intrusionref05_Contains.l0] at h⟩
  | k + 1 => by
    obtain ⟨ih0, ih1⟩ := intrusionref05_Contains.mono_l k
    refine ⟨?_, ?_⟩
    · intro y0 y1 y2
      unfold intrusionref05_Contains.j0
      repeat' first
      | (with_reducible exact ih0 _ _ _)
      | (with_reducible exact ih1 _ _ _)
      | (with_reducible exact LeO.refl _)
      | (with_reducible exact LeO.none _)
      | (with_reducible refine LeO.ite ?_ ?_)
      | (with_reducible refine LeO.bind ?_ (fun _ => ?_))
      | exact ih0 _ _ _
      | exact ih1 _ _ _
      | exact LeO.none _
      | refine LeO.ite ?_ ?_
      | refine LeO.bind ?_ (fun _ => ?_)
    · intro y0 y1 y2
      unfold intrusionref05_Contains.l0
      repeat' first
      | (with_reducible exact ih0 _ _ _)
      | (with_reducible exact ih1 _ _ _)
      | (with_reducible exact LeO.refl _)
      | (with_reducible exact LeO.none _)
      | (with_reducible refine LeO.ite ?_ ?_)
      | (with_reducible refine LeO.bind ?_ (fun _ => ?_))
      | exact ih0 _ _ _
      | exact ih1 _ _ _
      | exact LeO.none _
      | refine LeO.ite ?_ ?_
      | refine LeO.bind ?_ (fun _ => ?_)
theorem intrusionref05_Contains.mono : ∀ a0 a1 k, LeO (intrusionref05_Contains.f k a0 a1) (intrusionref05_Contains.f (k + 1) a0 a1) := by
  intro a0 a1 k
  obtain ⟨ih0, ih1⟩ := intrusionref05_Contains.mono_l k
  unfold intrusionref05_Contains.f
  repeat' first
      | (with_reducible exact ih0 _ _ _)
      | (with_reducible exact ih1 _ _ _)
      | (with_reducible exact LeO.refl _)
      | (with_reducible exact LeO.none _)
      | (with_reducible refine LeO.ite ?_ ?_)
      | (with_reducible refine LeO.bind ?_ (fun _ => ?_))
      | exact ih0 _ _ _
      | exact ih1 _ _ _
      | exact LeO.none _
      | refine LeO.ite ?_ ?_
      | refine LeO.bind ?_ (fun _ => ?_)
end Go.Proofs.Ytcgfpffgiimgmaa.Q
end

section
set_option linter.unusedVariables false
set_option linter.unusedSimpArgs false
namespace Go.Proofs.Ytcgfpffgiimgmaa.Q
open Go.RowKit Go.Proofs.YtcgfpffgiimgmaaW.PrintWords Go.Proofs.YtcgfpffgiimgmaaW.PrintLast Go.Proofs.YtcgfpffgiimgmaaW.PrintMore Go.Proofs.Ytcgfpffgiimgmaa.Canon
def total : List Sn → Int
  | [] => 0
  | x :: t => (x.f1 - x.f0 + 1) + total t
theorem total_le : ∀ (l : List Sn) (lo : Int), CanFrom lo (l.map sp) → (∀ x ∈ l, x.f1 ≤ 4294967296) → 0 ≤ total l ∧ (l = [] ∨ total l ≤ 4294967297 - lo)
  | [], _, _, _ => ⟨Int.le_refl _, .inl rfl⟩
  | x :: t, lo, c, h => by
    obtain ⟨c1, c2, c3⟩ := c
    have hx := h x (List.mem_cons_self ..)
    obtain ⟨i1, i2⟩ := total_le t _ c3 (fun z hz => h z (List.mem_cons_of_mem _ hz))
    simp only [sp] at c1 c2 i2
    refine ⟨by simp only [total]; omega, .inr ?_⟩
    rcases i2 with rfl | i2
    · simp only [total]; omega
    · simp only [total]; omega
theorem tot_split (l : List Sn) (i : Nat) (h : i < l.length) : total (l.drop i) = (l[i].f1 - l[i].f0 + 1) + total (l.drop (i + 1)) := by rw [drop_cons l i h]; rfl
theorem ev_count (L : List Sn) (hl : L.length < 8796093022208) (hw : ∀ x ∈ L, WF x) : ∀ (d i : Nat) (c : Int), L.length - i = d → i ≤ L.length → 0 ≤ c → c + total (L.drop i) ≤ 4294967297 → Ev (fun k => interval_Count.l0 k c L (L.length : Int) (i : Int)) (c + total (L.drop i)) := by
  intro d
  induction d with
  | zero =>
    intro i c hd hi h0 h1
    have : i = L.length := by omega
    subst this
    refine Ev.step (f := fun _ => some c) (fun k => ?_) ?_
    · simp only [interval_Count.l0]; rw [if_neg (by omega)]
    · simpa [total] using Ev.now c
  | succ d ih =>
    intro i c hd hi h0 h1
    have hlt : i < L.length := by omega
    have wx := hw L[i] (List.getElem_mem hlt)
    obtain ⟨w1, w2, w3⟩ := wx
    have hn : ∀ l : List Sn, (∀ x ∈ l, WF x) → 0 ≤ total l := by
      intro l
      induction l with
      | nil => intro _; exact Int.le_refl _
      | cons y t ih => intro h; have := ih (fun z hz => h z (List.mem_cons_of_mem _ hz)); have := (h y (List.mem_cons_self ..)).2.1; simp only [total]; omega
    have hn2 := hn (L.drop (i + 1)) (fun x hx => hw x (List.mem_of_mem_drop hx))
    rw [tot_split L i hlt] at h1 ⊢
    have h2 := ih (i + 1) (c + (L[i].f1 - L[i].f0 + 1)) (by omega) (by omega) (by omega) (by omega)
    rw [show c + (L[i].f1 - L[i].f0 + 1 + total (L.drop (i + 1))) = c + (L[i].f1 - L[i].f0 + 1) + total (L.drop (i + 1)) from by omega]
    refine Ev.step (fun k => ?_) h2
    simp only [interval_Count.l0]
    rw [if_pos (by omega), if_pos (by omega), if_pos (by omega), rd_at L i hlt, wrap_succ i (by omega), wrap_id (x := L[i].f1 - L[i].f0) (by omega) (by omega), wrap_id (x := L[i].f1 - L[i].f0 + 1) (by omega) (by omega), wrap_id (by omega) (by omega)]
theorem Can.total {P : Int → Prop} {r : List Sn} (h : Can P r) : 0 ≤ total r ∧ total r ≤ 4294967297 := by
  obtain ⟨h1, h2⟩ := total_le r 0 h.1 h.2.1
  rcases h2 with rfl | h2
  · exact ⟨h1, by simp [Q.total]⟩
  · exact ⟨h1, by omega⟩
theorem count_spec (l : List Sn) (hl : l.length < 8796093022208) : ∃ r, Can (fun n => SM l n ∧ 0 ≤ n ∧ n ≤ 4294967296) r ∧ Ev (fun k => interval_Count.f k l) (total r) ∧ Ev (fun k => interval_Normal.f k l) r ∧ r.length ≤ l.length := by
  obtain ⟨r, h1, h2, h3⟩ := normal_spec l hl
  refine ⟨r, h2, ?_, h1, h3⟩
  have h4 := ev_count r (by omega) h2.wf r.length 0 0 (by omega) (by omega) (by omega) (by simpa using h2.total.2)
  exact Ev.congr (fun k => rfl) (Ev.bind h1 (by simpa using h4))
def okAt (L : List Sn) (i : Nat) : Bool := if h : i < L.length then decide (0 ≤ L[i].f0) && (decide (L[i].f0 ≤ L[i].f1) && (decide (L[i].f1 ≤ 4294967296) && (if h0 : 0 < i then decide ((L[i - 1]'(by omega)).f1 + 1 < L[i].f0) else true))) else true
def okAll (L : List Sn) : Bool := (List.range L.length).all (okAt L)
theorem ok_from (L : List Sn) : ∀ (d i : Nat), L.length - i = d → i ≤ L.length → (List.range' i (L.length - i)).all (okAt L) = if i < L.length then okAt L i && (List.range' (i + 1) (L.length - (i + 1))).all (okAt L) else true := by
  intro d i hd hi
  by_cases h : i < L.length
  · rw [if_pos h, show L.length - i = (L.length - (i + 1)) + 1 from by omega, List.range'_succ, List.all_cons]
  · rw [if_neg h, show L.length - i = 0 from by omega]
    rfl
theorem ev_valid (L : List Sn) (hl : L.length < 8796093022208) (hq : ∀ x ∈ L, -9223372036854775808 ≤ x.f0 ∧ x.f1 ≤ 9223372036854775807) : ∀ (d i : Nat), L.length - i = d → i ≤ L.length → (∀ j (hj : j < L.length), j < i → okAt L j = true) →
    Ev (fun k => interval_Valid.l0 k L L (L.length : Int) (i : Int)) ((List.range' i (L.length - i)).all (okAt L)) ∧ Ev (fun k => intrusionref05_Valid.l0 k L (i : Int)) ((List.range' i (L.length - i)).all (okAt L)) := by
  intro d
  induction d with
  | zero =>
    intro i hd hi _
    have : i = L.length := by omega
    subst this
    constructor
    · refine Ev.step (f := fun _ => some true) (fun k => ?_) ?_
      · simp only [interval_Valid.l0]; rw [if_neg (by omega)]
      · simpa using Ev.now true
    · refine Ev.step (f := fun _ => some true) (fun k => ?_) ?_
      · simp only [intrusionref05_Valid.l0]; rw [if_neg (by omega)]
      · simpa using Ev.now true
  | succ d ih =>
    intro i hd hi hprev
    have hlt : i < L.length := by omega
    have hx := hq L[i] (List.getElem_mem hlt)
    rw [ok_from L (d + 1) i hd hi, if_pos hlt]
    have key : ∀ b : Bool, okAt L i = b → (b = true → Ev (fun k => interval_Valid.l0 k L L (L.length : Int) ((i + 1 : Nat) : Int)) ((List.range' (i + 1) (L.length - (i + 1))).all (okAt L)) ∧ Ev (fun k => intrusionref05_Valid.l0 k L ((i + 1 : Nat) : Int)) ((List.range' (i + 1) (L.length - (i + 1))).all (okAt L))) := fun b hb hbt => ih (i + 1) (by omega) (by omega) (fun j hj hji => by
      by_cases e : j = i
      · subst e; rw [hb, hbt]
      · exact hprev j hj (by omega))
    have hdef : okAt L i = (decide (0 ≤ L[i].f0) && (decide (L[i].f0 ≤ L[i].f1) && (decide (L[i].f1 ≤ 4294967296) && (if h0 : 0 < i then decide ((L[i - 1]'(by omega)).f1 + 1 < L[i].f0) else true)))) := by unfold okAt; rw [dif_pos hlt]
    by_cases c1 : 0 ≤ L[i].f0
    · by_cases c2 : L[i].f0 ≤ L[i].f1
      · by_cases c3 : L[i].f1 ≤ 4294967296
        · by_cases c4 : 0 < i
          · have hp := hprev (i - 1) (by omega) (by omega)
            have hp2 : (L[i - 1]'(by omega)).f1 ≤ 4294967296 ∧ 0 ≤ (L[i - 1]'(by omega)).f1 := by
              unfold okAt at hp
              rw [dif_pos (by omega)] at hp
              simp only [Bool.and_eq_true, decide_eq_true_eq] at hp
              exact ⟨hp.2.2.1, by have := hp.1; have := hp.2.1; omega⟩
            have hi1 : wrap64 ((i : Int) - 1) = ((i - 1 : Nat) : Int) := by rw [wrap_id (by omega) (by omega)]; omega
            by_cases c5 : (L[i - 1]'(by omega)).f1 + 1 < L[i].f0
            · have hb : okAt L i = true := by rw [hdef]; simp [c1, c2, c3, c4, c5]
              obtain ⟨e1, e2⟩ := key true hb rfl
              rw [hb, Bool.true_and]
              constructor
              · refine Ev.step (fun k => ?_) e1
                simp only [interval_Valid.l0]
                rw [if_pos (by omega), if_pos (by omega), if_pos (by omega), rd_at L i hlt, if_neg (by omega), if_neg (by omega), if_neg (by omega), if_pos (by omega), hi1, if_pos (by omega), if_pos (by omega), rd_at L (i - 1) (by omega), wrap_id (by omega) (by omega), if_neg (by omega), wrap_succ i (by omega)]
              · refine Ev.step (fun k => ?_) e2
                simp only [intrusionref05_Valid.l0]
                rw [if_pos (by omega), if_pos (by omega), rd_at L i hlt, if_neg (by omega), if_neg (by omega), if_neg (by omega), if_pos (by omega), hi1, if_pos (by omega), if_pos (by omega), rd_at L (i - 1) (by omega), wrap_id (x := (L[i - 1]'(by omega)).f1 + 2) (by omega) (by omega), if_neg (by omega), wrap_succ i (by omega)]
            · have hb : okAt L i = false := by rw [hdef]; simp [c1, c2, c3, c4, c5]
              rw [hb, Bool.false_and]
              constructor
              · refine Ev.step (fun k => ?_) (Ev.now false)
                simp only [interval_Valid.l0]
                rw [if_pos (by omega), if_pos (by omega), if_pos (by omega), rd_at L i hlt, if_neg (by omega), if_neg (by omega), if_neg (by omega), if_pos (by omega), hi1, if_pos (by omega), if_pos (by omega), rd_at L (i - 1) (by omega), wrap_id (by omega) (by omega), if_pos (by omega)]
              · refine Ev.step (fun k => ?_) (Ev.now false)
                simp only [intrusionref05_Valid.l0]
                rw [if_pos (by omega), if_pos (by omega), rd_at L i hlt, if_neg (by omega), if_neg (by omega), if_neg (by omega), if_pos (by omega), hi1, if_pos (by omega), if_pos (by omega), rd_at L (i - 1) (by omega), wrap_id (x := (L[i - 1]'(by omega)).f1 + 2) (by omega) (by omega), if_pos (by omega)]
          · have hb : okAt L i = true := by rw [hdef]; simp [c1, c2, c3, c4]
            obtain ⟨e1, e2⟩ := key true hb rfl
            rw [hb, Bool.true_and]
            constructor
            · refine Ev.step (fun k => ?_) e1
              simp only [interval_Valid.l0]
              rw [if_pos (by omega), if_pos (by omega), if_pos (by omega), rd_at L i hlt, if_neg (by omega), if_neg (by omega), if_neg (by omega), if_neg (by omega), wrap_succ i (by omega)]
            · refine Ev.step (fun k => ?_) e2
              simp only [intrusionref05_Valid.l0]
              rw [if_pos (by omega), if_pos (by omega), rd_at L i hlt, if_neg (by omega), if_neg (by omega), if_neg (by omega), if_neg (by omega), wrap_succ i (by omega)]
        · have hb : okAt L i = false := by rw [hdef]; simp [c1, c2, c3]
          rw [hb, Bool.false_and]
          constructor
          · refine Ev.step (fun k => ?_) (Ev.now false)
            simp only [interval_Valid.l0]
            rw [if_pos (by omega), if_pos (by omega), if_pos (by omega), rd_at L i hlt, if_neg (by omega), if_neg (by omega), if_pos (by omega)]
          · refine Ev.step (fun k => ?_) (Ev.now false)
            simp only [intrusionref05_Valid.l0]
            rw [if_pos (by omega), if_pos (by omega), rd_at L i hlt, if_neg (by omega), if_neg (by omega), if_pos (by omega)]
      · have hb : okAt L i = false := by rw [hdef]; simp [c1, c2]
        rw [hb, Bool.false_and]
        constructor
        · refine Ev.step (fun k => ?_) (Ev.now false)
          simp only [interval_Valid.l0]
          rw [if_pos (by omega), if_pos (by omega), if_pos (by omega), rd_at L i hlt, if_neg (by omega), if_pos (by omega)]
        · refine Ev.step (fun k => ?_) (Ev.now false)
          simp only [intrusionref05_Valid.l0]
          rw [if_pos (by omega), if_pos (by omega), rd_at L i hlt, if_neg (by omega), if_pos (by omega)]
    · have hb : okAt L i = false := by rw [hdef]; simp [c1]
      rw [hb, Bool.false_and]
      constructor
      · refine Ev.step (fun k => ?_) (Ev.now false)
        simp only [interval_Valid.l0]
        rw [if_pos (by omega), if_pos (by omega), if_pos (by omega), rd_at L i hlt, if_pos (by omega)]
      · refine Ev.step (fun k => ?_) (Ev.now false)
        simp only [intrusionref05_Valid.l0]
        rw [if_pos (by omega), if_pos (by omega), rd_at L i hlt, if_pos (by omega)]
theorem valid_ev (L : List Sn) (hl : L.length < 8796093022208) (hq : ∀ x ∈ L, -9223372036854775808 ≤ x.f0 ∧ x.f1 ≤ 9223372036854775807) : Ev (fun k => interval_Valid.f k L) (okAll L) ∧ Ev (fun k => intrusionref05_Valid.f k L) (okAll L) := by
  have h := ev_valid L hl hq L.length 0 (by omega) (by omega) (by simp)
  have e : (List.range' 0 (L.length - 0)).all (okAt L) = okAll L := by unfold okAll; rw [Nat.sub_zero, List.range_eq_range']
  rw [e] at h
  exact ⟨Ev.congr (fun k => rfl) h.1, Ev.congr (fun k => rfl) h.2⟩
theorem can_of_ok (L : List Sn) : ∀ (d i : Nat) (lo : Int), L.length - i = d → i ≤ L.length → (∀ j, i ≤ j → j < L.length → okAt L j = true) → (i = 0 → lo = 0) → (∀ h : 0 < i, ∀ h2 : i ≤ L.length, lo = (L[i - 1]'(by omega)).f1 + 2) → CanFrom lo ((L.drop i).map sp) := by
  intro d
  induction d with
  | zero =>
    intro i lo hd hi _ _ _
    rw [List.drop_eq_nil_of_le (by omega)]
    trivial
  | succ d ih =>
    intro i lo hd hi hok h0 h1
    have hlt : i < L.length := by omega
    have hb := hok i (Nat.le_refl _) hlt
    unfold okAt at hb
    rw [dif_pos hlt] at hb
    simp only [Bool.and_eq_true, decide_eq_true_eq] at hb
    obtain ⟨b1, b2, b3, b4⟩ := hb
    rw [drop_cons L i hlt, List.map_cons]
    refine ⟨?_, b2, ih (i + 1) _ (by omega) (by omega) (fun j hj hjl => hok j (by omega) hjl) (by omega) (fun _ _ => by simp [sp])⟩
    by_cases c : 0 < i
    · rw [dif_pos c] at b4
      simp at b4
      rw [h1 c (by omega)]
      simp only [sp]
      omega
    · rw [h0 (by omega)]; exact b1
theorem ok_can {L : List Sn} (h : okAll L = true) : Can (SM L) L := by
  unfold okAll at h
  rw [List.all_eq_true] at h
  have hok : ∀ j, j < L.length → okAt L j = true := fun j hj => h j (List.mem_range.2 hj)
  refine ⟨by simpa using can_of_ok L L.length 0 0 (by omega) (by omega) (fun j _ hj => hok j hj) (fun _ => rfl) (by omega), fun x hx => ?_, fun n => Iff.rfl⟩
  obtain ⟨j, hj, rfl⟩ := List.getElem_of_mem hx
  have hb := hok j hj
  unfold okAt at hb
  rw [dif_pos hj] at hb
  simp only [Bool.and_eq_true, decide_eq_true_eq] at hb
  exact hb.2.2.1
theorem can_ok {P : Int → Prop} {L : List Sn} (h : Can P L) : okAll L = true := by
  unfold okAll
  rw [List.all_eq_true]
  intro j hj
  have hj := List.mem_range.1 hj
  have hw := h.wf L[j] (List.getElem_mem hj)
  unfold okAt
  rw [dif_pos hj]
  simp only [Bool.and_eq_true, decide_eq_true_eq]
  refine ⟨hw.1, hw.2.1, hw.2.2, ?_⟩
  by_cases c : 0 < j
  · rw [dif_pos c]
    have hs : L = L.take j ++ L.drop j := (List.take_append_drop j L).symm
    have hc := h.1
    rw [hs, List.map_append, can_append] at hc
    have h1 := hc.2.1 (sp (L[j - 1]'(by omega))) (List.mem_map.2 ⟨_, by rw [List.mem_take_iff_getElem]; exact ⟨j - 1, by omega, rfl⟩, rfl⟩) (sp L[j]) (List.mem_map.2 ⟨_, by rw [drop_cons L j hj]; exact List.mem_cons_self .., rfl⟩)
    simpa [sp] using h1
  · rw [dif_neg c]
end Go.Proofs.Ytcgfpffgiimgmaa.Q
end

section
set_option linter.unusedVariables false
set_option linter.unusedSimpArgs false
namespace Go.Proofs.Ytcgfpffgiimgmaa.Q
open Go.RowKit Go.Proofs.YtcgfpffgiimgmaaW.PrintWords Go.Proofs.YtcgfpffgiimgmaaW.PrintLast Go.Proofs.YtcgfpffgiimgmaaW.PrintMore Go.Proofs.Ytcgfpffgiimgmaa.Canon
theorem sm_ge {l : List Sn} {lo n : Int} (c : CanFrom lo (l.map sp)) (h : SM l n) : lo ≤ n := c.ge h
theorem mx_spec (a b : Int) : a ≤ mx a b ∧ b ≤ mx a b ∧ (mx a b = a ∨ mx a b = b) := by unfold mx; split <;> omega
theorem mn_spec (a b : Int) : mn a b ≤ a ∧ mn a b ≤ b ∧ (mn a b = a ∨ mn a b = b) := by unfold mn; split <;> omega
theorem compl_fold (lo hi : Int) (hlo : 0 ≤ lo) (hhi : hi ≤ 4294967296) : ∀ (t : List Sn) (p nx : Int) (out : List Sn), CanFrom p (t.map sp) → 0 ≤ p → (∀ x ∈ t, x.f1 ≤ 4294967296) → lo ≤ nx → (nx = lo ∨ nx ≤ p) →
    ∃ r, (let s := t.foldl (complStep lo hi) (nx, out); addTo s.2 s.1 hi) = out ++ r ∧ CanFrom nx (r.map sp) ∧ (∀ x ∈ r, x.f1 ≤ 4294967296) ∧ r.length ≤ t.length + 1 ∧ ∀ n, SM r n ↔ nx ≤ n ∧ n ≤ hi ∧ ¬ SM t n
  | [], p, nx, out, _, _, _, _, _ => by
    by_cases h : nx ≤ hi
    · refine ⟨[(⟨nx, hi⟩ : Sn)], by simp [addTo, h], ⟨Int.le_refl _, h, trivial⟩, by simpa using hhi, by simp, fun n => ?_⟩
      rw [sm_cons, sm_nil]
      simp [sm_nil]
    · refine ⟨[], by simp [addTo, h], trivial, by simp, by simp, fun n => ?_⟩
      rw [sm_nil]
      constructor
      · exact False.elim
      · rintro ⟨h1, h2, _⟩; omega
  | x :: t, p, nx, out, c, hp, hm, hnx, hor => by
    obtain ⟨c1, c2, c3⟩ := c
    simp only [sp] at c1 c2 c3
    have hx := hm x (List.mem_cons_self ..)
    have ht := fun z hz => hm z (List.mem_cons_of_mem x hz)
    have hge : ∀ n, SM t n → x.f1 + 2 ≤ n := fun n h => sm_ge c3 h
    rw [List.foldl_cons]
    by_cases k1 : x.f1 < lo
    · have e : complStep lo hi (nx, out) x = (nx, out) := by unfold complStep; rw [if_pos k1]
      rw [e]
      obtain ⟨r, r1, r2, r3, r4, r5⟩ := compl_fold lo hi hlo hhi t (x.f1 + 2) nx out c3 (by omega) ht hnx (by
        rcases hor with h | h
        · exact .inl h
        · by_cases h2 : nx = lo
          · exact .inl h2
          · exact .inr (by omega))
      refine ⟨r, r1, r2, r3, by simp; omega, fun n => (r5 n).trans ?_⟩
      rw [sm_cons]
      constructor
      · rintro ⟨h1, h2, h3⟩
        exact ⟨h1, h2, fun h => h.elim (fun h => by omega) h3⟩
      · rintro ⟨h1, h2, h3⟩
        exact ⟨h1, h2, fun h => h3 (.inr h)⟩
    · by_cases k2 : x.f0 > hi
      · have e : complStep lo hi (nx, out) x = (nx, out) := by unfold complStep; rw [if_neg k1, if_pos k2]
        rw [e]
        obtain ⟨r, r1, r2, r3, r4, r5⟩ := compl_fold lo hi hlo hhi t (x.f1 + 2) nx out c3 (by omega) ht hnx (by
          rcases hor with h | h
          · exact .inl h
          · exact .inr (by omega))
        refine ⟨r, r1, r2, r3, by simp; omega, fun n => (r5 n).trans ?_⟩
        rw [sm_cons]
        constructor
        · rintro ⟨h1, h2, h3⟩
          exact ⟨h1, h2, fun h => h.elim (fun h => by omega) h3⟩
        · rintro ⟨h1, h2, h3⟩
          exact ⟨h1, h2, fun h => h3 (.inr h)⟩
      · have e : complStep lo hi (nx, out) x = (x.f1 + 1, addTo out nx (x.f0 - 1)) := by
          unfold complStep
          rw [if_neg k1, if_neg k2, wrap_id (by omega) (by omega), wrap_id (by omega) (by omega)]
        rw [e]
        obtain ⟨r, r1, r2, r3, r4, r5⟩ := compl_fold lo hi hlo hhi t (x.f1 + 2) (x.f1 + 1) (addTo out nx (x.f0 - 1)) c3 (by omega) ht (by omega) (.inr (by omega))
        have hnx2 : nx ≤ x.f1 + 1 := by rcases hor with h | h <;> omega
        by_cases k3 : nx ≤ x.f0 - 1
        · refine ⟨(⟨nx, x.f0 - 1⟩ : Sn) :: r, by rw [r1]; simp [addTo, k3], ⟨Int.le_refl _, k3, r2.mono (by simp [sp]; omega)⟩, ?_, by simp; omega, fun n => ?_⟩
          · intro z hz
            rcases List.mem_cons.1 hz with rfl | hz
            · show x.f0 - 1 ≤ 4294967296; omega
            · exact r3 z hz
          · rw [sm_cons, r5 n, sm_cons]
            constructor
            · rintro (⟨h1, h2⟩ | ⟨h1, h2, h3⟩)
              · have h2 : n ≤ x.f0 - 1 := h2
                refine ⟨h1, by omega, fun h => ?_⟩
                rcases h with h | h
                · omega
                · have := hge n h; omega
              · exact ⟨by omega, h2, fun h => h.elim (fun h => by omega) h3⟩
            · rintro ⟨h1, h2, h3⟩
              by_cases hn : n ≤ x.f0 - 1
              · exact .inl ⟨h1, hn⟩
              · refine .inr ⟨?_, h2, fun h => h3 (.inr h)⟩
                apply Classical.byContradiction
                intro hc
                exact h3 (.inl ⟨by omega, by omega⟩)
        · refine ⟨r, by rw [r1]; simp [addTo, k3], r2.mono hnx2, r3, by simp; omega, fun n => ?_⟩
          rw [r5 n, sm_cons]
          constructor
          · rintro ⟨h1, h2, h3⟩
            exact ⟨by omega, h2, fun h => h.elim (fun h => by omega) h3⟩
          · rintro ⟨h1, h2, h3⟩
            refine ⟨?_, h2, fun h => h3 (.inr h)⟩
            apply Classical.byContradiction
            intro hc
            exact h3 (.inl ⟨by omega, by omega⟩)
def ComplP (l : List Sn) (a1 a2 n : Int) : Prop := a1 ≤ n ∧ 0 ≤ n ∧ n ≤ a2 ∧ n ≤ 4294967296 ∧ ¬ SM l n
theorem compl_spec (l : List Sn) (a1 a2 : Int) (hl : l.length < 8796093022207) : ∃ r, Ev (fun k => interval_Complement.f k l a1 a2) r ∧ Can (ComplP l a1 a2) r ∧ r.length ≤ l.length + 1 := by
  obtain ⟨S, h1, h2, h3⟩ := normal_spec l (by omega)
  obtain ⟨m1, m2, m3⟩ := mx_spec a1 0
  obtain ⟨n1, n2, n3⟩ := mn_spec a2 4294967296
  obtain ⟨r, r1, r2, r3, r4, r5⟩ := compl_fold (mx a1 0) (mn a2 4294967296) m2 n2 S 0 (mx a1 0) [] h2.1 (Int.le_refl _) h2.2.1 (Int.le_refl _) (.inl rfl)
  refine ⟨r, ?_, ⟨r2.mono m2, r3, fun n => ?_⟩, by omega⟩
  · refine Ev.congr (fun k => rfl) (Ev.bind h1 (Ev.congr (fun k => ?_) (Ev.now r)))
    rw [if_pos (by omega)]
    exact congrArg some r1
  · rw [r5 n, h2.2.2 n]
    unfold ComplP
    constructor
    · rintro ⟨e1, e2, e3⟩
      exact ⟨by omega, by omega, by omega, by omega, fun h => e3 ⟨h, by omega, by omega⟩⟩
    · rintro ⟨e1, e2, e3, e4, e5⟩
      refine ⟨by omega, by omega, fun h => e5 h.1⟩
theorem ev_rcompl (S : List Sn) (hl : S.length < 8796093022200) (hw : ∀ x ∈ S, WF x) (hi : Int) (hhi : hi ≤ 4294967296) (hhi0 : -9223372036854775808 ≤ hi) : ∀ (d i : Nat) (lo p : Int) (out : List Sn), S.length - i = d → i ≤ S.length → 0 ≤ lo → 0 ≤ p → CanFrom p ((S.drop i).map sp) → out.length ≤ i →
    ∃ r, Ev (fun k => intrusionref05_Complement.l0 k lo hi S out (i : Int)) (out ++ r) ∧ CanFrom lo (r.map sp) ∧ (∀ x ∈ r, x.f1 ≤ 4294967296) ∧ r.length ≤ d + 1 ∧ ∀ n, SM r n ↔ lo ≤ n ∧ n ≤ hi ∧ ¬ SM (S.drop i) n := by
  intro d
  have hend : ∀ (i : Nat) (lo : Int) (out : List Sn), i ≤ S.length → out.length ≤ i → (∀ k, intrusionref05_Complement.l0 (k + 2) lo hi S out (i : Int) = if lo ≤ hi then (if out.length < 8796093022208 then some (out ++ [(⟨lo, hi⟩ : Sn)]) else none) else some out) →
      Ev (fun k => intrusionref05_Complement.l0 k lo hi S out (i : Int)) (out ++ if lo ≤ hi then [(⟨lo, hi⟩ : Sn)] else []) := by
    intro i lo out hi2 ho hk
    refine ⟨2, fun k hk2 => ?_⟩
    obtain ⟨m, rfl⟩ : ∃ m, k = m + 2 := ⟨k - 2, by omega⟩
    show intrusionref05_Complement.l0 (m + 2) lo hi S out (i : Int) = _
    rw [hk m]
    split
    · rw [if_pos (by omega)]
    · simp
  induction d with
  | zero =>
    intro i lo p out hd hi2 hlo hp hc ho
    have : i = S.length := by omega
    subst this
    refine ⟨if lo ≤ hi then [(⟨lo, hi⟩ : Sn)] else [], hend _ lo out (Nat.le_refl _) ho (fun k => ?_), ?_, ?_, ?_, fun n => ?_⟩
    · simp only [intrusionref05_Complement.l0, intrusionref05_Complement.j1]
      rw [if_neg (by omega), if_neg (by simp)]
    · split
      · exact ⟨Int.le_refl _, by assumption, trivial⟩
      · trivial
    · split
      · simpa using hhi
      · simp
    · split <;> simp
    · rw [List.drop_eq_nil_of_le (Nat.le_refl _)]
      split
      · rw [sm_cons, sm_nil]; simp [sm_nil]
      · simp only [sm_nil, not_false_eq_true, and_true]
        constructor
        · exact False.elim
        · rintro ⟨h1, h2⟩; omega
  | succ d ih =>
    intro i lo p out hd hi2 hlo hp hc ho
    have hlt : i < S.length := by omega
    obtain ⟨w1, w2, w3⟩ := hw S[i] (List.getElem_mem hlt)
    rw [drop_cons S i hlt, List.map_cons] at hc
    obtain ⟨c1, c2, c3⟩ := hc
    have hge : ∀ n, SM (S.drop (i + 1)) n → S[i].f1 + 2 ≤ n := fun n h => sm_ge c3 h
    by_cases hle : lo ≤ hi
    · obtain ⟨m1, m2, m3⟩ := mx_spec lo (S[i].f1 + 1)
      obtain ⟨n1, n2, n3⟩ := mn_spec hi (S[i].f0 - 1)
      have hstep : ∀ k, intrusionref05_Complement.l0 (k + 2) lo hi S out (i : Int) = if lo ≤ mn hi (S[i].f0 - 1) then (if out.length < 8796093022208 then intrusionref05_Complement.l0 k (mx lo (S[i].f1 + 1)) hi S (out ++ [(⟨lo, mn hi (S[i].f0 - 1)⟩ : Sn)]) ((i + 1 : Nat) : Int) else none) else intrusionref05_Complement.l0 k (mx lo (S[i].f1 + 1)) hi S out ((i + 1 : Nat) : Int) := by
        intro k
        simp only [intrusionref05_Complement.l0, intrusionref05_Complement.j1]
        rw [if_pos (by omega), if_pos (decide_eq_true hle), if_pos (by omega), if_pos (by omega), rd_at S i hlt, wrap_id (x := S[i].f0 - 1) (by omega) (by omega), wrap_id (x := S[i].f1 + 1) (by omega) (by omega), wrap_succ i (by omega)]
      have ev2 : ∀ {g : Nat → Option (List Sn)} {r : List Sn}, (∀ k, intrusionref05_Complement.l0 (k + 2) lo hi S out (i : Int) = g k) → Ev g r → Ev (fun k => intrusionref05_Complement.l0 k lo hi S out (i : Int)) r := by
        intro g r hg h
        obtain ⟨K, h⟩ := h
        refine ⟨K + 2, fun k hk => ?_⟩
        obtain ⟨m, rfl⟩ : ∃ m, k = m + 2 := ⟨k - 2, by omega⟩
        show intrusionref05_Complement.l0 (m + 2) lo hi S out (i : Int) = some r
        rw [hg m]
        exact h m (by omega)
      by_cases k3 : lo ≤ mn hi (S[i].f0 - 1)
      · obtain ⟨r, r1, r2, r3, r4, r5⟩ := ih (i + 1) (mx lo (S[i].f1 + 1)) (S[i].f1 + 2) (out ++ [(⟨lo, mn hi (S[i].f0 - 1)⟩ : Sn)]) (by omega) (by omega) (by omega) (by omega) c3 (by simp; omega)
        refine ⟨(⟨lo, mn hi (S[i].f0 - 1)⟩ : Sn) :: r, ev2 (g := fun k => intrusionref05_Complement.l0 k (mx lo (S[i].f1 + 1)) hi S (out ++ [(⟨lo, mn hi (S[i].f0 - 1)⟩ : Sn)]) ((i + 1 : Nat) : Int)) (fun k => by rw [hstep, if_pos k3, if_pos (by omega)]) (by simpa using r1), ⟨Int.le_refl _, k3, r2.mono (by simp [sp]; omega)⟩, ?_, by simp; omega, fun n => ?_⟩
        · intro z hz
          rcases List.mem_cons.1 hz with rfl | hz
          · show mn hi (S[i].f0 - 1) ≤ 4294967296; omega
          · exact r3 z hz
        · rw [sm_cons, r5 n, drop_cons S i hlt, sm_cons]
          constructor
          · rintro (⟨h1, h2⟩ | ⟨h1, h2, h3⟩)
            · have h2 : n ≤ mn hi (S[i].f0 - 1) := h2
              refine ⟨h1, by omega, fun h => ?_⟩
              rcases h with h | h
              · omega
              · have := hge n h; omega
            · exact ⟨by omega, h2, fun h => h.elim (fun h => by omega) h3⟩
          · rintro ⟨h1, h2, h3⟩
            by_cases hn : n ≤ S[i].f0 - 1
            · exact .inl ⟨h1, show n ≤ mn hi (S[i].f0 - 1) from by omega⟩
            · refine .inr ⟨?_, h2, fun h => h3 (.inr h)⟩
              apply Classical.byContradiction
              intro hc
              exact h3 (.inl ⟨by omega, by omega⟩)
      · obtain ⟨r, r1, r2, r3, r4, r5⟩ := ih (i + 1) (mx lo (S[i].f1 + 1)) (S[i].f1 + 2) out (by omega) (by omega) (by omega) (by omega) c3 (by omega)
        refine ⟨r, ev2 (g := fun k => intrusionref05_Complement.l0 k (mx lo (S[i].f1 + 1)) hi S out ((i + 1 : Nat) : Int)) (fun k => by rw [hstep, if_neg k3]) r1, r2.mono m1, r3, by omega, fun n => ?_⟩
        rw [r5 n, drop_cons S i hlt, sm_cons]
        constructor
        · rintro ⟨h1, h2, h3⟩
          exact ⟨by omega, h2, fun h => h.elim (fun h => by omega) h3⟩
        · rintro ⟨h1, h2, h3⟩
          refine ⟨?_, h2, fun h => h3 (.inr h)⟩
          apply Classical.byContradiction
          intro hc
          exact h3 (.inl ⟨by omega, by omega⟩)
    · refine ⟨if lo ≤ hi then [(⟨lo, hi⟩ : Sn)] else [], hend i lo out (by omega) ho (fun k => ?_), ?_, ?_, ?_, fun n => ?_⟩
      · simp only [intrusionref05_Complement.l0, intrusionref05_Complement.j1]
        rw [if_pos (by omega), if_neg (by simpa using hle)]
      · rw [if_neg hle]; trivial
      · rw [if_neg hle]; simp
      · rw [if_neg hle]; simp
      · rw [if_neg hle, sm_nil]
        constructor
        · exact False.elim
        · rintro ⟨h1, h2, _⟩; omega
theorem rcompl_spec (l : List Sn) (a1 a2 : Int) (ha : -9223372036854775808 ≤ a2) (hl : l.length < 8796093022200) : ∃ r, Ev (fun k => intrusionref05_Complement.f k l a1 a2) r ∧ Can (ComplP l a1 a2) r ∧ r.length ≤ l.length + 1 := by
  obtain ⟨S, h1, h2, h3⟩ := rnormal_spec l (by omega)
  obtain ⟨m1, m2, m3⟩ := mx_spec a1 0
  obtain ⟨n1, n2, n3⟩ := mn_spec a2 4294967296
  obtain ⟨r, r1, r2, r3, r4, r5⟩ := ev_rcompl S (by omega) h2.wf (mn a2 4294967296) n2 (by omega) S.length 0 (mx a1 0) 0 [] (by omega) (by omega) m2 (Int.le_refl _) h2.1 (by simp)
  refine ⟨r, Ev.congr (fun k => rfl) (Ev.bind h1 (by simpa using r1)), ⟨r2.mono m2, r3, fun n => ?_⟩, by omega⟩
  rw [r5 n, List.drop_zero, h2.2.2 n]
  unfold ComplP
  constructor
  · rintro ⟨e1, e2, e3⟩
    exact ⟨by omega, by omega, by omega, by omega, fun h => e3 ⟨h, by omega, by omega⟩⟩
  · rintro ⟨e1, e2, e3, e4, e5⟩
    refine ⟨by omega, by omega, fun h => e5 h.1⟩
end Go.Proofs.Ytcgfpffgiimgmaa.Q
end

section
set_option linter.unusedVariables false
set_option linter.unusedSimpArgs false
namespace Go.Proofs.Ytcgfpffgiimgmaa.Q
open Go.RowKit Go.Proofs.YtcgfpffgiimgmaaW.PrintWords Go.Proofs.YtcgfpffgiimgmaaW.PrintLast Go.Proofs.YtcgfpffgiimgmaaW.PrintMore Go.Proofs.Ytcgfpffgiimgmaa.Canon
def interP (x y : Sn) : List Sn := if mx x.f0 y.f0 ≤ mn x.f1 y.f1 then [(⟨mx x.f0 y.f0, mn x.f1 y.f1⟩ : Sn)] else []
theorem ev_inter (X Y : List Sn) (hX : X.length < 4000000000000) (hY : Y.length < 4000000000000) : ∀ (d i j : Nat) (p q : Int) (out : List Sn), X.length - i + (Y.length - j) = d → i ≤ X.length → j ≤ Y.length → out.length ≤ i + j → CanFrom p ((X.drop i).map sp) → CanFrom q ((Y.drop j).map sp) →
    ∃ r, Ev (fun k => interval_Intersect.l0 k X Y out (i : Int) (j : Int)) (out ++ r) ∧ CanFrom (max p q) (r.map sp) ∧ r.length ≤ d ∧ (∀ n, SM r n ↔ SM (X.drop i) n ∧ SM (Y.drop j) n) ∧ ∀ z ∈ r, ∃ x ∈ X.drop i, z.f1 ≤ x.f1 := by
  intro d
  induction d using Nat.strongRecOn with
  | _ d ih =>
    intro i j p q out hd hi hj ho cX cY
    by_cases hiX : i < X.length
    · by_cases hjY : j < Y.length
      · rw [drop_cons X i hiX, List.map_cons] at cX
        rw [drop_cons Y j hjY, List.map_cons] at cY
        obtain ⟨a1, a2, a3⟩ := cX
        obtain ⟨b1, b2, b3⟩ := cY
        simp only [sp] at a1 a2 a3 b1 b2 b3
        obtain ⟨m1, m2, m3⟩ := mx_spec X[i].f0 Y[j].f0
        obtain ⟨n1, n2, n3⟩ := mn_spec X[i].f1 Y[j].f1
        have gX : ∀ n, SM (X.drop (i + 1)) n → X[i].f1 + 2 ≤ n := fun n h => sm_ge a3 h
        have gY : ∀ n, SM (Y.drop (j + 1)) n → Y[j].f1 + 2 ≤ n := fun n h => sm_ge b3 h
        have hstep : ∀ k, interval_Intersect.l0 (k + 2) X Y out (i : Int) (j : Int) = if X[i].f1 < Y[j].f1 then interval_Intersect.l0 k X Y (out ++ interP X[i] Y[j]) ((i + 1 : Nat) : Int) (j : Int) else interval_Intersect.l0 k X Y (out ++ interP X[i] Y[j]) (i : Int) ((j + 1 : Nat) : Int) := by
          intro k
          simp only [interval_Intersect.l0, interval_Intersect.j1]
          rw [if_pos (by omega), if_pos (decide_eq_true (by omega)), if_pos (by omega), if_pos (by omega), if_pos (by omega), if_pos (by omega), rd_at X i hiX, rd_at Y j hjY, wrap_succ i (by omega), wrap_succ j (by omega)]
          unfold interP
          by_cases hc : mx X[i].f0 Y[j].f0 ≤ mn X[i].f1 Y[j].f1
          · rw [if_pos hc, if_pos hc, if_pos (by omega)]
            rfl
          · rw [if_neg hc, if_neg hc, List.append_nil]
        have ev2 : ∀ {g : Nat → Option (List Sn)} {r : List Sn}, (∀ k, interval_Intersect.l0 (k + 2) X Y out (i : Int) (j : Int) = g k) → Ev g r → Ev (fun k => interval_Intersect.l0 k X Y out (i : Int) (j : Int)) r := by
          intro g r hg h
          obtain ⟨K, h⟩ := h
          refine ⟨K + 2, fun k hk => ?_⟩
          obtain ⟨m, rfl⟩ : ∃ m, k = m + 2 := ⟨k - 2, by omega⟩
          show interval_Intersect.l0 (m + 2) X Y out (i : Int) (j : Int) = some r
          rw [hg m]
          exact h m (by omega)
        have hlen : (interP X[i] Y[j]).length ≤ 1 := by unfold interP; split <;> simp
        have hpm : ∀ n, SM (interP X[i] Y[j]) n ↔ (X[i].f0 ≤ n ∧ n ≤ X[i].f1) ∧ (Y[j].f0 ≤ n ∧ n ≤ Y[j].f1) := by
          intro n
          unfold interP
          split
          · rw [sm_cons, sm_nil, or_false]
            show mx X[i].f0 Y[j].f0 ≤ n ∧ n ≤ mn X[i].f1 Y[j].f1 ↔ _
            constructor
            · rintro ⟨h1, h2⟩; exact ⟨⟨by omega, by omega⟩, by omega, by omega⟩
            · rintro ⟨⟨h1, h2⟩, h3, h4⟩; exact ⟨by omega, by omega⟩
          · rw [sm_nil]
            constructor
            · exact False.elim
            · rintro ⟨⟨h1, h2⟩, h3, h4⟩; omega
        have hcan : ∀ (r : List Sn) (s : Int), CanFrom s (r.map sp) → max p q ≤ s → mn X[i].f1 Y[j].f1 + 2 ≤ s → CanFrom (max p q) ((interP X[i] Y[j] ++ r).map sp) := by
          intro r s hr h1 h2
          unfold interP
          split
          · rename_i hc
            exact ⟨by show max p q ≤ mx X[i].f0 Y[j].f0; omega, hc, hr.mono (by show mn X[i].f1 Y[j].f1 + 2 ≤ s; exact h2)⟩
          · exact hr.mono h1
        by_cases hlt : X[i].f1 < Y[j].f1
        · obtain ⟨r, r1, r2, r3, r4, r5⟩ := ih (d - 1) (by omega) (i + 1) j (X[i].f1 + 2) Y[j].f0 (out ++ interP X[i] Y[j]) (by omega) (by omega) hj (by rw [List.length_append]; omega) a3 (by rw [drop_cons Y j hjY, List.map_cons]; exact ⟨Int.le_refl _, b2, b3⟩)
          refine ⟨interP X[i] Y[j] ++ r, ev2 (g := fun k => interval_Intersect.l0 k X Y (out ++ interP X[i] Y[j]) ((i + 1 : Nat) : Int) (j : Int)) (fun k => by rw [hstep, if_pos hlt]) (by rw [← List.append_assoc]; exact r1), hcan r _ r2 (by omega) (by omega), by rw [List.length_append]; omega, fun n => ?_, ?_⟩
          · rw [sm_append, hpm, r4 n, drop_cons X i hiX, drop_cons Y j hjY, sm_cons, sm_cons]
            constructor
            · rintro (⟨h1, h2⟩ | ⟨h1, h2⟩)
              · exact ⟨.inl h1, .inl h2⟩
              · exact ⟨.inr h1, h2⟩
            · rintro ⟨h1 | h1, h2⟩
              · rcases h2 with h2 | h2
                · exact .inl ⟨h1, h2⟩
                · have := gY n h2; omega
              · exact .inr ⟨h1, h2⟩
          · intro z hz
            rw [drop_cons X i hiX]
            rcases List.mem_append.1 hz with hz | hz
            · unfold interP at hz
              split at hz
              · rw [List.mem_singleton.1 hz]; exact ⟨X[i], List.mem_cons_self .., by show mn X[i].f1 Y[j].f1 ≤ _; omega⟩
              · simp at hz
            · obtain ⟨x, hx, h⟩ := r5 z hz
              exact ⟨x, List.mem_cons_of_mem _ hx, h⟩
        · obtain ⟨r, r1, r2, r3, r4, r5⟩ := ih (d - 1) (by omega) i (j + 1) X[i].f0 (Y[j].f1 + 2) (out ++ interP X[i] Y[j]) (by omega) hi (by omega) (by rw [List.length_append]; omega) (by rw [drop_cons X i hiX, List.map_cons]; exact ⟨Int.le_refl _, a2, a3⟩) b3
          refine ⟨interP X[i] Y[j] ++ r, ev2 (g := fun k => interval_Intersect.l0 k X Y (out ++ interP X[i] Y[j]) (i : Int) ((j + 1 : Nat) : Int)) (fun k => by rw [hstep, if_neg hlt]) (by rw [← List.append_assoc]; exact r1), hcan r _ r2 (by omega) (by omega), by rw [List.length_append]; omega, fun n => ?_, ?_⟩
          · rw [sm_append, hpm, r4 n, drop_cons X i hiX, drop_cons Y j hjY, sm_cons, sm_cons]
            constructor
            · rintro (⟨h1, h2⟩ | ⟨h1, h2⟩)
              · exact ⟨.inl h1, .inl h2⟩
              · exact ⟨h1, .inr h2⟩
            · rintro ⟨h1, h2 | h2⟩
              · rcases h1 with h1 | h1
                · exact .inl ⟨h1, h2⟩
                · have := gX n h1; omega
              · exact .inr ⟨h1, h2⟩
          · intro z hz
            rw [drop_cons X i hiX]
            rcases List.mem_append.1 hz with hz | hz
            · unfold interP at hz
              split at hz
              · rw [List.mem_singleton.1 hz]; exact ⟨X[i], List.mem_cons_self .., by show mn X[i].f1 Y[j].f1 ≤ _; omega⟩
              · simp at hz
            · obtain ⟨x, hx, h⟩ := r5 z hz
              rw [drop_cons X i hiX] at hx
              exact ⟨x, hx, h⟩
      · have : j = Y.length := by omega
        subst this
        refine ⟨[], ⟨2, fun k hk => ?_⟩, trivial, by simp, fun n => ?_, by simp⟩
        · obtain ⟨m, rfl⟩ : ∃ m, k = m + 2 := ⟨k - 2, by omega⟩
          show interval_Intersect.l0 (m + 2) X Y out (i : Int) (Y.length : Int) = _
          simp only [interval_Intersect.l0, interval_Intersect.j1]
          rw [if_pos (by omega), if_neg (by simp), List.append_nil]
        · rw [List.drop_eq_nil_of_le (Nat.le_refl Y.length)]
          simp [sm_nil]
    · have : i = X.length := by omega
      subst this
      refine ⟨[], ⟨2, fun k hk => ?_⟩, trivial, by simp, fun n => ?_, by simp⟩
      · obtain ⟨m, rfl⟩ : ∃ m, k = m + 2 := ⟨k - 2, by omega⟩
        show interval_Intersect.l0 (m + 2) X Y out (X.length : Int) (j : Int) = _
        simp only [interval_Intersect.l0, interval_Intersect.j1]
        rw [if_neg (by omega), if_neg (by simp), List.append_nil]
      · rw [List.drop_eq_nil_of_le (Nat.le_refl X.length)]
        simp [sm_nil]
def InterP (a b : List Sn) (n : Int) : Prop := SM a n ∧ SM b n ∧ 0 ≤ n ∧ n ≤ 4294967296
theorem inter_spec (a b : List Sn) (ha : a.length < 4000000000000) (hb : b.length < 4000000000000) : ∃ r, Ev (fun k => interval_Intersect.f k a b) r ∧ Can (InterP a b) r ∧ r.length ≤ a.length + b.length := by
  obtain ⟨X, x1, x2, x3⟩ := normal_spec a (by omega)
  obtain ⟨Y, y1, y2, y3⟩ := normal_spec b (by omega)
  obtain ⟨r, r1, r2, r3, r4, r5⟩ := ev_inter X Y (by omega) (by omega) _ 0 0 0 0 [] rfl (by omega) (by omega) (by simp) x2.1 y2.1
  refine ⟨r, Ev.congr (fun k => rfl) (Ev.bind x1 (Ev.bind y1 (by simpa using r1))), ⟨r2, fun z hz => ?_, fun n => ?_⟩, by omega⟩
  · obtain ⟨x, hx, h⟩ := r5 z hz
    have := x2.2.1 x hx
    omega
  · rw [r4 n, List.drop_zero, List.drop_zero, x2.2.2 n, y2.2.2 n]
    unfold InterP
    constructor
    · rintro ⟨⟨h1, h2, h3⟩, h4, _, _⟩; exact ⟨h1, h4, h2, h3⟩
    · rintro ⟨h1, h2, h3, h4⟩; exact ⟨⟨h1, h3, h4⟩, h2, h3, h4⟩
theorem ev_rinter1 (X Y : List Sn) (hX : X.length < 1000000) (hY : Y.length < 1000000) {r : List Sn} (i : Nat) (hi : i < X.length) : ∀ (d j : Nat) (out : List Sn), Y.length - j = d → j ≤ Y.length → out.length ≤ i * Y.length + j →
    Ev (fun k => intrusionref05_Intersect.l0 k X Y (out ++ (Y.drop j).flatMap (interP X[i])) ((i + 1 : Nat) : Int)) r → Ev (fun k => intrusionref05_Intersect.l1 k X Y out (i : Int) (j : Int)) r := by
  intro d
  induction d with
  | zero =>
    intro j out hd hj ho h
    have : j = Y.length := by omega
    subst this
    refine Ev.step (fun k => ?_) h
    simp only [intrusionref05_Intersect.l1]
    rw [if_neg (by omega), wrap_succ i (by omega)]
    simp
  | succ d ih =>
    intro j out hd hj ho h
    have hlt : j < Y.length := by omega
    have hb : i * Y.length + Y.length ≤ 1000000 * 1000000 := by
      have h1 : i * Y.length ≤ 999999 * 1000000 := Nat.mul_le_mul (by omega) (by omega)
      omega
    rw [drop_cons Y j hlt, List.flatMap_cons, ← List.append_assoc] at h
    have hlen : (interP X[i] Y[j]).length ≤ 1 := by unfold interP; split <;> simp
    have h2 := ih (j + 1) (out ++ interP X[i] Y[j]) (by omega) (by omega) (by rw [List.length_append]; omega) h
    refine Ev.step (fun k => ?_) h2
    simp only [intrusionref05_Intersect.l1]
    rw [if_pos (by omega), if_pos (by omega), if_pos (by omega), if_pos (by omega), rd_at X i hi, rd_at Y j hlt]
    unfold intrusionref05_cut.f interP
    simp only [Option.bind_some]
    by_cases hc : mx X[i].f0 Y[j].f0 ≤ mn X[i].f1 Y[j].f1
    · rw [if_pos (decide_eq_true hc), if_pos (by omega), if_pos hc, wrap_succ j (by omega)]
    · rw [if_neg (fun h => hc (of_decide_eq_true h)), if_neg hc, wrap_succ j (by omega), List.append_nil]
theorem ev_rinter (X Y : List Sn) (hX : X.length < 1000000) (hY : Y.length < 1000000) {r : List Sn} : ∀ (d i : Nat) (out : List Sn), X.length - i = d → i ≤ X.length → out.length ≤ i * Y.length →
    Ev (fun k => intrusionref05_Normal.f k (out ++ (X.drop i).flatMap (fun x => Y.flatMap (interP x)))) r → Ev (fun k => intrusionref05_Intersect.l0 k X Y out (i : Int)) r := by
  intro d
  induction d with
  | zero =>
    intro i out hd hi ho h
    have : i = X.length := by omega
    subst this
    rw [List.drop_eq_nil_of_le (Nat.le_refl _), List.flatMap_nil, List.append_nil] at h
    refine Ev.step (f := fun k => (intrusionref05_Normal.f k out).bind fun t => some t) (fun k => ?_) (Ev.bind h (Ev.now _))
    simp only [intrusionref05_Intersect.l0]
    rw [if_neg (by omega)]
  | succ d ih =>
    intro i out hd hi ho h
    have hlt : i < X.length := by omega
    rw [drop_cons X i hlt, List.flatMap_cons, ← List.append_assoc] at h
    have hfl : ∀ (T : List Sn) (x : Sn), (T.flatMap (interP x)).length ≤ T.length := by
      intro T x
      induction T with
      | nil => simp
      | cons y t ih2 =>
        rw [List.flatMap_cons, List.length_append, List.length_cons]
        have : (interP x y).length ≤ 1 := by unfold interP; split <;> simp
        omega
    have h2 := ih (i + 1) (out ++ Y.flatMap (interP X[i])) (by omega) (by omega) (by rw [List.length_append, Nat.succ_mul]; have := hfl Y X[i]; omega) h
    have h3 := ev_rinter1 X Y hX hY i hlt Y.length 0 out (by omega) (by omega) (by omega) (by simpa using h2)
    refine Ev.step (fun k => ?_) h3
    simp only [intrusionref05_Intersect.l0]
    rw [if_pos (by omega)]
    rfl
theorem rinter_spec (a b : List Sn) (ha : a.length < 1000) (hb : b.length < 1000) : ∃ r, Ev (fun k => intrusionref05_Intersect.f k a b) r ∧ Can (InterP a b) r := by
  obtain ⟨X, x1, x2, x3⟩ := rnormal_spec a (by omega)
  obtain ⟨Y, y1, y2, y3⟩ := rnormal_spec b (by omega)
  have hlen : (X.flatMap (fun x => Y.flatMap (interP x))).length < 8796093022208 := by
    have h1 : ∀ (T : List Sn) (x : Sn), (T.flatMap (interP x)).length ≤ T.length := by
      intro T x
      induction T with
      | nil => simp
      | cons y t ih2 =>
        rw [List.flatMap_cons, List.length_append, List.length_cons]
        have : (interP x y).length ≤ 1 := by unfold interP; split <;> simp
        omega
    have h2 : ∀ T : List Sn, (T.flatMap (fun x => Y.flatMap (interP x))).length ≤ T.length * Y.length := by
      intro T
      induction T with
      | nil => simp
      | cons y t ih2 =>
        rw [List.flatMap_cons, List.length_append, List.length_cons, Nat.succ_mul]
        have := h1 Y y
        omega
    have h3 := h2 X
    have h4 : X.length * Y.length ≤ 1000 * 1000 := Nat.mul_le_mul (by omega) (by omega)
    omega
  obtain ⟨r, r1, r2, r3⟩ := rnormal_spec (X.flatMap (fun x => Y.flatMap (interP x))) hlen
  refine ⟨r, Ev.congr (fun k => rfl) (Ev.bind x1 (Ev.bind y1 (ev_rinter X Y (by omega) (by omega) X.length 0 [] (by omega) (by omega) (by simp) (by simpa using r1)))), r2.congr (fun n => ?_)⟩
  have hm : SM (X.flatMap (fun x => Y.flatMap (interP x))) n ↔ SM X n ∧ SM Y n := by
    rw [sm_iff, sm_iff, sm_iff]
    constructor
    · rintro ⟨z, hz, h1, h2⟩
      obtain ⟨x, hx, hz⟩ := List.mem_flatMap.1 hz
      obtain ⟨y, hy, hz⟩ := List.mem_flatMap.1 hz
      unfold interP at hz
      split at hz
      · have := List.mem_singleton.1 hz
        subst this
        have h1 : mx x.f0 y.f0 ≤ n := h1
        have h2 : n ≤ mn x.f1 y.f1 := h2
        obtain ⟨m1, m2, _⟩ := mx_spec x.f0 y.f0
        obtain ⟨n1, n2, _⟩ := mn_spec x.f1 y.f1
        exact ⟨⟨x, hx, by omega, by omega⟩, y, hy, by omega, by omega⟩
      · simp at hz
    · rintro ⟨⟨x, hx, h1, h2⟩, y, hy, h3, h4⟩
      obtain ⟨m1, m2, m3⟩ := mx_spec x.f0 y.f0
      obtain ⟨n1, n2, n3⟩ := mn_spec x.f1 y.f1
      have hc : mx x.f0 y.f0 ≤ mn x.f1 y.f1 := by omega
      refine ⟨⟨mx x.f0 y.f0, mn x.f1 y.f1⟩, List.mem_flatMap.2 ⟨x, hx, List.mem_flatMap.2 ⟨y, hy, ?_⟩⟩, show mx x.f0 y.f0 ≤ n from by omega, show n ≤ mn x.f1 y.f1 from by omega⟩
      unfold interP
      rw [if_pos hc]
      exact List.mem_singleton.2 rfl
  rw [hm, x2.2.2 n, y2.2.2 n]
  unfold InterP
  constructor
  · rintro ⟨⟨⟨h1, h2, h3⟩, h4, _, _⟩, _⟩; exact ⟨h1, h4, h2, h3⟩
  · rintro ⟨h1, h2, h3, h4⟩; exact ⟨⟨⟨h1, h3, h4⟩, h2, h3, h4⟩, h3, h4⟩
end Go.Proofs.Ytcgfpffgiimgmaa.Q
end

section
set_option linter.unusedVariables false
set_option linter.unusedSimpArgs false
namespace Go.Proofs.Ytcgfpffgiimgmaa.Q
open Go.RowKit Go.Proofs.YtcgfpffgiimgmaaW.PrintWords Go.Proofs.YtcgfpffgiimgmaaW.PrintLast Go.Proofs.YtcgfpffgiimgmaaW.PrintMore Go.Proofs.Ytcgfpffgiimgmaa.Canon
theorem i64_bd {n : Int} (h : (Lit.int .i64 n).wf = true) : -9223372036854775808 ≤ n ∧ n ≤ 9223372036854775807 := by
  simp [Lit.wf, IntKind.min, IntKind.max, IntKind.signed, IntKind.bits] at h
  omega
theorem ev_concat (a b : List Sn) (ha : a.length < 4000000000000) (hb : b.length < 4000000000000) : Ev (fun k => slices_Concat_Span.f k [a, b]) (a ++ b) := by
  refine ⟨6, fun k hk => ?_⟩
  obtain ⟨m, rfl⟩ : ∃ m, k = m + 6 := ⟨k - 6, by omega⟩
  show slices_Concat_Span.f (m + 6) [a, b] = _
  have w1 : wrap64 (0 + 1) = 1 := wrap_id (by omega) (by omega)
  have w2 : wrap64 (1 + 1) = 2 := wrap_id (by omega) (by omega)
  have r0 : rd_L2 [a, b] 0 = a := rfl
  have r1 : rd_L2 [a, b] 1 = b := rfl
  unfold slices_Concat_Span.f
  simp only [slices_Concat_Span.l0, List.length_cons, List.length_nil]
  rw [if_pos (by decide), if_pos (by decide), if_pos (by decide), r0, wrap_id (x := 0 + (a.length : Int)) (by omega) (by omega), if_neg (by omega), w1, if_pos (by decide), if_pos (by decide), if_pos (by decide), r1, wrap_id (x := 0 + (a.length : Int) + (b.length : Int)) (by omega) (by omega), if_neg (by omega), w2, if_neg (by decide)]
  unfold grow_Span.f
  rw [if_pos ⟨by omega, by omega⟩]
  simp only [Option.bind_some, slices_Concat_Span.l1, List.length_cons, List.length_nil]
  rw [if_pos (by decide), if_pos (by decide), if_pos (by decide), r0, if_pos (by omega), w1, if_pos (by decide), if_pos (by decide), if_pos (by decide), r1, if_pos (by rw [List.length_append, List.length_nil]; omega), w2, if_neg (by decide)]
  simp
def UnionP (a b : List Sn) (n : Int) : Prop := (SM a n ∨ SM b n) ∧ 0 ≤ n ∧ n ≤ 4294967296
theorem union_spec (a b : List Sn) (ha : a.length < 4000000000000) (hb : b.length < 4000000000000) : ∃ r, Ev (fun k => interval_Union.f k a b) r ∧ Can (UnionP a b) r ∧ r.length ≤ a.length + b.length := by
  obtain ⟨r, h1, h2, h3⟩ := normal_spec (a ++ b) (by rw [List.length_append]; omega)
  refine ⟨r, Ev.congr (fun k => rfl) (Ev.bind (ev_concat a b ha hb) (Ev.bind h1 (Ev.now _))), h2.congr (fun n => ?_), by rw [List.length_append] at h3; exact h3⟩
  rw [sm_append]
  rfl
def MinusP (a b : List Sn) (n : Int) : Prop := SM a n ∧ ¬ SM b n ∧ 0 ≤ n ∧ n ≤ 4294967296
theorem minus_spec (a b : List Sn) (ha : a.length < 2000000000000) (hb : b.length < 2000000000000) : ∃ r, Ev (fun k => interval_Minus.f k a b) r ∧ Can (MinusP a b) r ∧ r.length ≤ a.length + b.length + 1 := by
  obtain ⟨c, c1, c2, c3⟩ := compl_spec b 0 4294967296 (by omega)
  obtain ⟨r, r1, r2, r3⟩ := inter_spec a c (by omega) (by omega)
  refine ⟨r, Ev.congr (fun k => rfl) (Ev.bind c1 (Ev.bind r1 (Ev.now _))), r2.congr (fun n => ?_), by omega⟩
  unfold InterP MinusP
  rw [c2.2.2 n]
  unfold ComplP
  constructor
  · rintro ⟨h1, ⟨_, _, _, _, h2⟩, h3, h4⟩; exact ⟨h1, h2, h3, h4⟩
  · rintro ⟨h1, h2, h3, h4⟩; exact ⟨h1, ⟨h3, h3, h4, h4, h2⟩, h3, h4⟩
theorem rminus_spec (a b : List Sn) (ha : a.length < 500) (hb : b.length < 500) : ∃ r, Ev (fun k => intrusionref05_Minus.f k a b) r ∧ Can (MinusP a b) r := by
  obtain ⟨c, c1, c2, c3⟩ := rcompl_spec b 0 4294967296 (by omega) (by omega)
  obtain ⟨r, r1, r2⟩ := rinter_spec a c (by omega) (by omega)
  refine ⟨r, Ev.congr (fun k => rfl) (Ev.bind c1 (Ev.bind r1 (Ev.now _))), r2.congr (fun n => ?_)⟩
  unfold InterP MinusP
  rw [c2.2.2 n]
  unfold ComplP
  constructor
  · rintro ⟨h1, ⟨_, _, _, _, h2⟩, h3, h4⟩; exact ⟨h1, h2, h3, h4⟩
  · rintro ⟨h1, h2, h3, h4⟩; exact ⟨h1, ⟨h3, h3, h4, h4, h2⟩, h3, h4⟩
open Classical in
noncomputable def inB (l : List Sn) (n : Int) : Bool := decide (SM l n ∧ 0 ≤ n ∧ n ≤ 4294967296)
theorem inB_iff (l : List Sn) (n : Int) : inB l n = true ↔ SM l n ∧ 0 ≤ n ∧ n ≤ 4294967296 := by unfold inB; simp
theorem any_in (l : List Sn) (n : Int) : l.any (inSpan n) = true ↔ SM l n := by
  rw [sm_iff, List.any_eq_true]
  constructor
  · rintro ⟨x, hx, h⟩
    unfold inSpan at h
    simp at h
    exact ⟨x, hx, h.1, h.2⟩
  · rintro ⟨x, hx, h1, h2⟩
    exact ⟨x, hx, by simp [inSpan, h1, h2]⟩
theorem contains_eq (l : List Sn) (n : Int) : interval_Contains.f l n = some (inB l n) := by
  unfold interval_Contains.f inB
  congr 1
  rw [Bool.eq_iff_iff]
  simp only [Bool.and_eq_true, decide_eq_true_eq, any_in]
  constructor
  · rintro ⟨h1, h2, h3⟩; exact ⟨h3, h1, h2⟩
  · rintro ⟨h3, h1, h2⟩; exact ⟨h1, h2, h3⟩
theorem ev_rcont0 (L : List Sn) (n : Int) (hl : L.length < 8796093022208) (h0 : 0 ≤ n) (h1 : n ≤ 4294967296) : ∀ (d i : Nat), L.length - i = d → i ≤ L.length → Ev (fun k => intrusionref05_Contains.l0 k L n (i : Int)) (inB (L.drop i) n) := by
  intro d
  induction d with
  | zero =>
    intro i hd hi
    have : i = L.length := by omega
    subst this
    refine Ev.step (f := fun _ => some false) (fun k => ?_) ?_
    · simp only [intrusionref05_Contains.l0]; rw [if_neg (by omega)]
    · have : inB (L.drop L.length) n = false := by unfold inB; rw [List.drop_eq_nil_of_le (Nat.le_refl _)]; simp [sm_nil]
      rw [this]
      exact Ev.now _
  | succ d ih =>
    intro i hd hi
    have hlt : i < L.length := by omega
    have ih' := ih (i + 1) (by omega) (by omega)
    by_cases c : L[i].f0 ≤ n ∧ n ≤ L[i].f1
    · have : inB (L.drop i) n = true := (inB_iff _ _).2 ⟨by rw [drop_cons L i hlt]; exact (sm_cons _ _ _).2 (.inl c), h0, h1⟩
      rw [this]
      refine Ev.step (f := fun _ => some true) (fun k => ?_) (Ev.now _)
      simp only [intrusionref05_Contains.l0]
      rw [if_pos (by omega), if_pos (by omega), rd_at L i hlt, if_pos c.1, if_pos c.2]
    · have : inB (L.drop i) n = inB (L.drop (i + 1)) n := by
        unfold inB
        rw [drop_cons L i hlt]
        congr 1
        rw [sm_cons]
        simp only [eq_iff_iff]
        constructor
        · rintro ⟨h | h, h2⟩
          · exact absurd h c
          · exact ⟨h, h2⟩
        · rintro ⟨h, h2⟩; exact ⟨.inr h, h2⟩
      rw [this]
      refine Ev.step (fun k => ?_) ih'
      simp only [intrusionref05_Contains.l0]
      rw [if_pos (by omega), if_pos (by omega), rd_at L i hlt, wrap_succ i (by omega)]
      by_cases c1 : L[i].f0 ≤ n
      · rw [if_pos c1, if_neg (fun h => c ⟨c1, h⟩)]
      · rw [if_neg c1]
theorem subset_ev (a b : List Sn) (ha : a.length < 500) (hb : b.length < 500) : ∃ r, Can (MinusP a b) r ∧ Ev (fun k => interval_Subset.f k a b) ((r.length : Int) == 0) ∧ Ev (fun k => intrusionref05_Subset.f k a b) ((r.length : Int) == 0) := by
  obtain ⟨r, r1, r2, r3⟩ := minus_spec a b (by omega) (by omega)
  obtain ⟨q, q1, q2⟩ := rminus_spec a b ha hb
  have e := q2.uniq r2
  subst e
  exact ⟨q, r2, Ev.congr (fun k => rfl) (Ev.bind r1 (Ev.now _)), Ev.congr (fun k => rfl) (Ev.bind q1 (Ev.now _))⟩
theorem ev_same0 (L : List Sn) (hl : L.length < 8796093022208) : ∀ (d i : Nat), L.length - i = d → i ≤ L.length → Ev (fun k => intrusionlaw05_same.l0 k L L (L.length : Int) (i : Int)) true := by
  intro d
  induction d with
  | zero =>
    intro i hd hi
    have : i = L.length := by omega
    subst this
    refine Ev.step (f := fun _ => some true) (fun k => ?_) (Ev.now _)
    simp only [intrusionlaw05_same.l0]; rw [if_neg (by omega)]
  | succ d ih =>
    intro i hd hi
    have hlt : i < L.length := by omega
    refine Ev.step (fun k => ?_) (ih (i + 1) (by omega) (by omega))
    simp only [intrusionlaw05_same.l0]
    rw [if_pos (by omega), if_pos (by omega), if_pos (by omega), if_pos (by omega), wrap_succ i (by omega)]
    simp
theorem same_ev (L : List Sn) (hl : L.length < 8796093022208) : Ev (fun k => intrusionlaw05_same.f k L L) true := by
  have h := ev_same0 L hl L.length 0 (by omega) (by omega)
  refine Ev.congr (fun k => ?_) h
  unfold intrusionlaw05_same.f
  rw [if_pos rfl]
  rfl
theorem awake_ev : Ev (fun k => intrusionlaw05_awake.f k) true := by
  obtain ⟨r1, e1, c1, _⟩ := normal_spec [(⟨5, 7⟩ : Sn), ⟨1, 2⟩, ⟨3, 3⟩, ⟨9, 8⟩] (by decide)
  obtain ⟨r2, e2, c2, _⟩ := compl_spec [(⟨3, 5⟩ : Sn)] 0 9 (by decide)
  obtain ⟨r3, e3, c3, _⟩ := minus_spec [(⟨0, 9⟩ : Sn)] [(⟨3, 3⟩ : Sn)] (by decide) (by decide)
  have h1 : r1 = [(⟨1, 3⟩ : Sn), ⟨5, 7⟩] := c1.uniq ⟨by simp [CanFrom, sp], by simp, fun n => by
    simp only [sm_cons, sm_nil, or_false]
    omega⟩
  have h2 : r2 = [(⟨0, 2⟩ : Sn), ⟨6, 9⟩] := c2.uniq ⟨by simp [CanFrom, sp], by simp, fun n => by
    unfold ComplP
    simp only [sm_cons, sm_nil, or_false]
    omega⟩
  have h3 : r3 = [(⟨0, 2⟩ : Sn), ⟨4, 9⟩] := c3.uniq ⟨by simp [CanFrom, sp], by simp, fun n => by
    unfold MinusP
    simp only [sm_cons, sm_nil, or_false]
    omega⟩
  subst h1 h2 h3
  have hn : Can (SM [(⟨0, 2⟩ : Sn), ⟨4, 9⟩]) [(⟨0, 2⟩ : Sn), ⟨4, 9⟩] := ⟨by simp [CanFrom, sp], by simp, fun n => Iff.rfl⟩
  obtain ⟨r4, e4, c4, _⟩ := count_spec [(⟨0, 2⟩ : Sn), ⟨4, 9⟩] (by decide)
  have h4 : r4 = [(⟨0, 2⟩ : Sn), ⟨4, 9⟩] := e4.uniq ⟨by simp [CanFrom, sp], by simp, fun n => by
    simp only [sm_cons, sm_nil, or_false]
    omega⟩
  subst h4
  have e5 := (valid_ev [(⟨0, 2⟩ : Sn), ⟨4, 9⟩] (by decide) (by simp)).1
  rw [can_ok hn] at e5
  have k1 : inB [(⟨0, 2⟩ : Sn), ⟨4, 9⟩] 4 = true := by unfold inB; simp [sm_cons, sm_nil]
  have k2 : inB [(⟨0, 2⟩ : Sn), ⟨4, 9⟩] 3 = false := by unfold inB; simp [sm_cons, sm_nil]
  unfold intrusionlaw05_awake.f
  refine Ev.bind e1 (Ev.bind e2 (Ev.bind e3 (Ev.bind (same_ev _ (by decide)) ?_)))
  simp only [if_true]
  refine Ev.bind (same_ev _ (by decide)) ?_
  simp only [if_true]
  refine Ev.bind c4 ?_
  rw [show total [(⟨0, 2⟩ : Sn), ⟨4, 9⟩] = 9 from rfl]
  simp only [if_true]
  refine Ev.bind e5 ?_
  simp only [if_true, contains_eq, k1, k2, Option.bind_some]
  exact Ev.now _
open Classical in
noncomputable def card (P : Int → Prop) (m : Nat) : Nat := (List.range m).countP (fun i : Nat => decide (P (i : Int)))
open Classical in
theorem card_succ (P : Int → Prop) (m : Nat) : card P (m + 1) = card P m + if P (m : Int) then 1 else 0 := by
  unfold card
  rw [List.range_succ, List.countP_append, List.countP_cons, List.countP_nil]
  by_cases h : P (m : Int) <;> simp [h]
theorem card_congr {P Q : Int → Prop} (h : ∀ n, P n ↔ Q n) (m : Nat) : card P m = card Q m := by
  have : P = Q := funext fun n => propext (h n)
  rw [this]
open Classical in
theorem card_add (P Q : Int → Prop) : ∀ m, card (fun n => P n ∨ Q n) m + card (fun n => P n ∧ Q n) m = card P m + card Q m
  | 0 => rfl
  | m + 1 => by
    have ih := card_add P Q m
    simp only [card_succ]
    by_cases h1 : P (m : Int) <;> by_cases h2 : Q (m : Int) <;> simp [h1, h2] <;> omega
open Classical in
theorem card_false : ∀ m, card (fun _ => False) m = 0
  | 0 => rfl
  | m + 1 => by rw [card_succ, card_false m]; simp
open Classical in
theorem card_span (a b : Int) (h0 : 0 ≤ a) (h : a ≤ b + 1) : ∀ m : Nat, (card (fun n => a ≤ n ∧ n ≤ b) m : Int) = if (m : Int) ≤ a then 0 else if (m : Int) ≤ b + 1 then m - a else b - a + 1
  | 0 => by rw [if_pos (by omega)]; rfl
  | m + 1 => by
    have ih := card_span a b h0 h m
    rw [card_succ]
    by_cases c : a ≤ (m : Int) ∧ (m : Int) ≤ b
    · rw [if_pos c]
      split at ih <;> split <;> (try split) <;> (try split at ih) <;> omega
    · rw [if_neg c]
      split at ih <;> split <;> (try split) <;> (try split at ih) <;> omega
theorem card_total : ∀ (l : List Sn) (lo : Int), 0 ≤ lo → CanFrom lo (l.map sp) → (∀ x ∈ l, x.f1 ≤ 4294967296) → ∀ m : Nat, 4294967297 ≤ m → (card (SM l) m : Int) = total l
  | [], lo, _, _, _, m, _ => by rw [card_congr (Q := fun _ => False) (fun n => sm_nil n), card_false]; rfl
  | x :: t, lo, h0, c, h, m, hm => by
    obtain ⟨c1, c2, c3⟩ := c
    simp only [sp] at c1 c2 c3
    have hx := h x (List.mem_cons_self ..)
    have ih := card_total t (x.f1 + 2) (by omega) c3 (fun z hz => h z (List.mem_cons_of_mem _ hz)) m hm
    have ha := card_add (fun n => x.f0 ≤ n ∧ n ≤ x.f1) (SM t) m
    rw [card_congr (P := fun n => (x.f0 ≤ n ∧ n ≤ x.f1) ∧ SM t n) (Q := fun _ => False) (fun n => ⟨fun hh => by have := sm_ge c3 hh.2; omega, False.elim⟩), card_false] at ha
    rw [card_congr (fun n => sm_cons x t n)]
    have hs := card_span x.f0 x.f1 (by omega) (by omega) m
    rw [if_neg (by omega)] at hs
    have hs2 : (card (fun n => x.f0 ≤ n ∧ n ≤ x.f1) m : Int) = x.f1 - x.f0 + 1 := by
      split at hs <;> omega
    simp only [total]
    omega
theorem Can.card {P : Int → Prop} {r : List Sn} (h : Can P r) : (Q.card P 4294967297 : Int) = Q.total r := by
  rw [← card_total r 0 (Int.le_refl _) h.1 h.2.1 4294967297 (Nat.le_refl _)]
  rw [card_congr h.2.2]
theorem total_zero {P : Int → Prop} {r : List Sn} (h : Can P r) : total r = 0 ↔ r = [] := by
  constructor
  · intro h0
    cases r with
    | nil => rfl
    | cons x t =>
      have hw := h.wf x (List.mem_cons_self ..)
      have := (total_le t _ h.1.2.2 (fun z hz => h.2.1 z (List.mem_cons_of_mem _ hz))).1
      simp only [total] at h0
      omega
  · rintro rfl; rfl
end Go.Proofs.Ytcgfpffgiimgmaa.Q
end

section
set_option linter.unusedVariables false
set_option linter.unusedSimpArgs false
namespace Go.Proofs.Ytcgfpffgiimgmaa.Pure
open Go.RowKit Go.Proofs.Ytcgfpffgiimgmaa.Q Go.Proofs.YtcgfpffgiimgmaaW.PrintWords Go.Proofs.YtcgfpffgiimgmaaW.PrintLast Go.Proofs.YtcgfpffgiimgmaaW.PrintMore
theorem total_bd {P : Int → Prop} {r : List Sn} (h : Q.Can P r) : 0 ≤ total r ∧ total r ≤ 4294967297 := by
  have h1 := h.card
  have h2 : card P 4294967297 ≤ 4294967297 := by
    unfold card
    refine Nat.le_trans List.countP_le_length ?_
    rw [List.length_range]
    exact Nat.le_refl _
  omega
theorem IntervalCounts : ∀ (l0 : List (Sn)) (l1 : List (Sn)), l0.length ≤ maxLen → (∀ x ∈ l0, q52 x) → l1.length ≤ maxLen → (∀ x ∈ l1, q52 x) → ∃ k, intrusionlaw05_IntervalCounts.f k l0 l1 = some true := by
  intro l0 l1 hm hq hm1 hq1
  refine Ev.rounds (g := fun k => intrusionlaw05_IntervalCounts.f k l0 l1) ?_
  have hbig : Ev (fun k => intrusionlaw05_IntervalCounts.j0 k l0 l1 true) true := by
    refine Ev.step (f := fun k => (intrusionlaw05_awake.f k).bind fun t => some t) (fun k => ?_) (Ev.bind awake_ev (Ev.now _))
    simp only [intrusionlaw05_IntervalCounts.j0, if_true]
  unfold intrusionlaw05_IntervalCounts.f intrusionlaw05_large.f
  simp only [Option.bind_some]
  by_cases h0 : (l0.length : Int) > 60
  · simp only [h0, decide_true, if_true]
    exact hbig
  simp only [h0, decide_false, Bool.false_eq_true, if_false]
  by_cases h1 : (l1.length : Int) > 60
  · simp only [h1, decide_true]
    exact hbig
  simp only [h1, decide_false]
  obtain ⟨A, a1, a2, a3, a4⟩ := count_spec l0 (by omega)
  obtain ⟨B, b1, b2, b3, b4⟩ := count_spec l1 (by omega)
  obtain ⟨u, u1, u2, u3⟩ := union_spec l0 l1 (by omega) (by omega)
  obtain ⟨i, i1, i2, i3⟩ := inter_spec l0 l1 (by omega) (by omega)
  obtain ⟨m, m1, m2, m3⟩ := minus_spec l0 l1 (by omega) (by omega)
  obtain ⟨U, U1, U2, U3, U4⟩ := count_spec u (by omega)
  obtain ⟨I, I1, I2, I3, I4⟩ := count_spec i (by omega)
  obtain ⟨M, M1, M2, M3, M4⟩ := count_spec m (by omega)
  have eU : U = u := U1.uniq (u2.congr fun n => by
    rw [u2.2.2]
    unfold UnionP
    exact ⟨fun h => ⟨h, h.2⟩, fun h => h.1⟩)
  have eI : I = i := I1.uniq (i2.congr fun n => by
    rw [i2.2.2]
    unfold InterP
    exact ⟨fun h => ⟨h, h.2.2⟩, fun h => h.1⟩)
  have eM : M = m := M1.uniq (m2.congr fun n => by
    rw [m2.2.2]
    unfold MinusP
    exact ⟨fun h => ⟨h, h.2.2⟩, fun h => h.1⟩)
  subst eU eI eM
  have tA := a1.card
  have tB := b1.card
  have tU := u2.card
  have tI := i2.card
  have tM := m2.card
  have bA := total_bd a1
  have bB := total_bd b1
  have bU := total_bd u2
  have bI := total_bd i2
  have bM := total_bd m2
  have s1 := card_add (fun n => SM l0 n ∧ 0 ≤ n ∧ n ≤ 4294967296) (fun n => SM l1 n ∧ 0 ≤ n ∧ n ≤ 4294967296) 4294967297
  rw [card_congr (Q := UnionP l0 l1) (fun n => by
    unfold UnionP
    exact ⟨fun h => h.elim (fun q => ⟨Or.inl q.1, q.2⟩) (fun q => ⟨Or.inr q.1, q.2⟩), fun h => h.1.elim (fun q => Or.inl ⟨q, h.2⟩) (fun q => Or.inr ⟨q, h.2⟩)⟩),
    card_congr (P := fun n => (SM l0 n ∧ 0 ≤ n ∧ n ≤ 4294967296) ∧ (SM l1 n ∧ 0 ≤ n ∧ n ≤ 4294967296)) (Q := InterP l0 l1) (fun n => by
    unfold InterP
    exact ⟨fun h => ⟨h.1.1, h.2.1, h.1.2⟩, fun h => ⟨⟨h.1, h.2.2⟩, ⟨h.2.1, h.2.2⟩⟩⟩)] at s1
  have s2 := card_add (MinusP l0 l1) (InterP l0 l1) 4294967297
  rw [card_congr (P := fun n => MinusP l0 l1 n ∨ InterP l0 l1 n) (Q := fun n => SM l0 n ∧ 0 ≤ n ∧ n ≤ 4294967296) (fun n => by
    unfold MinusP InterP
    by_cases hb : SM l1 n <;> simp [hb]),
    card_congr (P := fun n => MinusP l0 l1 n ∧ InterP l0 l1 n) (Q := fun _ => False) (fun n => by
    unfold MinusP InterP
    exact ⟨fun h => h.1.2.1 h.2.2.1, False.elim⟩), card_false] at s2
  have w1 : wrap64 (total U + total I) = wrap64 (total A + total B) := by rw [show total U + total I = total A + total B by omega]
  have w2 : total M = wrap64 (total A - total I) := by rw [wrap_id (by omega) (by omega)]; omega
  obtain ⟨A2, c1, c2, c3⟩ := normal_spec A (by omega)
  have eA : A2 = A := c2.uniq (a1.congr fun n => by
    rw [a1.2.2]
    exact ⟨fun h => ⟨h, h.2⟩, fun h => h.1⟩)
  subst eA
  obtain ⟨r, r1, r2, r3⟩ := subset_ev l0 l1 (by omega) (by omega)
  have er : r = M := r1.uniq m2
  subst er
  have hsub : ((r.length : Int) == 0) = (total I == total A2) := by
    rw [Bool.eq_iff_iff, beq_iff_eq, beq_iff_eq]
    have hz := total_zero m2
    constructor
    · intro h
      have : r = [] := List.length_eq_zero_iff.mp (by omega)
      have := hz.mpr this
      omega
    · intro h
      have : r = [] := hz.mp (by omega)
      rw [this]; rfl
  have v1 := (valid_ev l0 (by omega) (fun x hx => ⟨(i64_bd (hq x hx).1).1, (i64_bd (hq x hx).2).2⟩)).1
  have hj1 : Ev (fun k => intrusionlaw05_IntervalCounts.j1 k l0 l1 (total A2) (total I) false) true := by
    refine Ev.step (f := fun k => ((interval_Normal.f k l0).bind fun t443 => ((interval_Normal.f k t443).bind fun t446 => ((intrusionlaw05_same.f k t446 t443).bind fun t449 => (if t449 = true then ((interval_Subset.f k l0 l1).bind fun t450 => (if (t450 == (total I == total A2)) = true then ((interval_Valid.f k l0).bind fun t451 => (if t451 = true then ((intrusionlaw05_same.f k l0 t443).bind fun t452 => (if t452 = true then ((intrusionlaw05_awake.f k).bind fun t453 => (some t453)) else (some false))) else ((intrusionlaw05_awake.f k).bind fun t454 => (some t454)))) else (some false))) else (some false)))))) (fun k => ?_) ?_
    · simp only [intrusionlaw05_IntervalCounts.j1]; rfl
    refine Ev.bind a3 ?_
    refine Ev.bind c1 ?_
    refine Ev.bind (same_ev _ (by omega)) ?_
    simp only [if_true]
    refine Ev.bind r2 ?_
    rw [hsub]
    simp only [BEq.rfl, if_true]
    refine Ev.bind v1 ?_
    cases hv : okAll l0
    · simp only [Bool.false_eq_true, if_false]
      exact Ev.bind awake_ev (Ev.now _)
    · simp only [if_true]
      have hc := ok_can hv
      have e0 : l0 = A2 := hc.uniq (a1.congr fun n => ⟨fun h => h.1, fun h => ⟨h, hc.range n h⟩⟩)
      rw [← e0]
      refine Ev.bind (same_ev _ (by omega)) ?_
      simp only [if_true]
      exact Ev.bind awake_ev (Ev.now _)
  refine Ev.step (f := fun k => ((interval_Count.f k l0).bind fun t429 => ((interval_Count.f k l1).bind fun t430 => ((interval_Intersect.f k l0 l1).bind fun t431 => ((interval_Count.f k t431).bind fun t434 => ((interval_Union.f k l0 l1).bind fun t435 => ((interval_Count.f k t435).bind fun t438 => (if (wrap64 (t438 + t434)) = (wrap64 (t429 + t430)) then ((interval_Minus.f k l0 l1).bind fun t439 => ((interval_Count.f k t439).bind fun t442 => (if t442 = (wrap64 (t429 - t434)) then (if t429 < 0 then (intrusionlaw05_IntervalCounts.j1 k l0 l1 t429 t434 true) else (intrusionlaw05_IntervalCounts.j1 k l0 l1 t429 t434 (decide (t429 > 4294967297)))) else (intrusionlaw05_IntervalCounts.j1 k l0 l1 t429 t434 true)))) else (intrusionlaw05_IntervalCounts.j1 k l0 l1 t429 t434 true))))))))) (fun k => ?_) ?_
  · simp only [intrusionlaw05_IntervalCounts.j0]; rfl
  refine Ev.bind a2 (Ev.bind b2 (Ev.bind i1 (Ev.bind I2 (Ev.bind u1 (Ev.bind U2 ?_)))))
  simp only [w1, if_true]
  refine Ev.bind m1 (Ev.bind M2 ?_)
  have n1 : ¬ total A2 < 0 := by omega
  have n2 : ¬ total A2 > 4294967297 := by omega
  simp only [w2, n1, n2, if_true, if_false, decide_false]
  exact hj1
end Go.Proofs.Ytcgfpffgiimgmaa.Pure
end

section
namespace Go.Proofs.Ytcgfpffgiimgmaa.intervalCounts
open Go.ChangeShapes Go.WideShapes Go.ChangeAt Go.RowKit Go.Proofs.YtcgfpffgiimgmaaW.PrintWords Go.Proofs.Ytcgfpffgiimgmaa.Read Go.Proofs.Ytcgfpffgiimgmaa.Q
open Go.ChangeMaps (open_string shut_string)
set_option linter.unusedVariables false
theorem own : ownKnob Try.prog.godebug = none := by kernel_rfl
theorem laidOut : laidOutB Try.prog = true := by kernel_rfl
set_option maxRecDepth 100000 in
theorem lifted (os : Os) (started : os.Started) (H : Type) (enc : TypeId × Value → H) :
    ReturnsInHanded {} Try.checked os 8 .any (Rows.intervalCountsSpec.pre6 enc Try.prog Try.f8 Rows.intervalCountsRow.domain false) (Rows.intervalCountsSpec.post enc Try.prog Try.f8 false true false false) := by
  refine returnsInHanded_of_change_sized (C := Try.checked) own started (by kernel_rfl) Try.func8
    (ChangeSpec.witness6 (enc := enc) (C := Try.checked) false ⟨#[], #[.slice none 0 0, .slice none 0 0], []⟩ 8 (by kernel_rfl) (by kernel_rfl) (by kernel_rfl) (by kernel_rfl)) ?_
  intro W base args ds gs before hval0 hW hcnd hsz0 _
  have hsz : (DataW.weightsEach Try.prog (Try.f8.params.toList ++ Rows.intervalCountsSpec.plain.varTypes Try.prog) (ds ++ gs)).all (· ≤ reachBytes) = true := hsz0
  have hval : ∀ (j : Nat) t v, Try.f8.params[j]? = some t → args[j]? = some v → Value.okWide Try.prog W .any base t v := hval0
  have hW' := hW
  obtain ⟨p, q, hA0, hV, rfl, hfz, hnd⟩ := hW
  have hA : DataW.TrodAll enc Try.prog W 0 (fun _ => true) true Try.f8.params.toList args.toList ds p := hA0
  rw [Try.params8] at hA hval hsz
  obtain ⟨v0, vs0, d0, ds0, p0, q0, hargs, rfl, rfl, h0, r0⟩ := trodAll_cons hA
  obtain ⟨v1, vs1, d1, ds1, p1, q1, rfl, rfl, rfl, h1, r1⟩ := trodAll_cons r0
  obtain ⟨rfl, rfl, rfl⟩ := trodAll_nil r1
  obtain rfl : args = #[v0, v1] := by cases args; simp_all
  obtain ⟨rfl, rfl⟩ := trodVars_none hV
  obtain ⟨a0, len0, cap0, rfl⟩ := okWide_slice Try.underlying22 (hval 0 22 v0 rfl rfl)
  have k0_ := h0
  have lt0 : ∀ x ∈ p0, x.block < W.heap.size := by obtain ⟨m, hm⟩ := k0_; exact DataW.trod_lt m _ _ _ hm
  obtain ⟨fuel0, hf0⟩ := h0
  obtain ⟨l0, ⟨A0, c0, hcs0, hle0, hC0⟩, hm0, hq0⟩ := (reads_slice Try.underlying22 (by kernel_rfl) (reads_k52 W) : Reads Try.prog W (Kd.slice 52 k52) _ 22) H enc fuel0 _ _ hf0
  simp [Value.cells] at hcs0
  obtain ⟨rfl, rfl, rfl⟩ := hcs0
  obtain ⟨a1, len1, cap1, rfl⟩ := okWide_slice Try.underlying22 (hval 1 22 v1 rfl rfl)
  have k1_ := h1
  have lt1 : ∀ x ∈ p1, x.block < W.heap.size := by obtain ⟨m, hm⟩ := k1_; exact DataW.trod_lt m _ _ _ hm
  obtain ⟨fuel1, hf1⟩ := h1
  obtain ⟨l1, ⟨A1, c1, hcs1, hle1, hC1⟩, hm1, hq1⟩ := (reads_slice Try.underlying22 (by kernel_rfl) (reads_k52 W) : Reads Try.prog W (Kd.slice 52 k52) _ 22) H enc fuel1 _ _ hf1
  simp [Value.cells] at hcs1
  obtain ⟨rfl, rfl, rfl⟩ := hcs1
  clear hA0 hval0 hsz0 hsz
  obtain ⟨k, hk⟩ := Pure.IntervalCounts l0 l1 hm0 hq0 hm1 hq1
  refine (intrusionlaw05_IntervalCounts.calls k _ _ l0 _ _ l1 true W hC0 hle0 hC1 hle1 hk).mono fun e W' he => ?_
  obtain ⟨rfl, bel⟩ := he
  exact ⟨_, rfl, _, _, _, [], _, [], hW', trodAll_mk1 (shut_bool Try.underlying4 _), (trodAll_cons_mk (Below.trod laidOut (by kernel_rfl) (of_decide_eq_true (by kernel_rfl)) k0_ bel lt0) (trodAll_cons_mk (Below.trod laidOut (by kernel_rfl) (of_decide_eq_true (by kernel_rfl)) k1_ bel lt1) trodAll_mk0)), rfl, bel.frame _, fun h => by cases h⟩
theorem over : Rows.intervalCountsRow.holds Try.pinned (OpenSpec.ofChange Rows.intervalCountsSpec) :=
  OpenClaim.holds_of_wide 8 Try.f8 rfl rfl rfl rfl rfl rfl rfl ⟨rfl, rfl, rfl, rfl, rfl⟩ rfl rfl rfl rfl rfl (by kernel_rfl) Try.func8 (by kernel_rfl)
    (of_decide_eq_true (by kernel_rfl)) (by unfold Func.isWrapper; first | (rw [if_pos (by decide +kernel)]; kernel_rfl) | (rw [if_neg (by decide +kernel)]; exact ⟨rfl, rfl⟩))
    (fun os started H enc _ => lifted os started H enc)
theorem proved : Rows.IntervalCountsSaid := over
#print axioms proved
end Go.Proofs.Ytcgfpffgiimgmaa.intervalCounts
namespace Go.Proofs.Ytcgfpffgiimgmaa
theorem intervalCounts_holds : Rows.IntervalCountsSaid := intervalCounts.proved
end Go.Proofs.Ytcgfpffgiimgmaa
end
