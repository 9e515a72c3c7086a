/- The law IntervalComplements answers true for every input and leaves its arguments as they were. No condition. (Part 4 of 4: the kit's printed words and walks, hand-made contracts and plain laws, joined in build order, without what the theorem does not reach.) -/
import Derived.Deep.Slices
import Derived.ChangeArms
import Derived.WideShapes
import Derived.DataElems
import Derived.Test.YtcgfpffgiimgmaaRows
import Derived.WalkKit
import Derived.ProofKit
import Derived.OpenShut
import Derived.ShutString
import Derived.ChangeOld
import Derived.Below
import Derived.SizedLaws
import Derived.Carry
import Derived.Test.YtcgfpffgiimgmaaGIntervalComplements3
section
namespace Go.Proofs.Ytcgfpffgiimgmaa.Q
open Go.RowKit Go.Proofs.YtcgfpffgiimgmaaW.PrintWords Go.Proofs.YtcgfpffgiimgmaaW.PrintLast Go.Proofs.YtcgfpffgiimgmaaW.PrintMore
attribute [local go_sem] max2_int min2_int max_two min_two max_three min_three max_four min_four
set_option linter.unusedVariables false
set_option linter.unusedSimpArgs false
mutual
def intrusionref05_least.l0 : Nat → List (S52) → Int → Int → Int → Option (Int × Int × (List (S52)))
  | 0, _, _, _, _ => none
  | k + 1, x0, x5, x217000, x217001 => if x5 < (x0.length : Int) then (if 0 ≤ x5 then (if ((rd_T52 x0 x5).f0) < x217000 then (intrusionref05_least.l0 k x0 (wrap64 (x5 + 1)) ((rd_T52 x0 x5).f0) ((rd_T52 x0 x5).f1)) else (intrusionref05_least.l0 k x0 (wrap64 (x5 + 1)) x217000 x217001)) else (none)) else (intrusionref05_least.l1 k x0 true x217000 x217001)
def intrusionref05_least.l1 : Nat → List (S52) → Bool → Int → Int → Option (Int × Int × (List (S52)))
  | 0, _, _, _, _ => none
  | k + 1, x0, x6, x217000, x217001 => if x6 = true then (intrusionref05_least.l2 k x0 false 0 x217000 x217001) else (intrusionref05_least.l3 k x0 (([] : List (S52))) 0 x217000 x217001)
def intrusionref05_least.l2 : Nat → List (S52) → Bool → Int → Int → Int → Option (Int × Int × (List (S52)))
  | 0, _, _, _, _, _ => none
  | k + 1, x0, x6, x7, x217000, x217001 => if x7 < (x0.length : Int) then (if 0 ≤ x7 then (if ((rd_T52 x0 x7).f0) ≤ (wrap64 (x217001 + 1)) then (if ((rd_T52 x0 x7).f1) > x217001 then (intrusionref05_least.l2 k x0 true (wrap64 (x7 + 1)) x217000 ((rd_T52 x0 x7).f1)) else (intrusionref05_least.l2 k x0 x6 (wrap64 (x7 + 1)) x217000 x217001)) else (intrusionref05_least.l2 k x0 x6 (wrap64 (x7 + 1)) x217000 x217001)) else (none)) else (intrusionref05_least.l1 k x0 x6 x217000 x217001)
def intrusionref05_least.l3 : Nat → List (S52) → List (S52) → Int → Int → Int → Option (Int × Int × (List (S52)))
  | 0, _, _, _, _, _ => none
  | k + 1, x0, x8, x9, x217000, x217001 => if x9 < (x0.length : Int) then (if 0 ≤ x9 then (if ((rd_T52 x0 x9).f0) > x217001 then (if x8.length < 8796093022208 then (intrusionref05_least.l3 k x0 (x8 ++ [(⟨(rd_T52 x0 x9).f0, (rd_T52 x0 x9).f1⟩ : S52)]) (wrap64 (x9 + 1)) x217000 x217001) else (none)) else (intrusionref05_least.l3 k x0 x8 (wrap64 (x9 + 1)) x217000 x217001)) else (none)) else (some (x217000, x217001, x8))
end
def intrusionref05_least.f (k : Nat) (l0 : List (S52)) : Option (Int × Int × (List (S52))) := if 0 < (l0.length : Int) then (intrusionref05_least.l0 k l0 0 ((rd_T52 l0 0).f0) ((rd_T52 l0 0).f1)) else (none)
theorem intrusionref05_least.mono_l : ∀ k, (∀ y0 y1 y2 y3, LeO (intrusionref05_least.l0 k y0 y1 y2 y3) (intrusionref05_least.l0 (k + 1) y0 y1 y2 y3)) ∧ (∀ y0 y1 y2 y3, LeO (intrusionref05_least.l1 k y0 y1 y2 y3) (intrusionref05_least.l1 (k + 1) y0 y1 y2 y3)) ∧ (∀ y0 y1 y2 y3 y4, LeO (intrusionref05_least.l2 k y0 y1 y2 y3 y4) (intrusionref05_least.l2 (k + 1) y0 y1 y2 y3 y4)) ∧ (∀ y0 y1 y2 y3 y4, LeO (intrusionref05_least.l3 k y0 y1 y2 y3 y4) (intrusionref05_least.l3 (k + 1) y0 y1 y2 y3 y4))
  | 0 => ⟨fun _ _ _ _ r h => by simp [intrusionref05_least.l0] at h, fun _ _ _ _ r h => by simp [intrusionref05_least.l1] at h, fun _ _ _ _ _ r h => by simp [intrusionref05_least.l2] at h, fun _ _ _ _ _ r h => by simp [intrusionref05_least.l3] at h⟩
  | k + 1 => by
    obtain ⟨ih0, ih1, ih2, ih3⟩ := intrusionref05_least.mono_l k
    refine ⟨?_, ?_, ?_, ?_⟩
    · intro y0 y1 y2 y3
      unfold intrusionref05_least.l0
      repeat' first
      | (with_reducible exact ih0 _ _ _ _)
      | (with_reducible exact ih1 _ _ _ _)
      | (with_reducible exact ih2 _ _ _ _ _)
      | (with_reducible exact ih3 _ _ _ _ _)
      | (with_reducible exact LeO.refl _)
      | (with_reducible exact LeO.none _)
      | (with_reducible refine LeO.ite ?_ ?_)
      | (with_reducible refine LeO.bind ?_ (fun _ => ?_))
      | exact ih0 _ _ _ _
      | exact ih1 _ _ _ _
      | exact ih2 _ _ _ _ _
      | exact ih3 _ _ _ _ _
      | exact LeO.none _
      | refine LeO.ite ?_ ?_
      | refine LeO.bind ?_ (fun _ => ?_)
    · intro y0 y1 y2 y3
      unfold intrusionref05_least.l1
      repeat' first
      | (with_reducible exact ih0 _ _ _ _)
      | (with_reducible exact ih1 _ _ _ _)
      | (with_reducible exact ih2 _ _ _ _ _)
      | (with_reducible exact ih3 _ _ _ _ _)
      | (with_reducible exact LeO.refl _)
      | (with_reducible exact LeO.none _)
      | (with_reducible refine LeO.ite ?_ ?_)
      | (with_reducible refine LeO.bind ?_ (fun _ => ?_))
      | exact ih0 _ _ _ _
      | exact ih1 _ _ _ _
      | exact ih2 _ _ _ _ _
      | exact ih3 _ _ _ _ _
      | exact LeO.none _
      | refine LeO.ite ?_ ?_
      | refine LeO.bind ?_ (fun _ => ?_)
    · intro y0 y1 y2 y3 y4
      unfold intrusionref05_least.l2
      repeat' first
      | (with_reducible exact ih0 _ _ _ _)
      | (with_reducible exact ih1 _ _ _ _)
      | (with_reducible exact ih2 _ _ _ _ _)
      | (with_reducible exact ih3 _ _ _ _ _)
      | (with_reducible exact LeO.refl _)
      | (with_reducible exact LeO.none _)
      | (with_reducible refine LeO.ite ?_ ?_)
      | (with_reducible refine LeO.bind ?_ (fun _ => ?_))
      | exact ih0 _ _ _ _
      | exact ih1 _ _ _ _
      | exact ih2 _ _ _ _ _
      | exact ih3 _ _ _ _ _
      | exact LeO.none _
      | refine LeO.ite ?_ ?_
      | refine LeO.bind ?_ (fun _ => ?_)
    · intro y0 y1 y2 y3 y4
      unfold intrusionref05_least.l3
      repeat' first
      | (with_reducible exact ih0 _ _ _ _)
      | (with_reducible exact ih1 _ _ _ _)
      | (with_reducible exact ih2 _ _ _ _ _)
      | (with_reducible exact ih3 _ _ _ _ _)
      | (with_reducible exact LeO.refl _)
      | (with_reducible exact LeO.none _)
      | (with_reducible refine LeO.ite ?_ ?_)
      | (with_reducible refine LeO.bind ?_ (fun _ => ?_))
      | exact ih0 _ _ _ _
      | exact ih1 _ _ _ _
      | exact ih2 _ _ _ _ _
      | exact ih3 _ _ _ _ _
      | exact LeO.none _
      | refine LeO.ite ?_ ?_
      | refine LeO.bind ?_ (fun _ => ?_)
theorem intrusionref05_least.mono : ∀ a0 k, LeO (intrusionref05_least.f k a0) (intrusionref05_least.f (k + 1) a0) := by
  intro a0 k
  obtain ⟨ih0, ih1, ih2, ih3⟩ := intrusionref05_least.mono_l k
  unfold intrusionref05_least.f
  repeat' first
      | (with_reducible exact ih0 _ _ _ _)
      | (with_reducible exact ih1 _ _ _ _)
      | (with_reducible exact ih2 _ _ _ _ _)
      | (with_reducible exact ih3 _ _ _ _ _)
      | (with_reducible exact LeO.refl _)
      | (with_reducible exact LeO.none _)
      | (with_reducible refine LeO.ite ?_ ?_)
      | (with_reducible refine LeO.bind ?_ (fun _ => ?_))
      | exact ih0 _ _ _ _
      | exact ih1 _ _ _ _
      | exact ih2 _ _ _ _ _
      | exact ih3 _ _ _ _ _
      | exact LeO.none _
      | refine LeO.ite ?_ ?_
      | refine LeO.bind ?_ (fun _ => ?_)
set_option maxHeartbeats 8000000 in
set_option maxRecDepth 100000 in
theorem intrusionref05_least.calls (k : Nat) (A0 : Option Addr) (c0 : Nat) (l0 : List (S52)) (r1 : Int) (r2 : Int) (r3 : List (S52)) (w : World) (hr0 : Kd.C k52 w A0 l0.length l0) (hc0 : l0.length ≤ c0) (h : intrusionref05_least.f k l0 = some (r1, r2, r3)) :
    Calls Try.prog 65 #[.slice A0 l0.length c0] w fun e w' => ∃ v2_ : Value, e = .returned (.tuple #[.agg #[.int .i64 r1, .int .i64 r2], v2_]) ∧ Kd.R k52 52 w' w.heap.size (fun _ => True) v2_ r3 ∧ Below w.heap.size w w' := by
  have hu52 := Try.underlying52
  have HR0 := Aside0.mk hr0
  have HC0 := Aside0.mk hc0
  clear hr0 hc0
  have HB := Aside0.mk (Below.refl w.heap.size w)
  have H : (if 0 < (l0.length : Int) then (intrusionref05_least.l0 k l0 0 ((rd_T52 l0 0).f0) ((rd_T52 l0 0).f1)) else (none)) = some (r1, r2, r3) := h
  clear h
  by_cases c2 : 0 < (l0.length : Int)
  · rw [if_pos c2] at H
    have c2b0 : decide (0 < (l0.length : Int)) = true := decide_eq_true c2
    have c2b1 : decide (0 < l0.length) = true := decide_eq_true (by omega)
    clear c2
    have H' := Aside0.mk H
    clear H
    go_enter Try.func65, Try.ntmps65
    go_wp2_with (first | ((with_reducible refine gate_dst (N := 2) rfl ?_); refine box_event ?hg (N := 2) ?hd (cs := #[.int .i64 0, .int .i64 0]) (t := 52) ?hr ?_; (case hd => rfl); (case hg => rfl); (case hr => first | (go_simp; done) | (go_simp; rfl)); intro gb214 hg w3 hbox hb; have n0_ := Aside0.mk (below_step (by repeat (first | (with_reducible first | exact HB.out | apply below_alloc | apply pw_below_drewN | apply below_drew1) | exact HB.out)) hb); have n1_ := Aside0.mk (hbox); have n2_ := Aside0.mk ((by rw [hg]; exact (below_size (by repeat (first | (with_reducible first | exact HB.out | apply below_alloc | apply pw_below_drewN | apply below_drew1) | exact HB.out))) : w.heap.size ≤ gb214)); have n3_ := Aside0.mk ((by rw [hg]; exact (below_size (by repeat (first | (with_reducible first | exact HB.out | apply below_alloc | apply pw_below_drewN | apply below_drew1) | exact HB.out))) : w.heap.size ≤ gb214)); clear HB; have HB := n0_; have BK214 := n1_; have GW214 := n2_; have GE214 := n3_; clear n0_ n1_ n2_ n3_; clear hb hbox hg; have p215 : 0 ≤ (0 : Int) := (by omega); have q215 : 0 < (l0.length : Int) := of_decide_eq_true (by first | (with_reducible assumption) | assumption); obtain ⟨ad215, e215, hx215_0, hx215_1⟩ := at_T52 HR0.out 0 p215 q215; cases e215; have qi215 : (0 < l0.length) = True := eq_true (by omega); (try rw [show ((0 : Int)).toNat = 0 from rfl] at hx215_0); (try rw [show 0 * 2 = 0 from rfl] at hx215_0); (try rw [Addr.add_zero'] at hx215_0); (try rw [show ((0 : Int)).toNat = 0 from rfl] at hx215_1); (try rw [show 0 * 2 = 0 from rfl] at hx215_1); (try rw [Addr.add_zero'] at hx215_1); replace hx215_0 := (HB.out.cell (World.block_lt_of_cell? w _ hx215_0)).trans hx215_0; replace hx215_1 := (HB.out.cell (World.block_lt_of_cell? w _ hx215_1)).trans hx215_1; replace p215 := eq_true p215; replace q215 := eq_true q215) | ((with_reducible refine gate_dst (N := 4) rfl ?_); refine box_event ?hg (N := 4) ?hd (cs := #[.int .i64 0, .int .i64 0]) (t := 52) ?hr ?_; (case hd => rfl); (case hg => rfl); (case hr => first | (go_simp; done) | (go_simp; rfl)); intro gb216 hg w4 hbox hb; have n0_ := Aside0.mk (blk_below (g := gb214) (o := .cells #[.int .i64 0, .int .i64 0] 52 (0, 0)) (by (with_reducible repeat (first | refine blk_drewN ?_ _ | refine blk_drew ?_ | refine blk_alloc ?_ _)); exact BK214.out) hb); have n1_ := Aside0.mk (below_step (by repeat (first | (with_reducible first | exact HB.out | apply below_alloc | apply pw_below_drewN | apply below_drew1 | refine below_set ?_ GE214.out) | exact HB.out)) hb); have n2_ := Aside0.mk (hbox); have n3_ := Aside0.mk ((by rw [hg]; exact (below_size (by repeat (first | (with_reducible first | exact HB.out | apply below_alloc | apply pw_below_drewN | apply below_drew1 | refine below_set ?_ GE214.out) | exact HB.out))) : w.heap.size ≤ gb216)); have n4_ := Aside0.mk ((by rw [hg]; exact (below_size (by repeat (first | (with_reducible first | exact HB.out | apply below_alloc | apply pw_below_drewN | apply below_drew1 | refine below_set ?_ GE214.out) | exact HB.out))) : w.heap.size ≤ gb216)); have n5_ := Aside0.mk ((by rw [hg]; exact Nat.ne_of_lt (blk_lt (g := gb214) (o := .cells #[.int .i64 0, .int .i64 0] 52 (0, 0)) (by (with_reducible repeat (first | refine blk_drewN ?_ _ | refine blk_drew ?_ | refine blk_alloc ?_ _)); exact BK214.out)) : gb214 ≠ gb216)); have n6_ := Aside0.mk ((by rw [hg]; exact Nat.ne_of_gt (blk_lt (g := gb214) (o := .cells #[.int .i64 0, .int .i64 0] 52 (0, 0)) (by (with_reducible repeat (first | refine blk_drewN ?_ _ | refine blk_drew ?_ | refine blk_alloc ?_ _)); exact BK214.out)) : gb216 ≠ gb214)); clear BK214; clear HB; have BK214 := n0_; have HB := n1_; have BK216 := n2_; have GW216 := n3_; have GE216 := n4_; have NB214_216 := n5_; have NB216_214 := n6_; clear n0_ n1_ n2_ n3_ n4_ n5_ n6_; clear hb hbox hg; have hnb5 := NB216_214.out; have hnc5 := NB214_216.out; have hcz6_0 : w4.cell? ⟨gb216, 0, none⟩ = some (.int .i64 0) := (blk_cell BK216.out 0).trans rfl; have hcz6_1 : w4.cell? ⟨gb216, 1, none⟩ = some (.int .i64 0) := (blk_cell BK216.out 1).trans rfl; have hfz6_0 := blk_frozen BK216.out 0; have hfz6_1 := blk_frozen BK216.out 1))
    repeat (go_quiet (first | ((with_reducible refine gate_dst (N := 2) rfl ?_); refine box_event ?hg (N := 2) ?hd (cs := #[.int .i64 0, .int .i64 0]) (t := 52) ?hr ?_; (case hd => rfl); (case hg => rfl); (case hr => first | (go_simp; done) | (go_simp; rfl)); intro gb214 hg w3 hbox hb; have n0_ := Aside0.mk (below_step (by repeat (first | (with_reducible first | exact HB.out | apply below_alloc | apply pw_below_drewN | apply below_drew1) | exact HB.out)) hb); have n1_ := Aside0.mk (hbox); have n2_ := Aside0.mk ((by rw [hg]; exact (below_size (by repeat (first | (with_reducible first | exact HB.out | apply below_alloc | apply pw_below_drewN | apply below_drew1) | exact HB.out))) : w.heap.size ≤ gb214)); have n3_ := Aside0.mk ((by rw [hg]; exact (below_size (by repeat (first | (with_reducible first | exact HB.out | apply below_alloc | apply pw_below_drewN | apply below_drew1) | exact HB.out))) : w.heap.size ≤ gb214)); clear HB; have HB := n0_; have BK214 := n1_; have GW214 := n2_; have GE214 := n3_; clear n0_ n1_ n2_ n3_; clear hb hbox hg; have p215 : 0 ≤ (0 : Int) := (by omega); have q215 : 0 < (l0.length : Int) := of_decide_eq_true (by first | (with_reducible assumption) | assumption); obtain ⟨ad215, e215, hx215_0, hx215_1⟩ := at_T52 HR0.out 0 p215 q215; cases e215; have qi215 : (0 < l0.length) = True := eq_true (by omega); (try rw [show ((0 : Int)).toNat = 0 from rfl] at hx215_0); (try rw [show 0 * 2 = 0 from rfl] at hx215_0); (try rw [Addr.add_zero'] at hx215_0); (try rw [show ((0 : Int)).toNat = 0 from rfl] at hx215_1); (try rw [show 0 * 2 = 0 from rfl] at hx215_1); (try rw [Addr.add_zero'] at hx215_1); replace hx215_0 := (HB.out.cell (World.block_lt_of_cell? w _ hx215_0)).trans hx215_0; replace hx215_1 := (HB.out.cell (World.block_lt_of_cell? w _ hx215_1)).trans hx215_1; replace p215 := eq_true p215; replace q215 := eq_true q215) | ((with_reducible refine gate_dst (N := 4) rfl ?_); refine box_event ?hg (N := 4) ?hd (cs := #[.int .i64 0, .int .i64 0]) (t := 52) ?hr ?_; (case hd => rfl); (case hg => rfl); (case hr => first | (go_simp; done) | (go_simp; rfl)); intro gb216 hg w4 hbox hb; have n0_ := Aside0.mk (blk_below (g := gb214) (o := .cells #[.int .i64 0, .int .i64 0] 52 (0, 0)) (by (with_reducible repeat (first | refine blk_drewN ?_ _ | refine blk_drew ?_ | refine blk_alloc ?_ _)); exact BK214.out) hb); have n1_ := Aside0.mk (below_step (by repeat (first | (with_reducible first | exact HB.out | apply below_alloc | apply pw_below_drewN | apply below_drew1 | refine below_set ?_ GE214.out) | exact HB.out)) hb); have n2_ := Aside0.mk (hbox); have n3_ := Aside0.mk ((by rw [hg]; exact (below_size (by repeat (first | (with_reducible first | exact HB.out | apply below_alloc | apply pw_below_drewN | apply below_drew1 | refine below_set ?_ GE214.out) | exact HB.out))) : w.heap.size ≤ gb216)); have n4_ := Aside0.mk ((by rw [hg]; exact (below_size (by repeat (first | (with_reducible first | exact HB.out | apply below_alloc | apply pw_below_drewN | apply below_drew1 | refine below_set ?_ GE214.out) | exact HB.out))) : w.heap.size ≤ gb216)); have n5_ := Aside0.mk ((by rw [hg]; exact Nat.ne_of_lt (blk_lt (g := gb214) (o := .cells #[.int .i64 0, .int .i64 0] 52 (0, 0)) (by (with_reducible repeat (first | refine blk_drewN ?_ _ | refine blk_drew ?_ | refine blk_alloc ?_ _)); exact BK214.out)) : gb214 ≠ gb216)); have n6_ := Aside0.mk ((by rw [hg]; exact Nat.ne_of_gt (blk_lt (g := gb214) (o := .cells #[.int .i64 0, .int .i64 0] 52 (0, 0)) (by (with_reducible repeat (first | refine blk_drewN ?_ _ | refine blk_drew ?_ | refine blk_alloc ?_ _)); exact BK214.out)) : gb216 ≠ gb214)); clear BK214; clear HB; have BK214 := n0_; have HB := n1_; have BK216 := n2_; have GW216 := n3_; have GE216 := n4_; have NB214_216 := n5_; have NB216_214 := n6_; clear n0_ n1_ n2_ n3_ n4_ n5_ n6_; clear hb hbox hg; have hnb5 := NB216_214.out; have hnc5 := NB214_216.out; have hcz6_0 : w4.cell? ⟨gb216, 0, none⟩ = some (.int .i64 0) := (blk_cell BK216.out 0).trans rfl; have hcz6_1 : w4.cell? ⟨gb216, 1, none⟩ = some (.int .i64 0) := (blk_cell BK216.out 1).trans rfl; have hfz6_0 := blk_frozen BK216.out 0; have hfz6_1 := blk_frozen BK216.out 1)); try go_wp2_with (first | ((with_reducible refine gate_dst (N := 2) rfl ?_); refine box_event ?hg (N := 2) ?hd (cs := #[.int .i64 0, .int .i64 0]) (t := 52) ?hr ?_; (case hd => rfl); (case hg => rfl); (case hr => first | (go_simp; done) | (go_simp; rfl)); intro gb214 hg w3 hbox hb; have n0_ := Aside0.mk (below_step (by repeat (first | (with_reducible first | exact HB.out | apply below_alloc | apply pw_below_drewN | apply below_drew1) | exact HB.out)) hb); have n1_ := Aside0.mk (hbox); have n2_ := Aside0.mk ((by rw [hg]; exact (below_size (by repeat (first | (with_reducible first | exact HB.out | apply below_alloc | apply pw_below_drewN | apply below_drew1) | exact HB.out))) : w.heap.size ≤ gb214)); have n3_ := Aside0.mk ((by rw [hg]; exact (below_size (by repeat (first | (with_reducible first | exact HB.out | apply below_alloc | apply pw_below_drewN | apply below_drew1) | exact HB.out))) : w.heap.size ≤ gb214)); clear HB; have HB := n0_; have BK214 := n1_; have GW214 := n2_; have GE214 := n3_; clear n0_ n1_ n2_ n3_; clear hb hbox hg; have p215 : 0 ≤ (0 : Int) := (by omega); have q215 : 0 < (l0.length : Int) := of_decide_eq_true (by first | (with_reducible assumption) | assumption); obtain ⟨ad215, e215, hx215_0, hx215_1⟩ := at_T52 HR0.out 0 p215 q215; cases e215; have qi215 : (0 < l0.length) = True := eq_true (by omega); (try rw [show ((0 : Int)).toNat = 0 from rfl] at hx215_0); (try rw [show 0 * 2 = 0 from rfl] at hx215_0); (try rw [Addr.add_zero'] at hx215_0); (try rw [show ((0 : Int)).toNat = 0 from rfl] at hx215_1); (try rw [show 0 * 2 = 0 from rfl] at hx215_1); (try rw [Addr.add_zero'] at hx215_1); replace hx215_0 := (HB.out.cell (World.block_lt_of_cell? w _ hx215_0)).trans hx215_0; replace hx215_1 := (HB.out.cell (World.block_lt_of_cell? w _ hx215_1)).trans hx215_1; replace p215 := eq_true p215; replace q215 := eq_true q215) | ((with_reducible refine gate_dst (N := 4) rfl ?_); refine box_event ?hg (N := 4) ?hd (cs := #[.int .i64 0, .int .i64 0]) (t := 52) ?hr ?_; (case hd => rfl); (case hg => rfl); (case hr => first | (go_simp; done) | (go_simp; rfl)); intro gb216 hg w4 hbox hb; have n0_ := Aside0.mk (blk_below (g := gb214) (o := .cells #[.int .i64 0, .int .i64 0] 52 (0, 0)) (by (with_reducible repeat (first | refine blk_drewN ?_ _ | refine blk_drew ?_ | refine blk_alloc ?_ _)); exact BK214.out) hb); have n1_ := Aside0.mk (below_step (by repeat (first | (with_reducible first | exact HB.out | apply below_alloc | apply pw_below_drewN | apply below_drew1 | refine below_set ?_ GE214.out) | exact HB.out)) hb); have n2_ := Aside0.mk (hbox); have n3_ := Aside0.mk ((by rw [hg]; exact (below_size (by repeat (first | (with_reducible first | exact HB.out | apply below_alloc | apply pw_below_drewN | apply below_drew1 | refine below_set ?_ GE214.out) | exact HB.out))) : w.heap.size ≤ gb216)); have n4_ := Aside0.mk ((by rw [hg]; exact (below_size (by repeat (first | (with_reducible first | exact HB.out | apply below_alloc | apply pw_below_drewN | apply below_drew1 | refine below_set ?_ GE214.out) | exact HB.out))) : w.heap.size ≤ gb216)); have n5_ := Aside0.mk ((by rw [hg]; exact Nat.ne_of_lt (blk_lt (g := gb214) (o := .cells #[.int .i64 0, .int .i64 0] 52 (0, 0)) (by (with_reducible repeat (first | refine blk_drewN ?_ _ | refine blk_drew ?_ | refine blk_alloc ?_ _)); exact BK214.out)) : gb214 ≠ gb216)); have n6_ := Aside0.mk ((by rw [hg]; exact Nat.ne_of_gt (blk_lt (g := gb214) (o := .cells #[.int .i64 0, .int .i64 0] 52 (0, 0)) (by (with_reducible repeat (first | refine blk_drewN ?_ _ | refine blk_drew ?_ | refine blk_alloc ?_ _)); exact BK214.out)) : gb216 ≠ gb214)); clear BK214; clear HB; have BK214 := n0_; have HB := n1_; have BK216 := n2_; have GW216 := n3_; have GE216 := n4_; have NB214_216 := n5_; have NB216_214 := n6_; clear n0_ n1_ n2_ n3_ n4_ n5_ n6_; clear hb hbox hg; have hnb5 := NB216_214.out; have hnc5 := NB214_216.out; have hcz6_0 : w4.cell? ⟨gb216, 0, none⟩ = some (.int .i64 0) := (blk_cell BK216.out 0).trans rfl; have hcz6_1 : w4.cell? ⟨gb216, 1, none⟩ = some (.int .i64 0) := (blk_cell BK216.out 1).trans rfl; have hfz6_0 := blk_frozen BK216.out 0; have hfz6_1 := blk_frozen BK216.out 1)))
    go_loopg [5] k (fun kq v5 w' => ∃ (x5_1 : Int) (x217000_1 : Int) (x217001_1 : Int), v5 = .int .i64 x5_1 ∧ Aside0 (intrusionref05_least.l0 kq l0 x5_1 x217000_1 x217001_1 = some (r1, r2, r3)) ∧ Aside0 (kq ≤ k) ∧ Aside0 (w'.heap[gb214]? = some (.cells #[.int .i64 0, .int .i64 0] 52 (0, 0))) ∧ Aside0 (w'.heap[gb216]? = some (.cells #[.int .i64 x217000_1, .int .i64 x217001_1] 52 (0, 0))) ∧ Aside0 (Below w.heap.size w w'))
    case atStart => exact ⟨(0), ((rd_T52 l0 0).f0), ((rd_T52 l0 0).f1), (by first | rfl | (simp; done) | (simp [*]; done)), H', ⟨Nat.le_refl _⟩, ⟨by (with_reducible repeat (first | refine blk_drewN ?_ _ | refine blk_drew ?_ | refine blk_alloc ?_ _)); refine blk_far ?_ NB214_216.out _; (with_reducible repeat (first | refine blk_drewN ?_ _ | refine blk_drew ?_ | refine blk_alloc ?_ _)); refine blk_far ?_ NB214_216.out _; (with_reducible repeat (first | refine blk_drewN ?_ _ | refine blk_drew ?_ | refine blk_alloc ?_ _)); exact BK214.out⟩, ⟨by (with_reducible repeat (first | refine blk_drewN ?_ _ | refine blk_drew ?_ | refine blk_alloc ?_ _)); refine blk_put (cs := #[.int .i64 ((rd_T52 l0 0).f0), .int .i64 0]) ?_ 1 _ rfl; (with_reducible repeat (first | refine blk_drewN ?_ _ | refine blk_drew ?_ | refine blk_alloc ?_ _)); refine blk_put (cs := #[.int .i64 0, .int .i64 0]) ?_ 0 _ rfl; (with_reducible repeat (first | refine blk_drewN ?_ _ | refine blk_drew ?_ | refine blk_alloc ?_ _)); exact BK216.out⟩, ⟨by repeat (first | (with_reducible first | exact HB.out | apply below_alloc | apply pw_below_drewN | apply below_drew1 | refine below_set ?_ GE214.out | refine below_set ?_ GE216.out) | exact HB.out)⟩⟩
    case round =>
      clear H'
      try clear c2
      try clear c2b0
      try clear c2b1
      try clear p2
      try clear q2
      try clear hx2
      try clear qi2
      try clear c5
      try clear c6
      try clear hcz6_0
      try clear hcz6_1
      try clear hfz6_0
      try clear hfz6_1
      try clear hx215_0
      try clear hx215_1
      try clear p215
      try clear q215
      obtain ⟨x5_1, x217000_1, x217001_1, rfl, HA, HK1, BK214, BK216, HB⟩ := hrel
      cases gk with
      | zero => exact absurd HA.out (by simp [intrusionref05_least.l0])
      | succ k1 =>
        have H := HA.out
        clear HA
        simp only [intrusionref05_least.l0] at H
        by_cases c7 : x5_1 < (l0.length : Int)
        · rw [if_pos c7] at H
          have c7b0 : decide (x5_1 < (l0.length : Int)) = true := decide_eq_true c7
          clear c7
          by_cases c8 : 0 ≤ x5_1
          · rw [if_pos c8] at H
            have c8b0 : decide (0 ≤ x5_1) = true := decide_eq_true c8
            clear c8
            by_cases c9 : ((rd_T52 l0 x5_1).f0) < x217000_1
            · rw [if_pos c9] at H
              have c9b0 : decide (((rd_T52 l0 x5_1).f0) < x217000_1) = true := decide_eq_true c9
              clear c9
              have H' := Aside0.mk H
              clear H
              have p217 : 0 ≤ (x5_1 : Int) := of_decide_eq_true (by first | (with_reducible assumption) | assumption)
              have q217 : x5_1 < (l0.length : Int) := of_decide_eq_true (by first | (with_reducible assumption) | assumption)
              obtain ⟨ad217, e217, hx217_0, hx217_1⟩ := at_T52 HR0.out x5_1 p217 q217
              obtain rfl : ad215 = ad217 := (by injection e217)
              replace hx217_0 := (HB.out.cell (World.block_lt_of_cell? w _ hx217_0)).trans hx217_0
              replace hx217_1 := (HB.out.cell (World.block_lt_of_cell? w _ hx217_1)).trans hx217_1
              replace p217 := eq_true p217
              replace q217 := eq_true q217
              have hnb10 := NB216_214.out
              have hnc10 := NB214_216.out
              have hcz11_0 : wr.cell? ⟨gb216, 0, none⟩ = some (.int .i64 x217000_1) := (blk_cell BK216.out 0).trans rfl
              have hcz11_1 : wr.cell? ⟨gb216, 1, none⟩ = some (.int .i64 x217001_1) := (blk_cell BK216.out 1).trans rfl
              have hfz11_0 := blk_frozen BK216.out 0
              have hfz11_1 := blk_frozen BK216.out 1
              have p218 : 0 ≤ (x5_1 : Int) := of_decide_eq_true (by first | (with_reducible assumption) | assumption)
              have q218 : x5_1 < (l0.length : Int) := of_decide_eq_true (by first | (with_reducible assumption) | assumption)
              obtain ⟨ad218, e218, hx218_0, hx218_1⟩ := at_T52 HR0.out x5_1 p218 q218
              obtain rfl : ad215 = ad218 := (by injection e218)
              replace hx218_0 := (HB.out.cell (World.block_lt_of_cell? w _ hx218_0)).trans hx218_0
              replace hx218_1 := (HB.out.cell (World.block_lt_of_cell? w _ hx218_1)).trans hx218_1
              replace p218 := eq_true p218
              replace q218 := eq_true q218
              go_wp2
              repeat (go_quiet (fail); try go_wp2)
              go_roundg k1
              case measure => have := HK1.out; omega
              case rel => exact ⟨(wrap64 (x5_1 + 1)), ((rd_T52 l0 x5_1).f0), ((rd_T52 l0 x5_1).f1), (by first | rfl | (simp; done) | (simp [*]; done)), H', ⟨by have := HK1.out; omega⟩, ⟨by (with_reducible repeat (first | refine blk_drewN ?_ _ | refine blk_drew ?_ | refine blk_alloc ?_ _)); refine blk_far ?_ NB214_216.out _; (with_reducible repeat (first | refine blk_drewN ?_ _ | refine blk_drew ?_ | refine blk_alloc ?_ _)); refine blk_far ?_ NB214_216.out _; (with_reducible repeat (first | refine blk_drewN ?_ _ | refine blk_drew ?_ | refine blk_alloc ?_ _)); exact BK214.out⟩, ⟨by (with_reducible repeat (first | refine blk_drewN ?_ _ | refine blk_drew ?_ | refine blk_alloc ?_ _)); refine blk_put (cs := #[.int .i64 ((rd_T52 l0 x5_1).f0), .int .i64 x217001_1]) ?_ 1 _ rfl; (with_reducible repeat (first | refine blk_drewN ?_ _ | refine blk_drew ?_ | refine blk_alloc ?_ _)); refine blk_put (cs := #[.int .i64 x217000_1, .int .i64 x217001_1]) ?_ 0 _ rfl; (with_reducible repeat (first | refine blk_drewN ?_ _ | refine blk_drew ?_ | refine blk_alloc ?_ _)); exact BK216.out⟩, ⟨by repeat (first | (with_reducible first | exact HB.out | apply below_alloc | apply pw_below_drewN | apply below_drew1 | refine below_set ?_ GE214.out | refine below_set ?_ GE216.out) | exact HB.out)⟩⟩
            · rw [if_neg c9] at H
              have c9b0 : decide (((rd_T52 l0 x5_1).f0) < x217000_1) = false := decide_eq_false c9
              clear c9
              have H' := Aside0.mk H
              clear H
              have p217 : 0 ≤ (x5_1 : Int) := of_decide_eq_true (by first | (with_reducible assumption) | assumption)
              have q217 : x5_1 < (l0.length : Int) := of_decide_eq_true (by first | (with_reducible assumption) | assumption)
              obtain ⟨ad217, e217, hx217_0, hx217_1⟩ := at_T52 HR0.out x5_1 p217 q217
              obtain rfl : ad215 = ad217 := (by injection e217)
              replace hx217_0 := (HB.out.cell (World.block_lt_of_cell? w _ hx217_0)).trans hx217_0
              replace hx217_1 := (HB.out.cell (World.block_lt_of_cell? w _ hx217_1)).trans hx217_1
              replace p217 := eq_true p217
              replace q217 := eq_true q217
              have hnb12 := NB216_214.out
              have hnc12 := NB214_216.out
              have hcz13_0 : wr.cell? ⟨gb216, 0, none⟩ = some (.int .i64 x217000_1) := (blk_cell BK216.out 0).trans rfl
              have hcz13_1 : wr.cell? ⟨gb216, 1, none⟩ = some (.int .i64 x217001_1) := (blk_cell BK216.out 1).trans rfl
              have hfz13_0 := blk_frozen BK216.out 0
              have hfz13_1 := blk_frozen BK216.out 1
              go_wp2
              repeat (go_quiet (fail); try go_wp2)
              go_roundg k1
              case measure => have := HK1.out; omega
              case rel => exact ⟨(wrap64 (x5_1 + 1)), (x217000_1), (x217001_1), (by first | rfl | (simp; done) | (simp [*]; done)), H', ⟨by have := HK1.out; omega⟩, ⟨by (with_reducible repeat (first | refine blk_drewN ?_ _ | refine blk_drew ?_ | refine blk_alloc ?_ _)); exact BK214.out⟩, ⟨by (with_reducible repeat (first | refine blk_drewN ?_ _ | refine blk_drew ?_ | refine blk_alloc ?_ _)); exact BK216.out⟩, ⟨by repeat (first | (with_reducible first | exact HB.out | apply below_alloc | apply pw_below_drewN | apply below_drew1 | refine below_set ?_ GE214.out | refine below_set ?_ GE216.out) | exact HB.out)⟩⟩
          · rw [if_neg c8] at H
            exact absurd H (by simp)
        · rw [if_neg c7] at H
          have c7b0 : decide (x5_1 < (l0.length : Int)) = false := decide_eq_false c7
          clear c7
          have H' := Aside0.mk H
          clear H
          go_wp2
          repeat (go_quiet (fail); try go_wp2)
          go_loopg [6] k1 (fun kq v6 w' => ∃ (x6_2 : Bool) (x217001_2 : Int), v6 = .bool x6_2 ∧ Aside0 (intrusionref05_least.l1 kq l0 x6_2 x217000_1 x217001_2 = some (r1, r2, r3)) ∧ Aside0 (kq ≤ k1) ∧ Aside0 (w'.heap[gb214]? = some (.cells #[.int .i64 0, .int .i64 0] 52 (0, 0))) ∧ Aside0 (w'.heap[gb216]? = some (.cells #[.int .i64 x217000_1, .int .i64 x217001_2] 52 (0, 0))) ∧ Aside0 (Below w.heap.size w w'))
          case atStart => exact ⟨(true), (x217001_1), (by first | rfl | (simp; done) | (simp [*]; done)), H', ⟨Nat.le_refl _⟩, ⟨by (with_reducible repeat (first | refine blk_drewN ?_ _ | refine blk_drew ?_ | refine blk_alloc ?_ _)); exact BK214.out⟩, ⟨by (with_reducible repeat (first | refine blk_drewN ?_ _ | refine blk_drew ?_ | refine blk_alloc ?_ _)); exact BK216.out⟩, ⟨by repeat (first | (with_reducible first | exact HB.out | apply below_alloc | apply pw_below_drewN | apply below_drew1 | refine below_set ?_ GE214.out | refine below_set ?_ GE216.out) | exact HB.out)⟩⟩
          case round =>
            clear H'
            try clear c1
            try clear c2
            try clear c2b0
            try clear c2b1
            try clear p2
            try clear q2
            try clear hx2
            try clear qi2
            try clear c5
            try clear c6
            try clear p6
            try clear c7
            try clear c7b0
            try clear c8
            try clear c8b0
            try clear c9
            try clear c9b0
            try clear c10
            try clear c12
            try clear hcz11_0
            try clear hcz11_1
            try clear hcz13_0
            try clear hcz13_1
            try clear hcz6_0
            try clear hcz6_1
            try clear hfz11_0
            try clear hfz11_1
            try clear hfz13_0
            try clear hfz13_1
            try clear hfz6_0
            try clear hfz6_1
            try clear hx215_0
            try clear hx215_1
            try clear hx217_0
            try clear hx217_1
            try clear hx218_0
            try clear hx218_1
            try clear p2
            try clear p215
            try clear p217
            try clear p218
            try clear q2
            try clear q215
            try clear q217
            try clear q218
            obtain ⟨x6_2, x217001_2, rfl, HA, HK2, BK214, BK216, HB⟩ := hrel
            cases gk with
            | zero => exact absurd HA.out (by simp [intrusionref05_least.l1])
            | succ k2 =>
              have H := HA.out
              clear HA
              simp only [intrusionref05_least.l1] at H
              by_cases c14 : x6_2 = true
              · subst c14
                have H1 : (intrusionref05_least.l2 k2 l0 false 0 x217000_1 x217001_2) = some (r1, r2, r3) := by rw [if_pos rfl] at H; exact H
                clear H
                have H := H1
                clear H1
                have H' := Aside0.mk H
                clear H
                go_wp2
                repeat (go_quiet (fail); try go_wp2)
                go_loopg [6, 7] k2 (fun kq v6 v7 w' => ∃ (x6_3 : Bool) (x7_3 : Int) (x217001_3 : Int), v6 = .bool x6_3 ∧ v7 = .int .i64 x7_3 ∧ Aside0 (intrusionref05_least.l2 kq l0 x6_3 x7_3 x217000_1 x217001_3 = some (r1, r2, r3)) ∧ Aside0 (kq ≤ k2) ∧ Aside0 (w'.heap[gb214]? = some (.cells #[.int .i64 0, .int .i64 0] 52 (0, 0))) ∧ Aside0 (w'.heap[gb216]? = some (.cells #[.int .i64 x217000_1, .int .i64 x217001_3] 52 (0, 0))) ∧ Aside0 (Below w.heap.size w w'))
                case atStart => exact ⟨(false), (0), (x217001_2), (by first | rfl | (simp; done) | (simp [*]; done)), (by first | rfl | (simp; done) | (simp [*]; done)), H', ⟨Nat.le_refl _⟩, ⟨by (with_reducible repeat (first | refine blk_drewN ?_ _ | refine blk_drew ?_ | refine blk_alloc ?_ _)); exact BK214.out⟩, ⟨by (with_reducible repeat (first | refine blk_drewN ?_ _ | refine blk_drew ?_ | refine blk_alloc ?_ _)); exact BK216.out⟩, ⟨by repeat (first | (with_reducible first | exact HB.out | apply below_alloc | apply pw_below_drewN | apply below_drew1 | refine below_set ?_ GE214.out | refine below_set ?_ GE216.out) | exact HB.out)⟩⟩
                case round =>
                  clear H'
                  try clear c1
                  try clear c2
                  try clear c2b0
                  try clear c2b1
                  try clear p2
                  try clear q2
                  try clear hx2
                  try clear qi2
                  try clear c5
                  try clear c6
                  try clear p6
                  try clear c7
                  try clear c7b0
                  try clear c8
                  try clear c8b0
                  try clear c9
                  try clear c9b0
                  try clear c10
                  try clear c12
                  try clear c14
                  try clear hcz11_0
                  try clear hcz11_1
                  try clear hcz13_0
                  try clear hcz13_1
                  try clear hcz6_0
                  try clear hcz6_1
                  try clear hfz11_0
                  try clear hfz11_1
                  try clear hfz13_0
                  try clear hfz13_1
                  try clear hfz6_0
                  try clear hfz6_1
                  try clear hx215_0
                  try clear hx215_1
                  try clear hx217_0
                  try clear hx217_1
                  try clear hx218_0
                  try clear hx218_1
                  try clear p2
                  try clear p215
                  try clear p217
                  try clear p218
                  try clear p6
                  try clear q2
                  try clear q215
                  try clear q217
                  try clear q218
                  obtain ⟨x6_3, x7_3, x217001_3, rfl, rfl, HA, HK3, BK214, BK216, HB⟩ := hrel
                  cases gk with
                  | zero => exact absurd HA.out (by simp [intrusionref05_least.l2])
                  | succ k3 =>
                    have H := HA.out
                    clear HA
                    simp only [intrusionref05_least.l2] at H
                    by_cases c15 : x7_3 < (l0.length : Int)
                    · rw [if_pos c15] at H
                      have c15b0 : decide (x7_3 < (l0.length : Int)) = true := decide_eq_true c15
                      clear c15
                      by_cases c16 : 0 ≤ x7_3
                      · rw [if_pos c16] at H
                        have c16b0 : decide (0 ≤ x7_3) = true := decide_eq_true c16
                        clear c16
                        by_cases c17 : ((rd_T52 l0 x7_3).f0) ≤ (wrap64 (x217001_3 + 1))
                        · rw [if_pos c17] at H
                          have c17b0 : decide (((rd_T52 l0 x7_3).f0) ≤ (wrap64 (x217001_3 + 1))) = true := decide_eq_true c17
                          clear c17
                          by_cases c18 : ((rd_T52 l0 x7_3).f1) > x217001_3
                          · rw [if_pos c18] at H
                            have c18b0 : decide (x217001_3 < ((rd_T52 l0 x7_3).f1)) = true := decide_eq_true c18
                            clear c18
                            have H' := Aside0.mk H
                            clear H
                            have p219 : 0 ≤ (x7_3 : Int) := of_decide_eq_true (by first | (with_reducible assumption) | assumption)
                            have q219 : x7_3 < (l0.length : Int) := of_decide_eq_true (by first | (with_reducible assumption) | assumption)
                            obtain ⟨ad219, e219, hx219_0, hx219_1⟩ := at_T52 HR0.out x7_3 p219 q219
                            obtain rfl : ad215 = ad219 := (by injection e219)
                            replace hx219_0 := (HB.out.cell (World.block_lt_of_cell? w _ hx219_0)).trans hx219_0
                            replace hx219_1 := (HB.out.cell (World.block_lt_of_cell? w _ hx219_1)).trans hx219_1
                            replace p219 := eq_true p219
                            replace q219 := eq_true q219
                            have hnb19 := NB216_214.out
                            have hnc19 := NB214_216.out
                            have hcz20_0 : wr.cell? ⟨gb216, 0, none⟩ = some (.int .i64 x217000_1) := (blk_cell BK216.out 0).trans rfl
                            have hcz20_1 : wr.cell? ⟨gb216, 1, none⟩ = some (.int .i64 x217001_3) := (blk_cell BK216.out 1).trans rfl
                            have hfz20_0 := blk_frozen BK216.out 0
                            have hfz20_1 := blk_frozen BK216.out 1
                            have p220 : 0 ≤ (x7_3 : Int) := of_decide_eq_true (by first | (with_reducible assumption) | assumption)
                            have q220 : x7_3 < (l0.length : Int) := of_decide_eq_true (by first | (with_reducible assumption) | assumption)
                            obtain ⟨ad220, e220, hx220_0, hx220_1⟩ := at_T52 HR0.out x7_3 p220 q220
                            obtain rfl : ad215 = ad220 := (by injection e220)
                            replace hx220_0 := (HB.out.cell (World.block_lt_of_cell? w _ hx220_0)).trans hx220_0
                            replace hx220_1 := (HB.out.cell (World.block_lt_of_cell? w _ hx220_1)).trans hx220_1
                            replace p220 := eq_true p220
                            replace q220 := eq_true q220
                            have p221 : 0 ≤ (x7_3 : Int) := of_decide_eq_true (by first | (with_reducible assumption) | assumption)
                            have q221 : x7_3 < (l0.length : Int) := of_decide_eq_true (by first | (with_reducible assumption) | assumption)
                            obtain ⟨ad221, e221, hx221_0, hx221_1⟩ := at_T52 HR0.out x7_3 p221 q221
                            obtain rfl : ad215 = ad221 := (by injection e221)
                            replace hx221_0 := (HB.out.cell (World.block_lt_of_cell? w _ hx221_0)).trans hx221_0
                            replace hx221_1 := (HB.out.cell (World.block_lt_of_cell? w _ hx221_1)).trans hx221_1
                            replace p221 := eq_true p221
                            replace q221 := eq_true q221
                            go_wp2
                            repeat (go_quiet (fail); try go_wp2)
                            go_roundg k3
                            case measure => have := HK1.out; have := HK2.out; have := HK3.out; omega
                            case rel => exact ⟨(true), (wrap64 (x7_3 + 1)), ((rd_T52 l0 x7_3).f1), (by first | rfl | (simp; done) | (simp [*]; done)), (by first | rfl | (simp; done) | (simp [*]; done)), H', ⟨by have := HK1.out; have := HK2.out; have := HK3.out; omega⟩, ⟨by (with_reducible repeat (first | refine blk_drewN ?_ _ | refine blk_drew ?_ | refine blk_alloc ?_ _)); refine blk_far ?_ NB214_216.out _; (with_reducible repeat (first | refine blk_drewN ?_ _ | refine blk_drew ?_ | refine blk_alloc ?_ _)); exact BK214.out⟩, ⟨by (with_reducible repeat (first | refine blk_drewN ?_ _ | refine blk_drew ?_ | refine blk_alloc ?_ _)); refine blk_put (cs := #[.int .i64 x217000_1, .int .i64 x217001_3]) ?_ 1 _ rfl; (with_reducible repeat (first | refine blk_drewN ?_ _ | refine blk_drew ?_ | refine blk_alloc ?_ _)); exact BK216.out⟩, ⟨by repeat (first | (with_reducible first | exact HB.out | apply below_alloc | apply pw_below_drewN | apply below_drew1 | refine below_set ?_ GE214.out | refine below_set ?_ GE216.out) | exact HB.out)⟩⟩
                          · rw [if_neg c18] at H
                            have c18b0 : decide (x217001_3 < ((rd_T52 l0 x7_3).f1)) = false := decide_eq_false c18
                            clear c18
                            have H' := Aside0.mk H
                            clear H
                            have p219 : 0 ≤ (x7_3 : Int) := of_decide_eq_true (by first | (with_reducible assumption) | assumption)
                            have q219 : x7_3 < (l0.length : Int) := of_decide_eq_true (by first | (with_reducible assumption) | assumption)
                            obtain ⟨ad219, e219, hx219_0, hx219_1⟩ := at_T52 HR0.out x7_3 p219 q219
                            obtain rfl : ad215 = ad219 := (by injection e219)
                            replace hx219_0 := (HB.out.cell (World.block_lt_of_cell? w _ hx219_0)).trans hx219_0
                            replace hx219_1 := (HB.out.cell (World.block_lt_of_cell? w _ hx219_1)).trans hx219_1
                            replace p219 := eq_true p219
                            replace q219 := eq_true q219
                            have hnb21 := NB216_214.out
                            have hnc21 := NB214_216.out
                            have hcz22_0 : wr.cell? ⟨gb216, 0, none⟩ = some (.int .i64 x217000_1) := (blk_cell BK216.out 0).trans rfl
                            have hcz22_1 : wr.cell? ⟨gb216, 1, none⟩ = some (.int .i64 x217001_3) := (blk_cell BK216.out 1).trans rfl
                            have hfz22_0 := blk_frozen BK216.out 0
                            have hfz22_1 := blk_frozen BK216.out 1
                            have p220 : 0 ≤ (x7_3 : Int) := of_decide_eq_true (by first | (with_reducible assumption) | assumption)
                            have q220 : x7_3 < (l0.length : Int) := of_decide_eq_true (by first | (with_reducible assumption) | assumption)
                            obtain ⟨ad220, e220, hx220_0, hx220_1⟩ := at_T52 HR0.out x7_3 p220 q220
                            obtain rfl : ad215 = ad220 := (by injection e220)
                            replace hx220_0 := (HB.out.cell (World.block_lt_of_cell? w _ hx220_0)).trans hx220_0
                            replace hx220_1 := (HB.out.cell (World.block_lt_of_cell? w _ hx220_1)).trans hx220_1
                            replace p220 := eq_true p220
                            replace q220 := eq_true q220
                            go_wp2
                            repeat (go_quiet (fail); try go_wp2)
                            go_roundg k3
                            case measure => have := HK1.out; have := HK2.out; have := HK3.out; omega
                            case rel => exact ⟨(x6_3), (wrap64 (x7_3 + 1)), (x217001_3), (by first | rfl | (simp; done) | (simp [*]; done)), (by first | rfl | (simp; done) | (simp [*]; done)), H', ⟨by have := HK1.out; have := HK2.out; have := HK3.out; omega⟩, ⟨by (with_reducible repeat (first | refine blk_drewN ?_ _ | refine blk_drew ?_ | refine blk_alloc ?_ _)); exact BK214.out⟩, ⟨by (with_reducible repeat (first | refine blk_drewN ?_ _ | refine blk_drew ?_ | refine blk_alloc ?_ _)); exact BK216.out⟩, ⟨by repeat (first | (with_reducible first | exact HB.out | apply below_alloc | apply pw_below_drewN | apply below_drew1 | refine below_set ?_ GE214.out | refine below_set ?_ GE216.out) | exact HB.out)⟩⟩
                        · rw [if_neg c17] at H
                          have c17b0 : decide (((rd_T52 l0 x7_3).f0) ≤ (wrap64 (x217001_3 + 1))) = false := decide_eq_false c17
                          clear c17
                          have H' := Aside0.mk H
                          clear H
                          have p219 : 0 ≤ (x7_3 : Int) := of_decide_eq_true (by first | (with_reducible assumption) | assumption)
                          have q219 : x7_3 < (l0.length : Int) := of_decide_eq_true (by first | (with_reducible assumption) | assumption)
                          obtain ⟨ad219, e219, hx219_0, hx219_1⟩ := at_T52 HR0.out x7_3 p219 q219
                          obtain rfl : ad215 = ad219 := (by injection e219)
                          replace hx219_0 := (HB.out.cell (World.block_lt_of_cell? w _ hx219_0)).trans hx219_0
                          replace hx219_1 := (HB.out.cell (World.block_lt_of_cell? w _ hx219_1)).trans hx219_1
                          replace p219 := eq_true p219
                          replace q219 := eq_true q219
                          have hnb23 := NB216_214.out
                          have hnc23 := NB214_216.out
                          have hcz24_0 : wr.cell? ⟨gb216, 0, none⟩ = some (.int .i64 x217000_1) := (blk_cell BK216.out 0).trans rfl
                          have hcz24_1 : wr.cell? ⟨gb216, 1, none⟩ = some (.int .i64 x217001_3) := (blk_cell BK216.out 1).trans rfl
                          have hfz24_0 := blk_frozen BK216.out 0
                          have hfz24_1 := blk_frozen BK216.out 1
                          go_wp2
                          repeat (go_quiet (fail); try go_wp2)
                          go_roundg k3
                          case measure => have := HK1.out; have := HK2.out; have := HK3.out; omega
                          case rel => exact ⟨(x6_3), (wrap64 (x7_3 + 1)), (x217001_3), (by first | rfl | (simp; done) | (simp [*]; done)), (by first | rfl | (simp; done) | (simp [*]; done)), H', ⟨by have := HK1.out; have := HK2.out; have := HK3.out; omega⟩, ⟨by (with_reducible repeat (first | refine blk_drewN ?_ _ | refine blk_drew ?_ | refine blk_alloc ?_ _)); exact BK214.out⟩, ⟨by (with_reducible repeat (first | refine blk_drewN ?_ _ | refine blk_drew ?_ | refine blk_alloc ?_ _)); exact BK216.out⟩, ⟨by repeat (first | (with_reducible first | exact HB.out | apply below_alloc | apply pw_below_drewN | apply below_drew1 | refine below_set ?_ GE214.out | refine below_set ?_ GE216.out) | exact HB.out)⟩⟩
                      · rw [if_neg c16] at H
                        exact absurd H (by simp)
                    · rw [if_neg c15] at H
                      have c15b0 : decide (x7_3 < (l0.length : Int)) = false := decide_eq_false c15
                      clear c15
                      have H' := Aside0.mk H
                      clear H
                      go_wp2
                      repeat (go_quiet (fail); try go_wp2)
                      go_roundg k3
                      case measure => have := HK1.out; have := HK2.out; have := HK3.out; omega
                      case rel => exact ⟨(x6_3), (x217001_3), (by first | rfl | (simp; done) | (simp [*]; done)), H', ⟨by have := HK1.out; have := HK2.out; have := HK3.out; omega⟩, ⟨by (with_reducible repeat (first | refine blk_drewN ?_ _ | refine blk_drew ?_ | refine blk_alloc ?_ _)); exact BK214.out⟩, ⟨by (with_reducible repeat (first | refine blk_drewN ?_ _ | refine blk_drew ?_ | refine blk_alloc ?_ _)); exact BK216.out⟩, ⟨by repeat (first | (with_reducible first | exact HB.out | apply below_alloc | apply pw_below_drewN | apply below_drew1 | refine below_set ?_ GE214.out | refine below_set ?_ GE216.out) | exact HB.out)⟩⟩
              · replace c14 := Bool.eq_false_iff.mpr c14
                subst c14
                have H1 : (intrusionref05_least.l3 k2 l0 (([] : List (S52))) 0 x217000_1 x217001_2) = some (r1, r2, r3) := by rw [if_neg (show ¬ (false = true) by decide)] at H; exact H
                clear H
                have H := H1
                clear H1
                obtain ⟨y222, hy222⟩ : ∃ y_ : List (S52), y_ = (([] : List (S52))) := ⟨_, rfl⟩
                replace H : (intrusionref05_least.l3 k2 l0 y222 0 x217000_1 x217001_2) = some (r1, r2, r3) := by first | (rw [hy222]; with_reducible exact H) | (have H2_ := (Option.bind_some _ _).symm.trans H; rw [hy222]; with_reducible exact H2_) | (have H2_ := (Option.bind_some _ _).symm.trans H; with_reducible exact H2_) | with_reducible exact H | (rw [hy222]; exact H) | exact H
                have Ny222 := Aside0.mk hy222
                clear hy222
                have H' := Aside0.mk H
                clear H
                go_wp2_with (first | ((with_reducible refine gate_dst (N := 63) rfl ?_); refine Kd.R_lit k52 _ 52 ?hg (N := 63) ?hd (xs := ([] : List (S52))) (inner := []) (ok := fun _ => True) (okp := fun _ => True) ?hr ?hp (fun _ hk => hk) trivial (Below.refl _ _) (Nat.le_refl _) (by simp) ?_; (case hd => rfl); (case hg => rfl); (case hr => first | (go_simp; done) | (go_simp; rfl)); (case hp => exact (Reps.none _ _)); intro v223 w25 ho26 hb hg_ hnew_; clear hg_ hnew_; (first | rw [← Ny222.out] at ho26 | (simp only [Int.reduceToNat] at ho26; rw [← Ny222.out] at ho26)); have n0_ := Aside0.mk (Kd.R_lower (Kd.R_newB (Kd.R_newB ho26 (g := gb214) (o := .cells #[.int .i64 0, .int .i64 0] 52 (0, 0)) (by (with_reducible repeat (first | refine blk_drewN ?_ _ | refine blk_drew ?_ | refine blk_alloc ?_ _)); exact BK214.out)) (g := gb216) (o := .cells #[.int .i64 x217000_1, .int .i64 x217001_2] 52 (0, 0)) (by (with_reducible repeat (first | refine blk_drewN ?_ _ | refine blk_drew ?_ | refine blk_alloc ?_ _)); exact BK216.out)) (below_size (by repeat (first | (with_reducible first | exact HB.out | apply below_alloc | apply pw_below_drewN | apply below_drew1 | refine below_set ?_ GE214.out | refine below_set ?_ GE216.out) | exact HB.out)))); have n1_ := Aside0.mk (blk_below (g := gb214) (o := .cells #[.int .i64 0, .int .i64 0] 52 (0, 0)) (by (with_reducible repeat (first | refine blk_drewN ?_ _ | refine blk_drew ?_ | refine blk_alloc ?_ _)); exact BK214.out) hb); have n2_ := Aside0.mk (blk_below (g := gb216) (o := .cells #[.int .i64 x217000_1, .int .i64 x217001_2] 52 (0, 0)) (by (with_reducible repeat (first | refine blk_drewN ?_ _ | refine blk_drew ?_ | refine blk_alloc ?_ _)); exact BK216.out) hb); have n3_ := Aside0.mk (below_step (by repeat (first | (with_reducible first | exact HB.out | apply below_alloc | apply pw_below_drewN | apply below_drew1 | refine below_set ?_ GE214.out | refine below_set ?_ GE216.out) | exact HB.out)) hb); clear BK214; clear BK216; clear HB; have HO224 := n0_; have BK214 := n1_; have BK216 := n2_; have HB := n3_; clear n0_ n1_ n2_ n3_; clear hb ho26))
                repeat (go_quiet (first | ((with_reducible refine gate_dst (N := 63) rfl ?_); refine Kd.R_lit k52 _ 52 ?hg (N := 63) ?hd (xs := ([] : List (S52))) (inner := []) (ok := fun _ => True) (okp := fun _ => True) ?hr ?hp (fun _ hk => hk) trivial (Below.refl _ _) (Nat.le_refl _) (by simp) ?_; (case hd => rfl); (case hg => rfl); (case hr => first | (go_simp; done) | (go_simp; rfl)); (case hp => exact (Reps.none _ _)); intro v223 w25 ho26 hb hg_ hnew_; clear hg_ hnew_; (first | rw [← Ny222.out] at ho26 | (simp only [Int.reduceToNat] at ho26; rw [← Ny222.out] at ho26)); have n0_ := Aside0.mk (Kd.R_lower (Kd.R_newB (Kd.R_newB ho26 (g := gb214) (o := .cells #[.int .i64 0, .int .i64 0] 52 (0, 0)) (by (with_reducible repeat (first | refine blk_drewN ?_ _ | refine blk_drew ?_ | refine blk_alloc ?_ _)); exact BK214.out)) (g := gb216) (o := .cells #[.int .i64 x217000_1, .int .i64 x217001_2] 52 (0, 0)) (by (with_reducible repeat (first | refine blk_drewN ?_ _ | refine blk_drew ?_ | refine blk_alloc ?_ _)); exact BK216.out)) (below_size (by repeat (first | (with_reducible first | exact HB.out | apply below_alloc | apply pw_below_drewN | apply below_drew1 | refine below_set ?_ GE214.out | refine below_set ?_ GE216.out) | exact HB.out)))); have n1_ := Aside0.mk (blk_below (g := gb214) (o := .cells #[.int .i64 0, .int .i64 0] 52 (0, 0)) (by (with_reducible repeat (first | refine blk_drewN ?_ _ | refine blk_drew ?_ | refine blk_alloc ?_ _)); exact BK214.out) hb); have n2_ := Aside0.mk (blk_below (g := gb216) (o := .cells #[.int .i64 x217000_1, .int .i64 x217001_2] 52 (0, 0)) (by (with_reducible repeat (first | refine blk_drewN ?_ _ | refine blk_drew ?_ | refine blk_alloc ?_ _)); exact BK216.out) hb); have n3_ := Aside0.mk (below_step (by repeat (first | (with_reducible first | exact HB.out | apply below_alloc | apply pw_below_drewN | apply below_drew1 | refine below_set ?_ GE214.out | refine below_set ?_ GE216.out) | exact HB.out)) hb); clear BK214; clear BK216; clear HB; have HO224 := n0_; have BK214 := n1_; have BK216 := n2_; have HB := n3_; clear n0_ n1_ n2_ n3_; clear hb ho26)); try go_wp2_with (first | ((with_reducible refine gate_dst (N := 63) rfl ?_); refine Kd.R_lit k52 _ 52 ?hg (N := 63) ?hd (xs := ([] : List (S52))) (inner := []) (ok := fun _ => True) (okp := fun _ => True) ?hr ?hp (fun _ hk => hk) trivial (Below.refl _ _) (Nat.le_refl _) (by simp) ?_; (case hd => rfl); (case hg => rfl); (case hr => first | (go_simp; done) | (go_simp; rfl)); (case hp => exact (Reps.none _ _)); intro v223 w25 ho26 hb hg_ hnew_; clear hg_ hnew_; (first | rw [← Ny222.out] at ho26 | (simp only [Int.reduceToNat] at ho26; rw [← Ny222.out] at ho26)); have n0_ := Aside0.mk (Kd.R_lower (Kd.R_newB (Kd.R_newB ho26 (g := gb214) (o := .cells #[.int .i64 0, .int .i64 0] 52 (0, 0)) (by (with_reducible repeat (first | refine blk_drewN ?_ _ | refine blk_drew ?_ | refine blk_alloc ?_ _)); exact BK214.out)) (g := gb216) (o := .cells #[.int .i64 x217000_1, .int .i64 x217001_2] 52 (0, 0)) (by (with_reducible repeat (first | refine blk_drewN ?_ _ | refine blk_drew ?_ | refine blk_alloc ?_ _)); exact BK216.out)) (below_size (by repeat (first | (with_reducible first | exact HB.out | apply below_alloc | apply pw_below_drewN | apply below_drew1 | refine below_set ?_ GE214.out | refine below_set ?_ GE216.out) | exact HB.out)))); have n1_ := Aside0.mk (blk_below (g := gb214) (o := .cells #[.int .i64 0, .int .i64 0] 52 (0, 0)) (by (with_reducible repeat (first | refine blk_drewN ?_ _ | refine blk_drew ?_ | refine blk_alloc ?_ _)); exact BK214.out) hb); have n2_ := Aside0.mk (blk_below (g := gb216) (o := .cells #[.int .i64 x217000_1, .int .i64 x217001_2] 52 (0, 0)) (by (with_reducible repeat (first | refine blk_drewN ?_ _ | refine blk_drew ?_ | refine blk_alloc ?_ _)); exact BK216.out) hb); have n3_ := Aside0.mk (below_step (by repeat (first | (with_reducible first | exact HB.out | apply below_alloc | apply pw_below_drewN | apply below_drew1 | refine below_set ?_ GE214.out | refine below_set ?_ GE216.out) | exact HB.out)) hb); clear BK214; clear BK216; clear HB; have HO224 := n0_; have BK214 := n1_; have BK216 := n2_; have HB := n3_; clear n0_ n1_ n2_ n3_; clear hb ho26)))
                go_loopg [8, 9] k2 (fun kq v8 v9 w' => ∃ (x8_3 : List (S52)) (x9_3 : Int), v9 = .int .i64 x9_3 ∧ Aside0 (intrusionref05_least.l3 kq l0 x8_3 x9_3 x217000_1 x217001_2 = some (r1, r2, r3)) ∧ Aside0 (kq ≤ k2) ∧ Aside0 (Kd.R k52 52 w' w.heap.size (fun k_ => k_ ≠ gb214 ∧ k_ ≠ gb216) v8 x8_3) ∧ Aside0 (w'.heap[gb214]? = some (.cells #[.int .i64 0, .int .i64 0] 52 (0, 0))) ∧ Aside0 (w'.heap[gb216]? = some (.cells #[.int .i64 x217000_1, .int .i64 x217001_2] 52 (0, 0))) ∧ Aside0 (Below w.heap.size w w'))
                case atStart => exact ⟨(y222), (0), (by first | rfl | (simp; done) | (simp [*]; done)), H', ⟨Nat.le_refl _⟩, ⟨by (with_reducible repeat (first | apply Kd.R_alloc | apply Kd.R_drewN | apply Kd.R_drew)); exact Kd.R_mono HO224.out (fun _ hk => ⟨hk.1.2, hk.2⟩)⟩, ⟨by (with_reducible repeat (first | refine blk_drewN ?_ _ | refine blk_drew ?_ | refine blk_alloc ?_ _)); exact BK214.out⟩, ⟨by (with_reducible repeat (first | refine blk_drewN ?_ _ | refine blk_drew ?_ | refine blk_alloc ?_ _)); exact BK216.out⟩, ⟨by repeat (first | (with_reducible first | exact HB.out | apply below_alloc | apply pw_below_drewN | apply below_drew1 | refine below_set ?_ GE214.out | refine below_set ?_ GE216.out) | exact HB.out)⟩⟩
                case round =>
                  clear H'
                  try clear c1
                  try clear c2
                  try clear c2b0
                  try clear c2b1
                  try clear p2
                  try clear q2
                  try clear hx2
                  try clear qi2
                  try clear c5
                  try clear c6
                  try clear p6
                  try clear c7
                  try clear c7b0
                  try clear c8
                  try clear c8b0
                  try clear c9
                  try clear c9b0
                  try clear c10
                  try clear c12
                  try clear c14
                  try clear c15
                  try clear c15b0
                  try clear c16
                  try clear c16b0
                  try clear c17
                  try clear c17b0
                  try clear c18
                  try clear c18b0
                  try clear c19
                  try clear c21
                  try clear p21
                  try clear q21
                  try clear hx21
                  try clear qi21
                  try clear p22
                  try clear q22
                  try clear hx22
                  try clear c23
                  try clear hcz11_0
                  try clear hcz11_1
                  try clear hcz13_0
                  try clear hcz13_1
                  try clear hcz20_0
                  try clear hcz20_1
                  try clear hcz22_0
                  try clear hcz22_1
                  try clear hcz24_0
                  try clear hcz24_1
                  try clear hcz6_0
                  try clear hcz6_1
                  try clear hfz11_0
                  try clear hfz11_1
                  try clear hfz13_0
                  try clear hfz13_1
                  try clear hfz20_0
                  try clear hfz20_1
                  try clear hfz22_0
                  try clear hfz22_1
                  try clear hfz24_0
                  try clear hfz24_1
                  try clear hfz6_0
                  try clear hfz6_1
                  try clear hx215_0
                  try clear hx215_1
                  try clear hx217_0
                  try clear hx217_1
                  try clear hx218_0
                  try clear hx218_1
                  try clear hx219_0
                  try clear hx219_1
                  try clear hx220_0
                  try clear hx220_1
                  try clear hx221_0
                  try clear hx221_1
                  try clear p2
                  try clear p215
                  try clear p217
                  try clear p218
                  try clear p219
                  try clear p220
                  try clear p221
                  try clear p6
                  try clear q2
                  try clear q215
                  try clear q217
                  try clear q218
                  try clear q219
                  try clear q220
                  try clear q221
                  obtain ⟨x8_3, x9_3, rfl, HA, HK3, HO_8, BK214, BK216, HB⟩ := hrel
                  cases gk with
                  | zero => exact absurd HA.out (by simp [intrusionref05_least.l3])
                  | succ k3 =>
                    have H := HA.out
                    clear HA
                    simp only [intrusionref05_least.l3] at H
                    by_cases c27 : x9_3 < (l0.length : Int)
                    · rw [if_pos c27] at H
                      have c27b0 : decide (x9_3 < (l0.length : Int)) = true := decide_eq_true c27
                      clear c27
                      by_cases c28 : 0 ≤ x9_3
                      · rw [if_pos c28] at H
                        have c28b0 : decide (0 ≤ x9_3) = true := decide_eq_true c28
                        clear c28
                        by_cases c29 : ((rd_T52 l0 x9_3).f0) > x217001_2
                        · rw [if_pos c29] at H
                          have c29b0 : decide (x217001_2 < ((rd_T52 l0 x9_3).f0)) = true := decide_eq_true c29
                          clear c29
                          by_cases c30 : x8_3.length < 8796093022208
                          · rw [if_pos c30] at H
                            have LMc30 := Aside0.mk c30
                            clear c30
                            obtain ⟨y227, hy227⟩ : ∃ y_ : List (S52), y_ = (x8_3 ++ [(⟨(rd_T52 l0 x9_3).f0, (rd_T52 l0 x9_3).f1⟩ : S52)]) := ⟨_, rfl⟩
                            replace H : (intrusionref05_least.l3 k3 l0 y227 (wrap64 (x9_3 + 1)) x217000_1 x217001_2) = some (r1, r2, r3) := by first | (rw [hy227]; with_reducible exact H) | (have H2_ := (Option.bind_some _ _).symm.trans H; rw [hy227]; with_reducible exact H2_) | (have H2_ := (Option.bind_some _ _).symm.trans H; with_reducible exact H2_) | with_reducible exact H | (rw [hy227]; exact H) | exact H
                            have Ny227 := Aside0.mk hy227
                            clear hy227
                            have H' := Aside0.mk H
                            clear H
                            have p225 : 0 ≤ (x9_3 : Int) := of_decide_eq_true (by first | (with_reducible assumption) | assumption)
                            have q225 : x9_3 < (l0.length : Int) := of_decide_eq_true (by first | (with_reducible assumption) | assumption)
                            obtain ⟨ad225, e225, hx225_0, hx225_1⟩ := at_T52 HR0.out x9_3 p225 q225
                            obtain rfl : ad215 = ad225 := (by injection e225)
                            replace hx225_0 := (HB.out.cell (World.block_lt_of_cell? w _ hx225_0)).trans hx225_0
                            replace hx225_1 := (HB.out.cell (World.block_lt_of_cell? w _ hx225_1)).trans hx225_1
                            replace p225 := eq_true p225
                            replace q225 := eq_true q225
                            have hnb31 := NB216_214.out
                            have hnc31 := NB214_216.out
                            have hcz32_0 : wr.cell? ⟨gb216, 0, none⟩ = some (.int .i64 x217000_1) := (blk_cell BK216.out 0).trans rfl
                            have hcz32_1 : wr.cell? ⟨gb216, 1, none⟩ = some (.int .i64 x217001_2) := (blk_cell BK216.out 1).trans rfl
                            have hfz32_0 := blk_frozen BK216.out 0
                            have hfz32_1 := blk_frozen BK216.out 1
                            have p226 : 0 ≤ (x9_3 : Int) := of_decide_eq_true (by first | (with_reducible assumption) | assumption)
                            have q226 : x9_3 < (l0.length : Int) := of_decide_eq_true (by first | (with_reducible assumption) | assumption)
                            obtain ⟨ad226, e226, hx226_0, hx226_1⟩ := at_T52 HR0.out x9_3 p226 q226
                            obtain rfl : ad215 = ad226 := (by injection e226)
                            replace hx226_0 := (HB.out.cell (World.block_lt_of_cell? w _ hx226_0)).trans hx226_0
                            replace hx226_1 := (HB.out.cell (World.block_lt_of_cell? w _ hx226_1)).trans hx226_1
                            replace p226 := eq_true p226
                            replace q226 := eq_true q226
                            go_wp2_with (first | ((with_reducible refine gate_builtin (b := .append) (xs := #[.tmp 78, .tmp 83]) rfl ?_); at_builtin; refine Kd.R_append k52 (w0 := w) w.heap.size rfl (.tmp 78) (.tmp 83) 22 52 (.agg #[(.int .i64 0), (.int .i64 0)]) 16 rfl Try.underlying22 info52 rfl (by decide) (by omega) u8 x8_3 (⟨(rd_T52 l0 x9_3).f0, (rd_T52 l0 x9_3).f1⟩ : S52) [.int .i64 ((rd_T52 l0 x9_3).f0), .int .i64 ((rd_T52 l0 x9_3).f1)] (fun k_ => k_ ≠ gb214 ∧ k_ ≠ gb216) (fun _ => False) rfl rfl ?aP (fun _ hk => hk.elim) ?aF ?aO ?aB ?aS ?aL ?_; (case aP => exact k52_mkM _ _ _ (⟨(rd_T52 l0 x9_3).f0, (rd_T52 l0 x9_3).f1⟩ : S52)); (case aB => exact (by repeat (first | (with_reducible first | exact HB.out | apply below_alloc | apply pw_below_drewN | apply below_drew1 | refine below_set ?_ GE214.out | refine below_set ?_ GE216.out) | exact HB.out))); (case aF => exact (fun k_ hk => ⟨Kd.freshB (g := gb214) (o := .cells #[.int .i64 0, .int .i64 0] 52 (0, 0)) (by (with_reducible repeat (first | refine blk_drewN ?_ _ | refine blk_drew ?_ | refine blk_alloc ?_ _)); exact BK214.out) k_ hk, Kd.freshB (g := gb216) (o := .cells #[.int .i64 x217000_1, .int .i64 x217001_2] 52 (0, 0)) (by (with_reducible repeat (first | refine blk_drewN ?_ _ | refine blk_drew ?_ | refine blk_alloc ?_ _)); exact BK216.out) k_ hk⟩)); (case aO => exact (by (with_reducible repeat (first | apply Kd.R_alloc | apply Kd.R_drewN | apply Kd.R_drew)); exact HO_8.out)); (case aS => exact (below_size (by repeat (first | (with_reducible first | exact HB.out | apply below_alloc | apply pw_below_drewN | apply below_drew1 | refine below_set ?_ GE214.out | refine below_set ?_ GE216.out) | exact HB.out)))); (case aL => have := LMc30.out; omega); intro v228 w33 ho hb hg hat; rw [← Ny227.out] at ho; have n0_ := Aside0.mk (blk_grown (g := gb214) (o := .cells #[.int .i64 0, .int .i64 0] 52 (0, 0)) (by (with_reducible repeat (first | refine blk_drewN ?_ _ | refine blk_drew ?_ | refine blk_alloc ?_ _)); exact BK214.out) hg (Kd.R_away HO_8.out (fun _ hk => hk.1))); have n1_ := Aside0.mk (blk_grown (g := gb216) (o := .cells #[.int .i64 x217000_1, .int .i64 x217001_2] 52 (0, 0)) (by (with_reducible repeat (first | refine blk_drewN ?_ _ | refine blk_drew ?_ | refine blk_alloc ?_ _)); exact BK216.out) hg (Kd.R_away HO_8.out (fun _ hk => hk.2))); have n2_ := Aside0.mk (hb); have n3_ := Aside0.mk (ho); clear BK214; clear BK216; clear HB; clear HO_8; have BK214 := n0_; have BK216 := n1_; have HB := n2_; have HO229 := n3_; clear n0_ n1_ n2_ n3_; clear ho hb hg hat))
                            repeat (go_quiet (first | ((with_reducible refine gate_builtin (b := .append) (xs := #[.tmp 78, .tmp 83]) rfl ?_); at_builtin; refine Kd.R_append k52 (w0 := w) w.heap.size rfl (.tmp 78) (.tmp 83) 22 52 (.agg #[(.int .i64 0), (.int .i64 0)]) 16 rfl Try.underlying22 info52 rfl (by decide) (by omega) u8 x8_3 (⟨(rd_T52 l0 x9_3).f0, (rd_T52 l0 x9_3).f1⟩ : S52) [.int .i64 ((rd_T52 l0 x9_3).f0), .int .i64 ((rd_T52 l0 x9_3).f1)] (fun k_ => k_ ≠ gb214 ∧ k_ ≠ gb216) (fun _ => False) rfl rfl ?aP (fun _ hk => hk.elim) ?aF ?aO ?aB ?aS ?aL ?_; (case aP => exact k52_mkM _ _ _ (⟨(rd_T52 l0 x9_3).f0, (rd_T52 l0 x9_3).f1⟩ : S52)); (case aB => exact (by repeat (first | (with_reducible first | exact HB.out | apply below_alloc | apply pw_below_drewN | apply below_drew1 | refine below_set ?_ GE214.out | refine below_set ?_ GE216.out) | exact HB.out))); (case aF => exact (fun k_ hk => ⟨Kd.freshB (g := gb214) (o := .cells #[.int .i64 0, .int .i64 0] 52 (0, 0)) (by (with_reducible repeat (first | refine blk_drewN ?_ _ | refine blk_drew ?_ | refine blk_alloc ?_ _)); exact BK214.out) k_ hk, Kd.freshB (g := gb216) (o := .cells #[.int .i64 x217000_1, .int .i64 x217001_2] 52 (0, 0)) (by (with_reducible repeat (first | refine blk_drewN ?_ _ | refine blk_drew ?_ | refine blk_alloc ?_ _)); exact BK216.out) k_ hk⟩)); (case aO => exact (by (with_reducible repeat (first | apply Kd.R_alloc | apply Kd.R_drewN | apply Kd.R_drew)); exact HO_8.out)); (case aS => exact (below_size (by repeat (first | (with_reducible first | exact HB.out | apply below_alloc | apply pw_below_drewN | apply below_drew1 | refine below_set ?_ GE214.out | refine below_set ?_ GE216.out) | exact HB.out)))); (case aL => have := LMc30.out; omega); intro v228 w33 ho hb hg hat; rw [← Ny227.out] at ho; have n0_ := Aside0.mk (blk_grown (g := gb214) (o := .cells #[.int .i64 0, .int .i64 0] 52 (0, 0)) (by (with_reducible repeat (first | refine blk_drewN ?_ _ | refine blk_drew ?_ | refine blk_alloc ?_ _)); exact BK214.out) hg (Kd.R_away HO_8.out (fun _ hk => hk.1))); have n1_ := Aside0.mk (blk_grown (g := gb216) (o := .cells #[.int .i64 x217000_1, .int .i64 x217001_2] 52 (0, 0)) (by (with_reducible repeat (first | refine blk_drewN ?_ _ | refine blk_drew ?_ | refine blk_alloc ?_ _)); exact BK216.out) hg (Kd.R_away HO_8.out (fun _ hk => hk.2))); have n2_ := Aside0.mk (hb); have n3_ := Aside0.mk (ho); clear BK214; clear BK216; clear HB; clear HO_8; have BK214 := n0_; have BK216 := n1_; have HB := n2_; have HO229 := n3_; clear n0_ n1_ n2_ n3_; clear ho hb hg hat)); try go_wp2_with (first | ((with_reducible refine gate_builtin (b := .append) (xs := #[.tmp 78, .tmp 83]) rfl ?_); at_builtin; refine Kd.R_append k52 (w0 := w) w.heap.size rfl (.tmp 78) (.tmp 83) 22 52 (.agg #[(.int .i64 0), (.int .i64 0)]) 16 rfl Try.underlying22 info52 rfl (by decide) (by omega) u8 x8_3 (⟨(rd_T52 l0 x9_3).f0, (rd_T52 l0 x9_3).f1⟩ : S52) [.int .i64 ((rd_T52 l0 x9_3).f0), .int .i64 ((rd_T52 l0 x9_3).f1)] (fun k_ => k_ ≠ gb214 ∧ k_ ≠ gb216) (fun _ => False) rfl rfl ?aP (fun _ hk => hk.elim) ?aF ?aO ?aB ?aS ?aL ?_; (case aP => exact k52_mkM _ _ _ (⟨(rd_T52 l0 x9_3).f0, (rd_T52 l0 x9_3).f1⟩ : S52)); (case aB => exact (by repeat (first | (with_reducible first | exact HB.out | apply below_alloc | apply pw_below_drewN | apply below_drew1 | refine below_set ?_ GE214.out | refine below_set ?_ GE216.out) | exact HB.out))); (case aF => exact (fun k_ hk => ⟨Kd.freshB (g := gb214) (o := .cells #[.int .i64 0, .int .i64 0] 52 (0, 0)) (by (with_reducible repeat (first | refine blk_drewN ?_ _ | refine blk_drew ?_ | refine blk_alloc ?_ _)); exact BK214.out) k_ hk, Kd.freshB (g := gb216) (o := .cells #[.int .i64 x217000_1, .int .i64 x217001_2] 52 (0, 0)) (by (with_reducible repeat (first | refine blk_drewN ?_ _ | refine blk_drew ?_ | refine blk_alloc ?_ _)); exact BK216.out) k_ hk⟩)); (case aO => exact (by (with_reducible repeat (first | apply Kd.R_alloc | apply Kd.R_drewN | apply Kd.R_drew)); exact HO_8.out)); (case aS => exact (below_size (by repeat (first | (with_reducible first | exact HB.out | apply below_alloc | apply pw_below_drewN | apply below_drew1 | refine below_set ?_ GE214.out | refine below_set ?_ GE216.out) | exact HB.out)))); (case aL => have := LMc30.out; omega); intro v228 w33 ho hb hg hat; rw [← Ny227.out] at ho; have n0_ := Aside0.mk (blk_grown (g := gb214) (o := .cells #[.int .i64 0, .int .i64 0] 52 (0, 0)) (by (with_reducible repeat (first | refine blk_drewN ?_ _ | refine blk_drew ?_ | refine blk_alloc ?_ _)); exact BK214.out) hg (Kd.R_away HO_8.out (fun _ hk => hk.1))); have n1_ := Aside0.mk (blk_grown (g := gb216) (o := .cells #[.int .i64 x217000_1, .int .i64 x217001_2] 52 (0, 0)) (by (with_reducible repeat (first | refine blk_drewN ?_ _ | refine blk_drew ?_ | refine blk_alloc ?_ _)); exact BK216.out) hg (Kd.R_away HO_8.out (fun _ hk => hk.2))); have n2_ := Aside0.mk (hb); have n3_ := Aside0.mk (ho); clear BK214; clear BK216; clear HB; clear HO_8; have BK214 := n0_; have BK216 := n1_; have HB := n2_; have HO229 := n3_; clear n0_ n1_ n2_ n3_; clear ho hb hg hat)))
                            go_roundg k3
                            case measure => have := HK1.out; have := HK2.out; have := HK3.out; omega
                            case rel => exact ⟨(y227), (wrap64 (x9_3 + 1)), (by first | rfl | (simp; done) | (simp [*]; done)), H', ⟨by have := HK1.out; have := HK2.out; have := HK3.out; omega⟩, ⟨by (with_reducible repeat (first | apply Kd.R_alloc | apply Kd.R_drewN | apply Kd.R_drew)); exact HO229.out⟩, ⟨by (with_reducible repeat (first | refine blk_drewN ?_ _ | refine blk_drew ?_ | refine blk_alloc ?_ _)); exact BK214.out⟩, ⟨by (with_reducible repeat (first | refine blk_drewN ?_ _ | refine blk_drew ?_ | refine blk_alloc ?_ _)); exact BK216.out⟩, ⟨by repeat (first | (with_reducible first | exact HB.out | apply below_alloc | apply pw_below_drewN | apply below_drew1 | refine below_set ?_ GE214.out | refine below_set ?_ GE216.out) | exact HB.out)⟩⟩
                          · rw [if_neg c30] at H
                            exact absurd H (by simp)
                        · rw [if_neg c29] at H
                          have c29b0 : decide (x217001_2 < ((rd_T52 l0 x9_3).f0)) = false := decide_eq_false c29
                          clear c29
                          have H' := Aside0.mk H
                          clear H
                          have p225 : 0 ≤ (x9_3 : Int) := of_decide_eq_true (by first | (with_reducible assumption) | assumption)
                          have q225 : x9_3 < (l0.length : Int) := of_decide_eq_true (by first | (with_reducible assumption) | assumption)
                          obtain ⟨ad225, e225, hx225_0, hx225_1⟩ := at_T52 HR0.out x9_3 p225 q225
                          obtain rfl : ad215 = ad225 := (by injection e225)
                          replace hx225_0 := (HB.out.cell (World.block_lt_of_cell? w _ hx225_0)).trans hx225_0
                          replace hx225_1 := (HB.out.cell (World.block_lt_of_cell? w _ hx225_1)).trans hx225_1
                          replace p225 := eq_true p225
                          replace q225 := eq_true q225
                          have hnb34 := NB216_214.out
                          have hnc34 := NB214_216.out
                          have hcz35_0 : wr.cell? ⟨gb216, 0, none⟩ = some (.int .i64 x217000_1) := (blk_cell BK216.out 0).trans rfl
                          have hcz35_1 : wr.cell? ⟨gb216, 1, none⟩ = some (.int .i64 x217001_2) := (blk_cell BK216.out 1).trans rfl
                          have hfz35_0 := blk_frozen BK216.out 0
                          have hfz35_1 := blk_frozen BK216.out 1
                          go_wp2
                          repeat (go_quiet (fail); try go_wp2)
                          go_roundg k3
                          case measure => have := HK1.out; have := HK2.out; have := HK3.out; omega
                          case rel => exact ⟨(x8_3), (wrap64 (x9_3 + 1)), (by first | rfl | (simp; done) | (simp [*]; done)), H', ⟨by have := HK1.out; have := HK2.out; have := HK3.out; omega⟩, ⟨by (with_reducible repeat (first | apply Kd.R_alloc | apply Kd.R_drewN | apply Kd.R_drew)); exact HO_8.out⟩, ⟨by (with_reducible repeat (first | refine blk_drewN ?_ _ | refine blk_drew ?_ | refine blk_alloc ?_ _)); exact BK214.out⟩, ⟨by (with_reducible repeat (first | refine blk_drewN ?_ _ | refine blk_drew ?_ | refine blk_alloc ?_ _)); exact BK216.out⟩, ⟨by repeat (first | (with_reducible first | exact HB.out | apply below_alloc | apply pw_below_drewN | apply below_drew1 | refine below_set ?_ GE214.out | refine below_set ?_ GE216.out) | exact HB.out)⟩⟩
                      · rw [if_neg c28] at H
                        exact absurd H (by simp)
                    · rw [if_neg c27] at H
                      have c27b0 : decide (x9_3 < (l0.length : Int)) = false := decide_eq_false c27
                      clear c27
                      simp only [Option.some.injEq, Prod.mk.injEq] at H
                      obtain ⟨rfl, rfl, rfl⟩ := H
                      have hnb36 := NB216_214.out
                      have hnc36 := NB214_216.out
                      have hcz37_0 : wr.cell? ⟨gb216, 0, none⟩ = some (.int .i64 x217000_1) := (blk_cell BK216.out 0).trans rfl
                      have hcz37_1 : wr.cell? ⟨gb216, 1, none⟩ = some (.int .i64 x217001_2) := (blk_cell BK216.out 1).trans rfl
                      have hfz37_0 := blk_frozen BK216.out 0
                      have hfz37_1 := blk_frozen BK216.out 1
                      have hcz38_0 : wr.cell? ⟨gb214, 0, none⟩ = some (.int .i64 0) := (blk_cell BK214.out 0).trans rfl
                      have hcz38_1 : wr.cell? ⟨gb214, 1, none⟩ = some (.int .i64 0) := (blk_cell BK214.out 1).trans rfl
                      have hfz38_0 := blk_frozen BK214.out 0
                      have hfz38_1 := blk_frozen BK214.out 1
                      go_wp2
                      repeat (go_quiet (fail); try go_wp2)
                      refine bodyPost_ret (results_ct rfl _ _ gb214 52 #[.int .i64 x217000_1, .int .i64 x217001_2] (0, 0) _ rfl (by (with_reducible repeat (first | refine blk_drewN ?_ _ | refine blk_drew ?_ | refine blk_alloc ?_ _)); refine blk_put (cs := #[.int .i64 x217000_1, .int .i64 0]) ?_ 1 _ rfl; (with_reducible repeat (first | refine blk_drewN ?_ _ | refine blk_drew ?_ | refine blk_alloc ?_ _)); refine blk_put (cs := #[.int .i64 0, .int .i64 0]) ?_ 0 _ rfl; (with_reducible repeat (first | refine blk_drewN ?_ _ | refine blk_drew ?_ | refine blk_alloc ?_ _)); exact BK214.out) Try.underlying52 rfl (by kernel_rfl)) rfl ?_
                      exact ⟨_, by first | rfl | (simp [errW_none, errW_some] <;> rfl) | (simp [*, errW_none, errW_some] <;> rfl), by (with_reducible repeat (first | apply Kd.R_alloc | apply Kd.R_drewN | apply Kd.R_drew)); exact Kd.R_mono (Kd.R_far (p := ⟨gb214, 1, none⟩) (Kd.R_far (p := ⟨gb214, 0, none⟩) (Kd.R_mono HO_8.out (fun k_ hk => (⟨hk, hk.1⟩ : _ ∧ k_ ≠ gb214))) (fun _ hk => hk.2) (.int .i64 x217000_1)) (fun _ hk => hk.2) (.int .i64 x217001_2)) (fun _ hk => trivial), by repeat (first | (with_reducible first | exact HB.out | apply below_alloc | apply pw_below_drewN | apply below_drew1 | refine below_set ?_ GE214.out | refine below_set ?_ GE216.out) | exact HB.out)⟩
  · rw [if_neg c2] at H
    exact absurd H (by simp)
end Go.Proofs.Ytcgfpffgiimgmaa.Q
end

section
namespace Go.Proofs.Ytcgfpffgiimgmaa.Q
open Go.RowKit Go.Proofs.YtcgfpffgiimgmaaW.PrintWords Go.Proofs.YtcgfpffgiimgmaaW.PrintLast Go.Proofs.YtcgfpffgiimgmaaW.PrintMore
attribute [local go_sem] max2_int min2_int max_two min_two max_three min_three max_four min_four
set_option linter.unusedVariables false
set_option linter.unusedSimpArgs false
mutual
def intrusionref05_Normal.l0 : Nat → List (S52) → List (S52) → Int → Option ((List (S52)))
  | 0, _, _, _ => none
  | k + 1, x0, x3, x4 => if x4 < (x0.length : Int) then (if 0 ≤ x4 then ((intrusionref05_cut.f ((rd_T52 x0 x4).f0) ((rd_T52 x0 x4).f1) 0 4294967296).bind fun bt234 => (if bt234.2.2 = true then (if x3.length < 8796093022208 then (intrusionref05_Normal.l0 k x0 (x3 ++ [(⟨bt234.1, bt234.2.1⟩ : S52)]) (wrap64 (x4 + 1))) else (none)) else (intrusionref05_Normal.l0 k x0 x3 (wrap64 (x4 + 1))))) else (none)) else (intrusionref05_Normal.l1 k x3 (([] : List (S52))))
def intrusionref05_Normal.l1 : Nat → List (S52) → List (S52) → Option ((List (S52)))
  | 0, _, _ => none
  | k + 1, x3, x7 => if (x3.length : Int) > 0 then ((intrusionref05_least.f k x3).bind fun bt244 => (if x7.length < 8796093022208 then (intrusionref05_Normal.l1 k bt244.2.2 (x7 ++ [(⟨bt244.1, bt244.2.1⟩ : S52)])) else (none))) else (some x7)
end
def intrusionref05_Normal.f (k : Nat) (l0 : List (S52)) : Option ((List (S52))) := intrusionref05_Normal.l0 k l0 (([] : List (S52))) 0
theorem intrusionref05_Normal.mono_l : ∀ k, (∀ y0 y1 y2, LeO (intrusionref05_Normal.l0 k y0 y1 y2) (intrusionref05_Normal.l0 (k + 1) y0 y1 y2)) ∧ (∀ y0 y1, LeO (intrusionref05_Normal.l1 k y0 y1) (intrusionref05_Normal.l1 (k + 1) y0 y1))
  | 0 => ⟨fun _ _ _ r h => by simp [intrusionref05_Normal.l0] at h, fun _ _ r h => by simp [intrusionref05_Normal.l1] at h⟩
  | k + 1 => by
    obtain ⟨ih0, ih1⟩ := intrusionref05_Normal.mono_l k
    refine ⟨?_, ?_⟩
    · intro y0 y1 y2
      unfold intrusionref05_Normal.l0
      repeat' first
      | (with_reducible exact ih0 _ _ _)
      | (with_reducible exact ih1 _ _)
      | (with_reducible exact intrusionref05_least.mono _ _)
      | (with_reducible exact LeO.refl _)
      | (with_reducible exact LeO.none _)
      | (with_reducible refine LeO.ite ?_ ?_)
      | (with_reducible refine LeO.bind ?_ (fun _ => ?_))
      | exact ih0 _ _ _
      | exact ih1 _ _
      | exact intrusionref05_least.mono _ _
      | exact LeO.none _
      | refine LeO.ite ?_ ?_
      | refine LeO.bind ?_ (fun _ => ?_)
    · intro y0 y1
      unfold intrusionref05_Normal.l1
      repeat' first
      | (with_reducible exact ih0 _ _ _)
      | (with_reducible exact ih1 _ _)
      | (with_reducible exact intrusionref05_least.mono _ _)
      | (with_reducible exact LeO.refl _)
      | (with_reducible exact LeO.none _)
      | (with_reducible refine LeO.ite ?_ ?_)
      | (with_reducible refine LeO.bind ?_ (fun _ => ?_))
      | exact ih0 _ _ _
      | exact ih1 _ _
      | exact intrusionref05_least.mono _ _
      | exact LeO.none _
      | refine LeO.ite ?_ ?_
      | refine LeO.bind ?_ (fun _ => ?_)
theorem intrusionref05_Normal.mono : ∀ a0 k, LeO (intrusionref05_Normal.f k a0) (intrusionref05_Normal.f (k + 1) a0) := by
  intro a0 k
  obtain ⟨ih0, ih1⟩ := intrusionref05_Normal.mono_l k
  unfold intrusionref05_Normal.f
  repeat' first
      | (with_reducible exact ih0 _ _ _)
      | (with_reducible exact ih1 _ _)
      | (with_reducible exact intrusionref05_least.mono _ _)
      | (with_reducible exact LeO.refl _)
      | (with_reducible exact LeO.none _)
      | (with_reducible refine LeO.ite ?_ ?_)
      | (with_reducible refine LeO.bind ?_ (fun _ => ?_))
      | exact ih0 _ _ _
      | exact ih1 _ _
      | exact intrusionref05_least.mono _ _
      | exact LeO.none _
      | refine LeO.ite ?_ ?_
      | refine LeO.bind ?_ (fun _ => ?_)
set_option maxHeartbeats 8000000 in
set_option maxRecDepth 100000 in
theorem intrusionref05_Normal.calls (k : Nat) (A0 : Option Addr) (c0 : Nat) (l0 : List (S52)) (r : List (S52)) (w : World) (hr0 : Kd.C k52 w A0 l0.length l0) (hc0 : l0.length ≤ c0) (h : intrusionref05_Normal.f k l0 = some r) :
    Calls Try.prog 20 #[.slice A0 l0.length c0] w fun e w' => ∃ v0_ : Value, e = .returned (v0_) ∧ Kd.R k52 52 w' w.heap.size (fun _ => True) v0_ r ∧ Below w.heap.size w w' := by
  have hu52 := Try.underlying52
  have HR0 := Aside0.mk hr0
  have HC0 := Aside0.mk hc0
  clear hr0 hc0
  have HB := Aside0.mk (Below.refl w.heap.size w)
  have H : (intrusionref05_Normal.l0 k l0 (([] : List (S52))) 0) = some r := h
  clear h
  obtain ⟨y230, hy230⟩ : ∃ y_ : List (S52), y_ = (([] : List (S52))) := ⟨_, rfl⟩
  replace H : (intrusionref05_Normal.l0 k l0 y230 0) = some r := by first | (rw [hy230]; with_reducible exact H) | (have H2_ := (Option.bind_some _ _).symm.trans H; rw [hy230]; with_reducible exact H2_) | (have H2_ := (Option.bind_some _ _).symm.trans H; with_reducible exact H2_) | with_reducible exact H | (rw [hy230]; exact H) | exact H
  have Ny230 := Aside0.mk hy230
  clear hy230
  have H' := Aside0.mk H
  clear H
  go_enter Try.func20, Try.ntmps20
  go_wp2_with (first | ((with_reducible refine gate_dst (N := 10) rfl ?_); refine Kd.R_lit k52 _ 52 ?hg (N := 10) ?hd (xs := ([] : List (S52))) (inner := []) (ok := fun _ => True) (okp := fun _ => True) ?hr ?hp (fun _ hk => hk) trivial (Below.refl _ _) (Nat.le_refl _) (by simp) ?_; (case hd => rfl); (case hg => rfl); (case hr => first | (go_simp; done) | (go_simp; rfl)); (case hp => exact (Reps.none _ _)); intro v231 w2 ho3 hb hg_ hnew_; clear hg_ hnew_; (first | rw [← Ny230.out] at ho3 | (simp only [Int.reduceToNat] at ho3; rw [← Ny230.out] at ho3)); have n0_ := Aside0.mk (Kd.R_lower ho3 (below_size (by repeat (first | (with_reducible first | exact HB.out | apply below_alloc | apply pw_below_drewN | apply below_drew1) | exact HB.out)))); have n1_ := Aside0.mk (below_step (by repeat (first | (with_reducible first | exact HB.out | apply below_alloc | apply pw_below_drewN | apply below_drew1) | exact HB.out)) hb); clear HB; have HO232 := n0_; have HB := n1_; clear n0_ n1_; clear hb ho3))
  go_loopg [3, 4] k (fun kq v3 v4 w' => ∃ (x3_1 : List (S52)) (x4_1 : Int), v4 = .int .i64 x4_1 ∧ Aside0 (intrusionref05_Normal.l0 kq l0 x3_1 x4_1 = some r) ∧ Aside0 (kq ≤ k) ∧ Aside0 (Kd.R k52 52 w' w.heap.size (fun _ => True) v3 x3_1) ∧ Aside0 (Below w.heap.size w w'))
  case atStart => exact ⟨(y230), (0), (by first | rfl | (simp; done) | (simp [*]; done)), H', ⟨Nat.le_refl _⟩, ⟨by (with_reducible repeat (first | apply Kd.R_alloc | apply Kd.R_drewN | apply Kd.R_drew)); exact HO232.out⟩, ⟨by repeat (first | (with_reducible first | exact HB.out | apply below_alloc | apply pw_below_drewN | apply below_drew1) | exact HB.out)⟩⟩
  case round =>
    clear H'
    try clear c2
    try clear p2
    obtain ⟨x3_1, x4_1, rfl, HA, HK1, HO_3, HB⟩ := hrel
    cases gk with
    | zero => exact absurd HA.out (by simp [intrusionref05_Normal.l0])
    | succ k1 =>
      have H := HA.out
      clear HA
      simp only [intrusionref05_Normal.l0] at H
      by_cases c4 : x4_1 < (l0.length : Int)
      · rw [if_pos c4] at H
        have c4b0 : decide (x4_1 < (l0.length : Int)) = true := decide_eq_true c4
        clear c4
        by_cases c5 : 0 ≤ x4_1
        · rw [if_pos c5] at H
          have c5b0 : decide (0 ≤ x4_1) = true := decide_eq_true c5
          clear c5
          replace H := Option.bind_eq_some_iff.mp H
          obtain ⟨⟨t234, t235, t236⟩, A60, H⟩ := H
          replace H : (if t236 = true then (if x3_1.length < 8796093022208 then (intrusionref05_Normal.l0 k1 l0 (x3_1 ++ [(⟨t234, t235⟩ : S52)]) (wrap64 (x4_1 + 1))) else (none)) else (intrusionref05_Normal.l0 k1 l0 x3_1 (wrap64 (x4_1 + 1)))) = some r := H
          have A6 := Aside0.mk A60
          clear A60
          by_cases c7 : t236 = true
          · subst c7
            have H1 : (if x3_1.length < 8796093022208 then (intrusionref05_Normal.l0 k1 l0 (x3_1 ++ [(⟨t234, t235⟩ : S52)]) (wrap64 (x4_1 + 1))) else (none)) = some r := by rw [if_pos rfl] at H; exact H
            clear H
            have H := H1
            clear H1
            by_cases c8 : x3_1.length < 8796093022208
            · rw [if_pos c8] at H
              have LMc8 := Aside0.mk c8
              clear c8
              obtain ⟨y238, hy238⟩ : ∃ y_ : List (S52), y_ = (x3_1 ++ [(⟨t234, t235⟩ : S52)]) := ⟨_, rfl⟩
              replace H : (intrusionref05_Normal.l0 k1 l0 y238 (wrap64 (x4_1 + 1))) = some r := by first | (rw [hy238]; with_reducible exact H) | (have H2_ := (Option.bind_some _ _).symm.trans H; rw [hy238]; with_reducible exact H2_) | (have H2_ := (Option.bind_some _ _).symm.trans H; with_reducible exact H2_) | with_reducible exact H | (rw [hy238]; exact H) | exact H
              have Ny238 := Aside0.mk hy238
              clear hy238
              have H' := Aside0.mk H
              clear H
              have p233 : 0 ≤ (x4_1 : Int) := of_decide_eq_true (by first | (with_reducible assumption) | assumption)
              have q233 : x4_1 < (l0.length : Int) := of_decide_eq_true (by first | (with_reducible assumption) | assumption)
              obtain ⟨ad233, e233, hx233_0, hx233_1⟩ := at_T52 HR0.out x4_1 p233 q233
              cases e233
              replace hx233_0 := (HB.out.cell (World.block_lt_of_cell? w _ hx233_0)).trans hx233_0
              replace hx233_1 := (HB.out.cell (World.block_lt_of_cell? w _ hx233_1)).trans hx233_1
              replace p233 := eq_true p233
              replace q233 := eq_true q233
              go_wp2_with (first | ((with_reducible refine gate_callee (f := 64) rfl ?_); refine goesL_ (some 22) rfl rfl Try.func64 (by kernel_rfl) rfl #[.agg #[.int .i64 ((rd_T52 l0 x4_1).f0), .int .i64 ((rd_T52 l0 x4_1).f1)], .int .i64 0, .int .i64 4294967296] rfl (by (try simp only [List.map_toArray, List.map_cons, List.map_nil]); first | done | rfl | (simp only [List.length_drop, List.length_take]; rfl)) ?_; (with_reducible refine (intrusionref05_cut.calls ((rd_T52 l0 x4_1).f0) ((rd_T52 l0 x4_1).f1) 0 4294967296 t234 t235 true _ A6.out).mono ?_); rintro e w9 ⟨rfl, hb⟩; refine ⟨_, rfl, ?_⟩; have n0_ := Aside0.mk (Kd.R_below (by (with_reducible repeat (first | apply Kd.R_alloc | apply Kd.R_drewN | apply Kd.R_drew)); exact HO_3.out) hb); have n1_ := Aside0.mk (below_step (by repeat (first | (with_reducible first | exact HB.out | apply below_alloc | apply pw_below_drewN | apply below_drew1) | exact HB.out)) hb); clear HO_3; clear HB; have HO_3 := n0_; have HB := n1_; clear n0_ n1_; (try clear hb); (try clear hb2); (try clear hk); (try clear hi)) | ((with_reducible refine gate_dst (N := 5) rfl ?_); refine box_event ?hg (N := 5) ?hd (cs := #[.int .i64 0, .int .i64 0]) (t := 52) ?hr ?_; (case hd => rfl); (case hg => rfl); (case hr => first | (go_simp; done) | (go_simp; rfl)); intro gb237 hg w10 hbox hb; have n0_ := Aside0.mk (Kd.R_below (Kd.R_elderB (by (with_reducible repeat (first | apply Kd.R_alloc | apply Kd.R_drewN | apply Kd.R_drew)); exact HO_3.out) gb237 (Nat.le_of_eq hg.symm)) hb); have n1_ := Aside0.mk (below_step (by repeat (first | (with_reducible first | exact HB.out | apply below_alloc | apply pw_below_drewN | apply below_drew1) | exact HB.out)) hb); have n2_ := Aside0.mk (hbox); have n3_ := Aside0.mk ((by rw [hg]; exact (below_size (by repeat (first | (with_reducible first | exact HB.out | apply below_alloc | apply pw_below_drewN | apply below_drew1) | exact HB.out))) : w.heap.size ≤ gb237)); have n4_ := Aside0.mk ((by rw [hg]; exact (below_size (by repeat (first | (with_reducible first | exact HB.out | apply below_alloc | apply pw_below_drewN | apply below_drew1) | exact HB.out))) : w.heap.size ≤ gb237)); clear HO_3; clear HB; have HO_3 := n0_; have HB := n1_; have BK237 := n2_; have GW237 := n3_; have GE237 := n4_; clear n0_ n1_ n2_ n3_ n4_; clear hb hbox hg; have hcz11_0 : w10.cell? ⟨gb237, 0, none⟩ = some (.int .i64 0) := (blk_cell BK237.out 0).trans rfl; have hcz11_1 : w10.cell? ⟨gb237, 1, none⟩ = some (.int .i64 0) := (blk_cell BK237.out 1).trans rfl; have hfz11_0 := blk_frozen BK237.out 0; have hfz11_1 := blk_frozen BK237.out 1) | ((with_reducible refine gate_builtin (b := .append) (xs := #[.tmp 26, .tmp 28]) rfl ?_); at_builtin; refine Kd.R_append k52 (w0 := w) w.heap.size rfl (.tmp 26) (.tmp 28) 22 52 (.agg #[(.int .i64 0), (.int .i64 0)]) 16 rfl Try.underlying22 info52 rfl (by decide) (by omega) u3 x3_1 (⟨t234, t235⟩ : S52) [.int .i64 t234, .int .i64 t235] (fun k_ => k_ ≠ gb237) (fun _ => False) rfl (by first | (go_simp; done) | (go_simp; rfl)) ?aP (fun _ hk => hk.elim) ?aF ?aO ?aB ?aS ?aL ?_; (case aP => exact k52_mkM _ _ _ (⟨t234, t235⟩ : S52)); (case aB => exact (by repeat (first | (with_reducible first | exact HB.out | apply below_alloc | apply pw_below_drewN | apply below_drew1 | refine below_set ?_ GE237.out) | exact HB.out))); (case aF => exact (fun k_ hk => Kd.freshB (g := gb237) (o := .cells #[.int .i64 t234, .int .i64 t235] 52 (0, 0)) (by (with_reducible repeat (first | refine blk_drewN ?_ _ | refine blk_drew ?_ | refine blk_alloc ?_ _)); refine blk_put (cs := #[.int .i64 t234, .int .i64 0]) ?_ 1 _ rfl; (with_reducible repeat (first | refine blk_drewN ?_ _ | refine blk_drew ?_ | refine blk_alloc ?_ _)); refine blk_put (cs := #[.int .i64 0, .int .i64 0]) ?_ 0 _ rfl; (with_reducible repeat (first | refine blk_drewN ?_ _ | refine blk_drew ?_ | refine blk_alloc ?_ _)); exact BK237.out) k_ hk)); (case aO => exact (by (with_reducible repeat (first | apply Kd.R_alloc | apply Kd.R_drewN | apply Kd.R_drew)); exact Kd.R_mono (Kd.R_far (p := ⟨gb237, 1, none⟩) (Kd.R_far (p := ⟨gb237, 0, none⟩) (Kd.R_mono HO_3.out (fun k_ hk => (⟨hk, hk.2⟩ : _ ∧ k_ ≠ gb237))) (fun _ hk => hk.2) (.int .i64 t234)) (fun _ hk => hk.2) (.int .i64 t235)) (fun _ hk => hk.1.2))); (case aS => exact (below_size (by repeat (first | (with_reducible first | exact HB.out | apply below_alloc | apply pw_below_drewN | apply below_drew1 | refine below_set ?_ GE237.out) | exact HB.out)))); (case aL => have := LMc8.out; omega); intro v239 w12 ho hb hg hat; rw [← Ny238.out] at ho; have n0_ := Aside0.mk (blk_grown (g := gb237) (o := .cells #[.int .i64 t234, .int .i64 t235] 52 (0, 0)) (by (with_reducible repeat (first | refine blk_drewN ?_ _ | refine blk_drew ?_ | refine blk_alloc ?_ _)); refine blk_put (cs := #[.int .i64 t234, .int .i64 0]) ?_ 1 _ rfl; (with_reducible repeat (first | refine blk_drewN ?_ _ | refine blk_drew ?_ | refine blk_alloc ?_ _)); refine blk_put (cs := #[.int .i64 0, .int .i64 0]) ?_ 0 _ rfl; (with_reducible repeat (first | refine blk_drewN ?_ _ | refine blk_drew ?_ | refine blk_alloc ?_ _)); exact BK237.out) hg (Kd.R_away HO_3.out (fun _ hk => hk.2))); have n1_ := Aside0.mk (hb); have n2_ := Aside0.mk (ho); clear BK237; clear HB; clear HO_3; have BK237 := n0_; have HB := n1_; have HO240 := n2_; clear n0_ n1_ n2_; clear ho hb hg hat))
              go_roundg k1
              case measure => have := HK1.out; omega
              case rel => exact ⟨(y238), (wrap64 (x4_1 + 1)), (by first | rfl | (simp; done) | (simp [*]; done)), H', ⟨by have := HK1.out; omega⟩, ⟨by (with_reducible repeat (first | apply Kd.R_alloc | apply Kd.R_drewN | apply Kd.R_drew)); exact Kd.R_mono HO240.out (fun _ hk => trivial)⟩, ⟨by repeat (first | (with_reducible first | exact HB.out | apply below_alloc | apply pw_below_drewN | apply below_drew1 | refine below_set ?_ GE237.out) | exact HB.out)⟩⟩
            · rw [if_neg c8] at H
              exact absurd H (by simp)
          · replace c7 := Bool.eq_false_iff.mpr c7
            subst c7
            have H1 : (intrusionref05_Normal.l0 k1 l0 x3_1 (wrap64 (x4_1 + 1))) = some r := by rw [if_neg (show ¬ (false = true) by decide)] at H; exact H
            clear H
            have H := H1
            clear H1
            have H' := Aside0.mk H
            clear H
            have p233 : 0 ≤ (x4_1 : Int) := of_decide_eq_true (by first | (with_reducible assumption) | assumption)
            have q233 : x4_1 < (l0.length : Int) := of_decide_eq_true (by first | (with_reducible assumption) | assumption)
            obtain ⟨ad233, e233, hx233_0, hx233_1⟩ := at_T52 HR0.out x4_1 p233 q233
            cases e233
            replace hx233_0 := (HB.out.cell (World.block_lt_of_cell? w _ hx233_0)).trans hx233_0
            replace hx233_1 := (HB.out.cell (World.block_lt_of_cell? w _ hx233_1)).trans hx233_1
            replace p233 := eq_true p233
            replace q233 := eq_true q233
            go_wp2_with (first | ((with_reducible refine gate_callee (f := 64) rfl ?_); refine goesL_ (some 22) rfl rfl Try.func64 (by kernel_rfl) rfl #[.agg #[.int .i64 ((rd_T52 l0 x4_1).f0), .int .i64 ((rd_T52 l0 x4_1).f1)], .int .i64 0, .int .i64 4294967296] rfl (by (try simp only [List.map_toArray, List.map_cons, List.map_nil]); first | done | rfl | (simp only [List.length_drop, List.length_take]; rfl)) ?_; (with_reducible refine (intrusionref05_cut.calls ((rd_T52 l0 x4_1).f0) ((rd_T52 l0 x4_1).f1) 0 4294967296 t234 t235 false _ A6.out).mono ?_); rintro e w13 ⟨rfl, hb⟩; refine ⟨_, rfl, ?_⟩; have n0_ := Aside0.mk (Kd.R_below (by (with_reducible repeat (first | apply Kd.R_alloc | apply Kd.R_drewN | apply Kd.R_drew)); exact HO_3.out) hb); have n1_ := Aside0.mk (below_step (by repeat (first | (with_reducible first | exact HB.out | apply below_alloc | apply pw_below_drewN | apply below_drew1) | exact HB.out)) hb); clear HO_3; clear HB; have HO_3 := n0_; have HB := n1_; clear n0_ n1_; (try clear hb); (try clear hb2); (try clear hk); (try clear hi)) | ((with_reducible refine gate_dst (N := 5) rfl ?_); refine box_event ?hg (N := 5) ?hd (cs := #[.int .i64 0, .int .i64 0]) (t := 52) ?hr ?_; (case hd => rfl); (case hg => rfl); (case hr => first | (go_simp; done) | (go_simp; rfl)); intro gb237 hg w14 hbox hb; have n0_ := Aside0.mk (Kd.R_below (Kd.R_elderB (by (with_reducible repeat (first | apply Kd.R_alloc | apply Kd.R_drewN | apply Kd.R_drew)); exact HO_3.out) gb237 (Nat.le_of_eq hg.symm)) hb); have n1_ := Aside0.mk (below_step (by repeat (first | (with_reducible first | exact HB.out | apply below_alloc | apply pw_below_drewN | apply below_drew1) | exact HB.out)) hb); have n2_ := Aside0.mk (hbox); have n3_ := Aside0.mk ((by rw [hg]; exact (below_size (by repeat (first | (with_reducible first | exact HB.out | apply below_alloc | apply pw_below_drewN | apply below_drew1) | exact HB.out))) : w.heap.size ≤ gb237)); have n4_ := Aside0.mk ((by rw [hg]; exact (below_size (by repeat (first | (with_reducible first | exact HB.out | apply below_alloc | apply pw_below_drewN | apply below_drew1) | exact HB.out))) : w.heap.size ≤ gb237)); clear HO_3; clear HB; have HO_3 := n0_; have HB := n1_; have BK237 := n2_; have GW237 := n3_; have GE237 := n4_; clear n0_ n1_ n2_ n3_ n4_; clear hb hbox hg; have hcz15_0 : w14.cell? ⟨gb237, 0, none⟩ = some (.int .i64 0) := (blk_cell BK237.out 0).trans rfl; have hcz15_1 : w14.cell? ⟨gb237, 1, none⟩ = some (.int .i64 0) := (blk_cell BK237.out 1).trans rfl; have hfz15_0 := blk_frozen BK237.out 0; have hfz15_1 := blk_frozen BK237.out 1))
            go_roundg k1
            case measure => have := HK1.out; omega
            case rel => exact ⟨(x3_1), (wrap64 (x4_1 + 1)), (by first | rfl | (simp; done) | (simp [*]; done)), H', ⟨by have := HK1.out; omega⟩, ⟨by (with_reducible repeat (first | apply Kd.R_alloc | apply Kd.R_drewN | apply Kd.R_drew)); exact Kd.R_mono (Kd.R_far (p := ⟨gb237, 1, none⟩) (Kd.R_far (p := ⟨gb237, 0, none⟩) (Kd.R_mono HO_3.out (fun k_ hk => (⟨hk, hk.2⟩ : _ ∧ k_ ≠ gb237))) (fun _ hk => hk.2) (.int .i64 t234)) (fun _ hk => hk.2) (.int .i64 t235)) (fun _ hk => trivial)⟩, ⟨by repeat (first | (with_reducible first | exact HB.out | apply below_alloc | apply pw_below_drewN | apply below_drew1 | refine below_set ?_ GE237.out) | exact HB.out)⟩⟩
        · rw [if_neg c5] at H
          exact absurd H (by simp)
      · rw [if_neg c4] at H
        have c4b0 : decide (x4_1 < (l0.length : Int)) = false := decide_eq_false c4
        clear c4
        obtain ⟨y241, hy241⟩ : ∃ y_ : List (S52), y_ = (([] : List (S52))) := ⟨_, rfl⟩
        replace H : (intrusionref05_Normal.l1 k1 x3_1 y241) = some r := by first | (rw [hy241]; with_reducible exact H) | (have H2_ := (Option.bind_some _ _).symm.trans H; rw [hy241]; with_reducible exact H2_) | (have H2_ := (Option.bind_some _ _).symm.trans H; with_reducible exact H2_) | with_reducible exact H | (rw [hy241]; exact H) | exact H
        have Ny241 := Aside0.mk hy241
        clear hy241
        have H' := Aside0.mk H
        clear H
        go_wp2_with (first | ((with_reducible refine gate_dst (N := 30) rfl ?_); refine Kd.R_lit k52 _ 52 ?hg (N := 30) ?hd (xs := ([] : List (S52))) (inner := []) (ok := fun _ => True) (okp := fun _ => True) ?hr ?hp (fun _ hk => hk) trivial (Below.refl _ _) (Nat.le_refl _) (by simp) ?_; (case hd => rfl); (case hg => rfl); (case hr => first | (go_simp; done) | (go_simp; rfl)); (case hp => exact (Reps.none _ _)); intro v242 w16 ho17 hb hg_ hnew_; clear hg_ hnew_; (first | rw [← Ny241.out] at ho17 | (simp only [Int.reduceToNat] at ho17; rw [← Ny241.out] at ho17)); have n0_ := Aside0.mk (Kd.R_elder' (by (with_reducible repeat (first | apply Kd.R_alloc | apply Kd.R_drewN | apply Kd.R_drew)); exact HO_3.out) (Kd.R_base ho17) hb); have n1_ := Aside0.mk (Kd.R_lower (Kd.R_new' ho17 (Kd.R_lt (by (with_reducible repeat (first | apply Kd.R_alloc | apply Kd.R_drewN | apply Kd.R_drew)); exact HO_3.out))) (below_size (by repeat (first | (with_reducible first | exact HB.out | apply below_alloc | apply pw_below_drewN | apply below_drew1) | exact HB.out)))); have n2_ := Aside0.mk (below_step (by repeat (first | (with_reducible first | exact HB.out | apply below_alloc | apply pw_below_drewN | apply below_drew1) | exact HB.out)) hb); clear HO_3; clear HB; have HO_3 := n0_; have HO243 := n1_; have HB := n2_; clear n0_ n1_ n2_; clear hb ho17))
        go_loopg [3, 7] k1 (fun kq v3 v7 w' => ∃ (x3_2 : List (S52)) (x7_2 : List (S52)), Aside0 (intrusionref05_Normal.l1 kq x3_2 x7_2 = some r) ∧ Aside0 (kq ≤ k1) ∧ Aside0 (Kd.R k52 52 w' w.heap.size (fun k_ => some k_ ≠ (v7 : Value).ownBlock) v3 x3_2) ∧ Aside0 (Kd.R k52 52 w' w.heap.size (fun k_ => some k_ ≠ (v3 : Value).ownBlock) v7 x7_2) ∧ Aside0 (Below w.heap.size w w'))
        case atStart => exact ⟨(x3_1), (y241), H', ⟨Nat.le_refl _⟩, ⟨by (with_reducible repeat (first | apply Kd.R_alloc | apply Kd.R_drewN | apply Kd.R_drew)); exact Kd.R_mono HO_3.out (fun _ hk => hk.2)⟩, ⟨by (with_reducible repeat (first | apply Kd.R_alloc | apply Kd.R_drewN | apply Kd.R_drew)); exact Kd.R_mono HO243.out (fun _ hk => hk.2)⟩, ⟨by repeat (first | (with_reducible first | exact HB.out | apply below_alloc | apply pw_below_drewN | apply below_drew1) | exact HB.out)⟩⟩
        case round =>
          clear H'
          try clear c2
          try clear p2
          try clear q2
          try clear hx2
          try clear c4
          try clear c4b0
          try clear c5
          try clear c5b0
          try clear c6
          try clear p6
          try clear c7
          try clear c8
          try clear hcz11_0
          try clear hcz11_1
          try clear hcz15_0
          try clear hcz15_1
          try clear hfz11_0
          try clear hfz11_1
          try clear hfz15_0
          try clear hfz15_1
          try clear hx233_0
          try clear hx233_1
          try clear p2
          try clear p233
          try clear q233
          obtain ⟨x3_2, x7_2, HA, HK2, HO_3, HO_7, HB⟩ := hrel
          cases gk with
          | zero => exact absurd HA.out (by simp [intrusionref05_Normal.l1])
          | succ k2 =>
            have H := HA.out
            clear HA
            simp only [intrusionref05_Normal.l1] at H
            by_cases c18 : (x3_2.length : Int) > 0
            · rw [if_pos c18] at H
              have c18b0 : decide (0 < (x3_2.length : Int)) = true := decide_eq_true c18
              have c18b1 : decide (0 < x3_2.length) = true := decide_eq_true (by omega)
              clear c18
              replace H := Option.bind_eq_some_iff.mp H
              obtain ⟨⟨t244, t245, t246⟩, A190, H⟩ := H
              replace H : (if x7_2.length < 8796093022208 then (intrusionref05_Normal.l1 k2 t246 (x7_2 ++ [(⟨t244, t245⟩ : S52)])) else (none)) = some r := H
              have A19 := Aside0.mk A190
              clear A190
              by_cases c20 : x7_2.length < 8796093022208
              · rw [if_pos c20] at H
                have LMc20 := Aside0.mk c20
                clear c20
                obtain ⟨y250, hy250⟩ : ∃ y_ : List (S52), y_ = (x7_2 ++ [(⟨t244, t245⟩ : S52)]) := ⟨_, rfl⟩
                replace H : (intrusionref05_Normal.l1 k2 t246 y250) = some r := by first | (rw [hy250]; with_reducible exact H) | (have H2_ := (Option.bind_some _ _).symm.trans H; rw [hy250]; with_reducible exact H2_) | (have H2_ := (Option.bind_some _ _).symm.trans H; with_reducible exact H2_) | with_reducible exact H | (rw [hy250]; exact H) | exact H
                have Ny250 := Aside0.mk hy250
                clear hy250
                have H' := Aside0.mk H
                clear H
                obtain ⟨Ao21, co21, eo21⟩ := Kd.R_slice HO_3.out
                subst eo21
                go_wp2_with (first | ((with_reducible refine gate_callee (f := 65) rfl ?_); refine goesL_ (some 36) rfl rfl Try.func65 (by kernel_rfl) rfl #[.slice Ao21 x3_2.length co21] rfl (by (try simp only [List.map_toArray, List.map_cons, List.map_nil]); first | done | rfl | (simp only [List.length_drop, List.length_take]; rfl)) ?_; (with_reducible refine (intrusionref05_least.calls k2 _ _ x3_2 t244 t245 t246 _ ?side1 ?side2 A19.out).mono ?_); (case side1 => repeat (first | exact (Kd.R_reads' HO_3.out).2.2 | (with_reducible refine Kd.C_alloc ?_ _) | (with_reducible refine Kd.C_drewN ?_ _) | (with_reducible refine Kd.C_drew ?_))); (case side2 => exact (Kd.R_reads' HO_3.out).2.1); rintro e w22 ⟨v247, rfl, ho0, hb⟩; refine ⟨_, rfl, ?_⟩; have n0_ := Aside0.mk (Kd.R_elder' (by (with_reducible repeat (first | apply Kd.R_alloc | apply Kd.R_drewN | apply Kd.R_drew)); exact HO_3.out) (Kd.R_base ho0) hb); have n1_ := Aside0.mk (Kd.R_elder' (by (with_reducible repeat (first | apply Kd.R_alloc | apply Kd.R_drewN | apply Kd.R_drew)); exact HO_7.out) (Kd.R_base ho0) hb); have n2_ := Aside0.mk (Kd.R_lower (Kd.R_new' (Kd.R_new' ho0 (Kd.R_lt (by (with_reducible repeat (first | apply Kd.R_alloc | apply Kd.R_drewN | apply Kd.R_drew)); exact HO_3.out))) (Kd.R_lt (by (with_reducible repeat (first | apply Kd.R_alloc | apply Kd.R_drewN | apply Kd.R_drew)); exact HO_7.out))) (below_size (by repeat (first | (with_reducible first | exact HB.out | apply below_alloc | apply pw_below_drewN | apply below_drew1) | exact HB.out)))); have n3_ := Aside0.mk (below_step (by repeat (first | (with_reducible first | exact HB.out | apply below_alloc | apply pw_below_drewN | apply below_drew1) | exact HB.out)) hb); clear HO_3; clear HO_7; clear HB; have HO_3 := n0_; have HO_7 := n1_; have HO248 := n2_; have HB := n3_; clear n0_ n1_ n2_ n3_; (try clear hb); (try clear hb2); (try clear hk); (try clear hi); (try clear ho0)) | ((with_reducible refine gate_dst (N := 8) rfl ?_); refine box_event ?hg (N := 8) ?hd (cs := #[.int .i64 0, .int .i64 0]) (t := 52) ?hr ?_; (case hd => rfl); (case hg => rfl); (case hr => first | (go_simp; done) | (go_simp; rfl)); intro gb249 hg w23 hbox hb; have n0_ := Aside0.mk (Kd.R_below (Kd.R_elderB (by (with_reducible repeat (first | apply Kd.R_alloc | apply Kd.R_drewN | apply Kd.R_drew)); exact HO_3.out) gb249 (Nat.le_of_eq hg.symm)) hb); have n1_ := Aside0.mk (Kd.R_below (Kd.R_elderB (by (with_reducible repeat (first | apply Kd.R_alloc | apply Kd.R_drewN | apply Kd.R_drew)); exact HO_7.out) gb249 (Nat.le_of_eq hg.symm)) hb); have n2_ := Aside0.mk (Kd.R_below (Kd.R_elderB (by (with_reducible repeat (first | apply Kd.R_alloc | apply Kd.R_drewN | apply Kd.R_drew)); exact HO248.out) gb249 (Nat.le_of_eq hg.symm)) hb); have n3_ := Aside0.mk (below_step (by repeat (first | (with_reducible first | exact HB.out | apply below_alloc | apply pw_below_drewN | apply below_drew1) | exact HB.out)) hb); have n4_ := Aside0.mk (hbox); have n5_ := Aside0.mk ((by rw [hg]; exact (below_size (by repeat (first | (with_reducible first | exact HB.out | apply below_alloc | apply pw_below_drewN | apply below_drew1) | exact HB.out))) : w.heap.size ≤ gb249)); have n6_ := Aside0.mk ((by rw [hg]; exact (below_size (by repeat (first | (with_reducible first | exact HB.out | apply below_alloc | apply pw_below_drewN | apply below_drew1) | exact HB.out))) : w.heap.size ≤ gb249)); clear HO_3; clear HO_7; clear HO248; clear HB; have HO_3 := n0_; have HO_7 := n1_; have HO248 := n2_; have HB := n3_; have BK249 := n4_; have GW249 := n5_; have GE249 := n6_; clear n0_ n1_ n2_ n3_ n4_ n5_ n6_; clear hb hbox hg; have hcz24_0 : w23.cell? ⟨gb249, 0, none⟩ = some (.int .i64 0) := (blk_cell BK249.out 0).trans rfl; have hcz24_1 : w23.cell? ⟨gb249, 1, none⟩ = some (.int .i64 0) := (blk_cell BK249.out 1).trans rfl; have hfz24_0 := blk_frozen BK249.out 0; have hfz24_1 := blk_frozen BK249.out 1) | ((with_reducible refine gate_builtin (b := .append) (xs := #[.tmp 39, .tmp 41]) rfl ?_); at_builtin; refine Kd.R_append k52 (w0 := w) w.heap.size rfl (.tmp 39) (.tmp 41) 22 52 (.agg #[(.int .i64 0), (.int .i64 0)]) 16 rfl Try.underlying22 info52 rfl (by decide) (by omega) u7 x7_2 (⟨t244, t245⟩ : S52) [.int .i64 t244, .int .i64 t245] (fun k_ => some k_ ≠ (.slice Ao21 x3_2.length co21 : Value).ownBlock ∧ some k_ ≠ (v247 : Value).ownBlock ∧ k_ ≠ gb249) (fun _ => False) rfl (by first | (go_simp; done) | (go_simp; rfl)) ?aP (fun _ hk => hk.elim) ?aF ?aO ?aB ?aS ?aL ?_; (case aP => exact k52_mkM _ _ _ (⟨t244, t245⟩ : S52)); (case aB => exact (by repeat (first | (with_reducible first | exact HB.out | apply below_alloc | apply pw_below_drewN | apply below_drew1 | refine below_set ?_ GE249.out) | exact HB.out))); (case aF => exact (fun k_ hk => ⟨Kd.fresh' (Kd.R_lt (by (with_reducible repeat (first | apply Kd.R_alloc | apply Kd.R_drewN | apply Kd.R_drew)); exact (Kd.R_mono (Kd.R_far (p := ⟨gb249, 1, none⟩) (Kd.R_far (p := ⟨gb249, 0, none⟩) (Kd.R_mono HO_3.out (fun k_ hk => (⟨hk, hk.2⟩ : _ ∧ k_ ≠ gb249))) (fun _ hk => hk.2) (.int .i64 t244)) (fun _ hk => hk.2) (.int .i64 t245)) (fun _ h_ => h_.1)))) k_ hk, Kd.fresh' (Kd.R_lt (by (with_reducible repeat (first | apply Kd.R_alloc | apply Kd.R_drewN | apply Kd.R_drew)); exact (Kd.R_mono (Kd.R_far (p := ⟨gb249, 1, none⟩) (Kd.R_far (p := ⟨gb249, 0, none⟩) (Kd.R_mono HO248.out (fun k_ hk => (⟨hk, hk.2⟩ : _ ∧ k_ ≠ gb249))) (fun _ hk => hk.2) (.int .i64 t244)) (fun _ hk => hk.2) (.int .i64 t245)) (fun _ h_ => h_.1)))) k_ hk, Kd.freshB (g := gb249) (o := .cells #[.int .i64 t244, .int .i64 t245] 52 (0, 0)) (by (with_reducible repeat (first | refine blk_drewN ?_ _ | refine blk_drew ?_ | refine blk_alloc ?_ _)); refine blk_put (cs := #[.int .i64 t244, .int .i64 0]) ?_ 1 _ rfl; (with_reducible repeat (first | refine blk_drewN ?_ _ | refine blk_drew ?_ | refine blk_alloc ?_ _)); refine blk_put (cs := #[.int .i64 0, .int .i64 0]) ?_ 0 _ rfl; (with_reducible repeat (first | refine blk_drewN ?_ _ | refine blk_drew ?_ | refine blk_alloc ?_ _)); exact BK249.out) k_ hk⟩)); (case aO => exact (by (with_reducible repeat (first | apply Kd.R_alloc | apply Kd.R_drewN | apply Kd.R_drew)); exact Kd.R_mono (Kd.R_far (p := ⟨gb249, 1, none⟩) (Kd.R_far (p := ⟨gb249, 0, none⟩) (Kd.R_mono HO_7.out (fun k_ hk => (⟨hk, hk.2⟩ : _ ∧ k_ ≠ gb249))) (fun _ hk => hk.2) (.int .i64 t244)) (fun _ hk => hk.2) (.int .i64 t245)) (fun _ hk => ⟨hk.1.1.1, ⟨hk.1.1.2, hk.1.2⟩⟩))); (case aS => exact (below_size (by repeat (first | (with_reducible first | exact HB.out | apply below_alloc | apply pw_below_drewN | apply below_drew1 | refine below_set ?_ GE249.out) | exact HB.out)))); (case aL => have := LMc20.out; omega); intro v251 w25 ho hb hg hat; rw [← Ny250.out] at ho; have n0_ := Aside0.mk (Kd.R_after (ok := (fun k_ => some k_ ≠ (v247 : Value).ownBlock ∧ k_ ≠ gb249)) (by (with_reducible repeat (first | apply Kd.R_alloc | apply Kd.R_drewN | apply Kd.R_drew)); exact Kd.R_mono (Kd.R_far (p := ⟨gb249, 1, none⟩) (Kd.R_far (p := ⟨gb249, 0, none⟩) (Kd.R_mono HO_3.out (fun k_ hk => (⟨hk, hk.2⟩ : _ ∧ k_ ≠ gb249))) (fun _ hk => hk.2) (.int .i64 t244)) (fun _ hk => hk.2) (.int .i64 t245)) (fun _ hk => ⟨⟨hk.1.1.2, hk.1.2⟩, hk.1.1.1⟩)) hg hat); have n1_ := Aside0.mk (Kd.R_after (ok := (fun k_ => some k_ ≠ (.slice Ao21 x3_2.length co21 : Value).ownBlock ∧ k_ ≠ gb249)) (by (with_reducible repeat (first | apply Kd.R_alloc | apply Kd.R_drewN | apply Kd.R_drew)); exact Kd.R_mono (Kd.R_far (p := ⟨gb249, 1, none⟩) (Kd.R_far (p := ⟨gb249, 0, none⟩) (Kd.R_mono HO248.out (fun k_ hk => (⟨hk, hk.2⟩ : _ ∧ k_ ≠ gb249))) (fun _ hk => hk.2) (.int .i64 t244)) (fun _ hk => hk.2) (.int .i64 t245)) (fun _ hk => ⟨⟨hk.1.1.1.2, hk.1.2⟩, hk.1.1.2⟩)) hg hat); have n2_ := Aside0.mk (blk_grown (g := gb249) (o := .cells #[.int .i64 t244, .int .i64 t245] 52 (0, 0)) (by (with_reducible repeat (first | refine blk_drewN ?_ _ | refine blk_drew ?_ | refine blk_alloc ?_ _)); refine blk_put (cs := #[.int .i64 t244, .int .i64 0]) ?_ 1 _ rfl; (with_reducible repeat (first | refine blk_drewN ?_ _ | refine blk_drew ?_ | refine blk_alloc ?_ _)); refine blk_put (cs := #[.int .i64 0, .int .i64 0]) ?_ 0 _ rfl; (with_reducible repeat (first | refine blk_drewN ?_ _ | refine blk_drew ?_ | refine blk_alloc ?_ _)); exact BK249.out) hg (Kd.R_away HO_7.out (fun _ hk => hk.2))); have n3_ := Aside0.mk (hb); have n4_ := Aside0.mk (ho); clear HO_3; clear HO248; clear BK249; clear HB; clear HO_7; have HO_3 := n0_; have HO248 := n1_; have BK249 := n2_; have HB := n3_; have HO252 := n4_; clear n0_ n1_ n2_ n3_ n4_; clear ho hb hg hat))
                go_roundg k2
                case measure => have := HK1.out; have := HK2.out; omega
                case rel => exact ⟨(t246), (y250), H', ⟨by have := HK1.out; have := HK2.out; omega⟩, ⟨by (with_reducible repeat (first | apply Kd.R_alloc | apply Kd.R_drewN | apply Kd.R_drew)); exact Kd.R_mono HO248.out (fun _ hk => hk.2)⟩, ⟨by (with_reducible repeat (first | apply Kd.R_alloc | apply Kd.R_drewN | apply Kd.R_drew)); exact Kd.R_mono HO252.out (fun _ hk => hk.2.1)⟩, ⟨by repeat (first | (with_reducible first | exact HB.out | apply below_alloc | apply pw_below_drewN | apply below_drew1 | refine below_set ?_ GE249.out) | exact HB.out)⟩⟩
              · rw [if_neg c20] at H
                exact absurd H (by simp)
            · rw [if_neg c18] at H
              have c18b0 : decide (0 < (x3_2.length : Int)) = false := decide_eq_false c18
              have c18b1 : decide (0 < x3_2.length) = false := decide_eq_false (by omega)
              clear c18
              obtain rfl := Option.some.inj H
              obtain ⟨Ao26, co26, eo26⟩ := Kd.R_slice HO_3.out
              subst eo26
              go_wp2
              go_ret
              exact ⟨_, by first | rfl | (simp [errW_none, errW_some] <;> rfl) | (simp [*, errW_none, errW_some] <;> rfl), by (with_reducible repeat (first | apply Kd.R_alloc | apply Kd.R_drewN | apply Kd.R_drew)); exact Kd.R_mono HO_7.out (fun _ hk => trivial), by repeat (first | (with_reducible first | exact HB.out | apply below_alloc | apply pw_below_drewN | apply below_drew1) | exact HB.out)⟩
end Go.Proofs.Ytcgfpffgiimgmaa.Q
end

section
namespace Go.Proofs.Ytcgfpffgiimgmaa.Q
open Go.RowKit Go.Proofs.YtcgfpffgiimgmaaW.PrintWords Go.Proofs.YtcgfpffgiimgmaaW.PrintLast Go.Proofs.YtcgfpffgiimgmaaW.PrintMore
attribute [local go_sem] max2_int min2_int max_two min_two max_three min_three max_four min_four
set_option linter.unusedVariables false
set_option linter.unusedSimpArgs false
mutual
def intrusionref05_Complement.l0 : Nat → Int → Int → List (S52) → List (S52) → Int → Option ((List (S52)))
  | 0, _, _, _, _, _ => none
  | k + 1, x1, x2, x7, x8, x9 => if x9 < (x7.length : Int) then (intrusionref05_Complement.j1 k x1 x2 x7 x8 x9 (decide (x1 ≤ x2))) else (intrusionref05_Complement.j1 k x1 x2 x7 x8 x9 false)
def intrusionref05_Complement.j1 : Nat → Int → Int → List (S52) → List (S52) → Int → Bool → Option ((List (S52)))
  | 0, _, _, _, _, _, _ => none
  | k + 1, x1, x2, x7, x8, x9, x26 => if x26 = true then (if 0 ≤ x9 then (if x9 < (x7.length : Int) then (if x1 ≤ (mn x2 (wrap64 (((rd_T52 x7 x9).f0) - 1))) then (if x8.length < 8796093022208 then (intrusionref05_Complement.l0 k (mx x1 (wrap64 (((rd_T52 x7 x9).f1) + 1))) x2 x7 (x8 ++ [(⟨x1, mn x2 (wrap64 (((rd_T52 x7 x9).f0) - 1))⟩ : S52)]) (wrap64 (x9 + 1))) else (none)) else (intrusionref05_Complement.l0 k (mx x1 (wrap64 (((rd_T52 x7 x9).f1) + 1))) x2 x7 x8 (wrap64 (x9 + 1)))) else (none)) else (none)) else (if x1 ≤ x2 then (if x8.length < 8796093022208 then (some (x8 ++ [(⟨x1, x2⟩ : S52)])) else (none)) else (some x8))
end
def intrusionref05_Complement.f (k : Nat) (l0 : List (S52)) (a1 : Int) (a2 : Int) : Option ((List (S52))) := (intrusionref05_Normal.f k l0).bind fun t272 => (intrusionref05_Complement.l0 k (mx a1 0) (mn a2 4294967296) t272 (([] : List (S52))) 0)
theorem intrusionref05_Complement.mono_l : ∀ k, (∀ y0 y1 y2 y3 y4, LeO (intrusionref05_Complement.l0 k y0 y1 y2 y3 y4) (intrusionref05_Complement.l0 (k + 1) y0 y1 y2 y3 y4)) ∧ (∀ y0 y1 y2 y3 y4 y5, LeO (intrusionref05_Complement.j1 k y0 y1 y2 y3 y4 y5) (intrusionref05_Complement.j1 (k + 1) y0 y1 y2 y3 y4 y5))
  | 0 => ⟨fun _ _ _ _ _ r h => by simp [intrusionref05_Complement.l0] at h, fun _ _ _ _ _ _ r h => by simp [intrusionref05_Complement.j1] at h⟩
  | k + 1 => by
    obtain ⟨ih0, ih1⟩ := intrusionref05_Complement.mono_l k
    refine ⟨?_, ?_⟩
    · intro y0 y1 y2 y3 y4
      unfold intrusionref05_Complement.l0
      repeat' first
      | (with_reducible exact ih0 _ _ _ _ _)
      | (with_reducible exact ih1 _ _ _ _ _ _)
      | (with_reducible exact intrusionref05_Normal.mono _ _)
      | (with_reducible exact LeO.refl _)
      | (with_reducible exact LeO.none _)
      | (with_reducible refine LeO.ite ?_ ?_)
      | (with_reducible refine LeO.bind ?_ (fun _ => ?_))
      | exact ih0 _ _ _ _ _
      | exact ih1 _ _ _ _ _ _
      | exact intrusionref05_Normal.mono _ _
      | exact LeO.none _
      | refine LeO.ite ?_ ?_
      | refine LeO.bind ?_ (fun _ => ?_)
    · intro y0 y1 y2 y3 y4 y5
      unfold intrusionref05_Complement.j1
      repeat' first
      | (with_reducible exact ih0 _ _ _ _ _)
      | (with_reducible exact ih1 _ _ _ _ _ _)
      | (with_reducible exact intrusionref05_Normal.mono _ _)
      | (with_reducible exact LeO.refl _)
      | (with_reducible exact LeO.none _)
      | (with_reducible refine LeO.ite ?_ ?_)
      | (with_reducible refine LeO.bind ?_ (fun _ => ?_))
      | exact ih0 _ _ _ _ _
      | exact ih1 _ _ _ _ _ _
      | exact intrusionref05_Normal.mono _ _
      | exact LeO.none _
      | refine LeO.ite ?_ ?_
      | refine LeO.bind ?_ (fun _ => ?_)
theorem intrusionref05_Complement.mono : ∀ a0 a1 a2 k, LeO (intrusionref05_Complement.f k a0 a1 a2) (intrusionref05_Complement.f (k + 1) a0 a1 a2) := by
  intro a0 a1 a2 k
  obtain ⟨ih0, ih1⟩ := intrusionref05_Complement.mono_l k
  unfold intrusionref05_Complement.f
  repeat' first
      | (with_reducible exact ih0 _ _ _ _ _)
      | (with_reducible exact ih1 _ _ _ _ _ _)
      | (with_reducible exact intrusionref05_Normal.mono _ _)
      | (with_reducible exact LeO.refl _)
      | (with_reducible exact LeO.none _)
      | (with_reducible refine LeO.ite ?_ ?_)
      | (with_reducible refine LeO.bind ?_ (fun _ => ?_))
      | exact ih0 _ _ _ _ _
      | exact ih1 _ _ _ _ _ _
      | exact intrusionref05_Normal.mono _ _
      | exact LeO.none _
      | refine LeO.ite ?_ ?_
      | refine LeO.bind ?_ (fun _ => ?_)
set_option maxHeartbeats 8000000 in
set_option maxRecDepth 100000 in
theorem intrusionref05_Complement.calls (k : Nat) (A0 : Option Addr) (c0 : Nat) (l0 : List (S52)) (a1 : Int) (a2 : Int) (r : List (S52)) (w : World) (hr0 : Kd.C k52 w A0 l0.length l0) (hc0 : l0.length ≤ c0) (h : intrusionref05_Complement.f k l0 a1 a2 = some r) :
    Calls Try.prog 24 #[.slice A0 l0.length c0, .int .i64 a1, .int .i64 a2] w fun e w' => ∃ v0_ : Value, e = .returned (v0_) ∧ Kd.R k52 52 w' w.heap.size (fun _ => True) v0_ r ∧ Below w.heap.size w w' := by
  have hu52 := Try.underlying52
  have HR0 := Aside0.mk hr0
  have HC0 := Aside0.mk hc0
  clear hr0 hc0
  have HB := Aside0.mk (Below.refl w.heap.size w)
  have H : ((intrusionref05_Normal.f k l0).bind fun t272 => (intrusionref05_Complement.l0 k (mx a1 0) (mn a2 4294967296) t272 (([] : List (S52))) 0)) = some r := h
  clear h
  obtain ⟨ji4, hji4⟩ : ∃ j_ : Int, (mx a1 0) = j_ := ⟨_, rfl⟩
  replace H : ((intrusionref05_Normal.f k l0).bind fun t272 => (intrusionref05_Complement.l0 k ji4 (mn a2 4294967296) t272 (([] : List (S52))) 0)) = some r := by first | (rw [hji4] at H; exact H) | (simp only [hji4] at H ⊢; exact H)
  (try (have hji4l : 0 ≤ ji4 := by (rw [← hji4]; unfold mx; (repeat' split) <;> omega)))
  (try (have hji4m : 0 ≤ ji4 := by omega))
  have hji4_ : (if a1 < 0 then 0 else a1) = ji4 := hji4
  obtain ⟨ji5, hji5⟩ : ∃ j_ : Int, (mn a2 4294967296) = j_ := ⟨_, rfl⟩
  replace H : ((intrusionref05_Normal.f k l0).bind fun t272 => (intrusionref05_Complement.l0 k ji4 ji5 t272 (([] : List (S52))) 0)) = some r := by first | (rw [hji5] at H; exact H) | (simp only [hji5] at H ⊢; exact H)
  (try (have hji5h : ji5 ≤ 4294967296 := by (rw [← hji5]; unfold mn; (repeat' split) <;> omega)))
  (try (have hji5g : ji5 ≤ 64 := by omega))
  have hji5_ : (if 4294967296 < a2 then 4294967296 else a2) = ji5 := hji5
  replace H := Option.bind_eq_some_iff.mp H
  obtain ⟨t272, A60, H⟩ := H
  replace H : (intrusionref05_Complement.l0 k ji4 ji5 t272 (([] : List (S52))) 0) = some r := H
  have A6 := Aside0.mk A60
  clear A60
  obtain ⟨y275, hy275⟩ : ∃ y_ : List (S52), y_ = (([] : List (S52))) := ⟨_, rfl⟩
  replace H : (intrusionref05_Complement.l0 k ji4 ji5 t272 y275 0) = some r := by first | (rw [hy275]; with_reducible exact H) | (have H2_ := (Option.bind_some _ _).symm.trans H; rw [hy275]; with_reducible exact H2_) | (have H2_ := (Option.bind_some _ _).symm.trans H; with_reducible exact H2_) | with_reducible exact H | (rw [hy275]; exact H) | exact H
  have Ny275 := Aside0.mk hy275
  clear hy275
  have H' := Aside0.mk H
  clear H
  go_enter Try.func24, Try.ntmps24
  go_wp2_with (first | ((with_reducible refine gate_callee (f := 20) rfl ?_); refine goesL_ (some 16) rfl rfl Try.func20 (by kernel_rfl) rfl #[.slice A0 l0.length c0] rfl (by (try simp only [List.map_toArray, List.map_cons, List.map_nil]); first | done | rfl | (simp only [List.length_drop, List.length_take]; rfl)) ?_; (with_reducible refine (intrusionref05_Normal.calls k _ _ l0 t272 _ ?side1 ?side2 A6.out).mono ?_); (case side1 => repeat (first | exact HR0.out | (with_reducible refine Kd.C_alloc ?_ _) | (with_reducible refine Kd.C_drewN ?_ _) | (with_reducible refine Kd.C_drew ?_))); (case side2 => exact HC0.out); rintro e w7 ⟨v273, rfl, ho0, hb⟩; refine ⟨_, rfl, ?_⟩; have n0_ := Aside0.mk (Kd.R_lower ho0 (below_size (by repeat (first | (with_reducible first | exact HB.out | apply below_alloc | apply pw_below_drewN | apply below_drew1) | exact HB.out)))); have n1_ := Aside0.mk (below_step (by repeat (first | (with_reducible first | exact HB.out | apply below_alloc | apply pw_below_drewN | apply below_drew1) | exact HB.out)) hb); clear HB; have HO274 := n0_; have HB := n1_; clear n0_ n1_; (try clear hb); (try clear hb2); (try clear hk); (try clear hi); (try clear ho0)) | ((with_reducible refine gate_dst (N := 17) rfl ?_); refine Kd.R_lit k52 _ 52 ?hg (N := 17) ?hd (xs := ([] : List (S52))) (inner := []) (ok := fun _ => True) (okp := fun _ => True) ?hr ?hp (fun _ hk => hk) trivial (Below.refl _ _) (Nat.le_refl _) (by simp) ?_; (case hd => rfl); (case hg => rfl); (case hr => first | (go_simp; done) | (go_simp; rfl)); (case hp => exact (Reps.none _ _)); intro v276 w8 ho9 hb hg_ hnew_; clear hg_ hnew_; (first | rw [← Ny275.out] at ho9 | (simp only [Int.reduceToNat] at ho9; rw [← Ny275.out] at ho9)); have n0_ := Aside0.mk (Kd.R_elder' (by (with_reducible repeat (first | apply Kd.R_alloc | apply Kd.R_drewN | apply Kd.R_drew)); exact HO274.out) (Kd.R_base ho9) hb); have n1_ := Aside0.mk (Kd.R_lower (Kd.R_new' ho9 (Kd.R_lt (by (with_reducible repeat (first | apply Kd.R_alloc | apply Kd.R_drewN | apply Kd.R_drew)); exact HO274.out))) (below_size (by repeat (first | (with_reducible first | exact HB.out | apply below_alloc | apply pw_below_drewN | apply below_drew1) | exact HB.out)))); have n2_ := Aside0.mk (below_step (by repeat (first | (with_reducible first | exact HB.out | apply below_alloc | apply pw_below_drewN | apply below_drew1) | exact HB.out)) hb); clear HO274; clear HB; have HO274 := n0_; have HO277 := n1_; have HB := n2_; clear n0_ n1_ n2_; clear hb ho9))
  go_loopg [1, 8, 9] k (fun kq v1 v8 v9 w' => ∃ (x1_1 : Int) (x8_1 : List (S52)) (x9_1 : Int), v1 = .int .i64 x1_1 ∧ v9 = .int .i64 x9_1 ∧ Aside0 (intrusionref05_Complement.l0 kq x1_1 ji5 t272 x8_1 x9_1 = some r) ∧ Aside0 (kq ≤ k) ∧ Aside0 (Kd.R k52 52 w' w.heap.size (fun k_ => some k_ ≠ (v8 : Value).ownBlock) v273 t272) ∧ Aside0 (Kd.R k52 52 w' w.heap.size (fun k_ => some k_ ≠ (v273 : Value).ownBlock) v8 x8_1) ∧ Aside0 (Below w.heap.size w w'))
  case atStart => exact ⟨(ji4), (y275), (0), (by first | rfl | (simp; done) | (simp only [← hji4] <;> (first | rfl | simp)) | (simp [*]; done)), (by first | rfl | (simp; done) | (simp [*]; done)), H', ⟨Nat.le_refl _⟩, ⟨by (with_reducible repeat (first | apply Kd.R_alloc | apply Kd.R_drewN | apply Kd.R_drew)); exact Kd.R_mono HO274.out (fun _ hk => hk.2)⟩, ⟨by (with_reducible repeat (first | apply Kd.R_alloc | apply Kd.R_drewN | apply Kd.R_drew)); exact Kd.R_mono HO277.out (fun _ hk => hk.2)⟩, ⟨by repeat (first | (with_reducible first | exact HB.out | apply below_alloc | apply pw_below_drewN | apply below_drew1) | exact HB.out)⟩⟩
  case round =>
    clear H'
    try clear c2
    try clear p2
    obtain ⟨x1_1, x8_1, x9_1, rfl, rfl, HA, HK1, HO_7, HO_8, HB⟩ := hrel
    cases gk with
    | zero => exact absurd HA.out (by simp [intrusionref05_Complement.l0])
    | succ k1 =>
      have H := HA.out
      clear HA
      simp only [intrusionref05_Complement.l0] at H
      have HC10 := Aside0.mk H
      clear H
      go_upto_region 6 with (fail)
      go_cut [26] (fun v26 wc => ∃ (kq : Nat) (x26_9 : Bool), v26 = .bool x26_9 ∧ Aside0 (intrusionref05_Complement.j1 kq x1_1 ji5 t272 x8_1 x9_1 x26_9 = some r) ∧ Aside0 (kq ≤ k1) ∧ Aside0 (Kd.R k52 52 wc w.heap.size (fun k_ => some k_ ≠ (u8 : Value).ownBlock) v273 t272) ∧ Aside0 (Kd.R k52 52 wc w.heap.size (fun k_ => some k_ ≠ (v273 : Value).ownBlock) u8 x8_1) ∧ Aside0 (Below w.heap.size w wc))
      case first =>
        have H := HC10.out
        clear HC10
        by_cases c11 : x9_1 < (t272.length : Int)
        · rw [if_pos c11] at H
          have c11b0 : decide (x9_1 < (t272.length : Int)) = true := decide_eq_true c11
          clear c11
          (first | rw [c11b0] | (simp only [i64_w, i32_w]; rw [c11b0]) | skip)
          have H' := Aside0.mk H
          clear H
          obtain ⟨Ao12, co12, eo12⟩ := Kd.R_slice HO_7.out
          subst eo12
          go_wp2
          go_meet
          case rel => exact ⟨_, (decide (x1_1 ≤ ji5)), (by first | rfl | (simp; done) | (simp only [← hji5] <;> (first | rfl | simp)) | (simp [*]; done)), H', ⟨by have := HK1.out; first | omega | exact Nat.le_refl _⟩, ⟨by (with_reducible repeat (first | apply Kd.R_alloc | apply Kd.R_drewN | apply Kd.R_drew)); exact HO_7.out⟩, ⟨by (with_reducible repeat (first | apply Kd.R_alloc | apply Kd.R_drewN | apply Kd.R_drew)); exact HO_8.out⟩, ⟨by repeat (first | (with_reducible first | exact HB.out | apply below_alloc | apply pw_below_drewN | apply below_drew1) | exact HB.out)⟩⟩
        · rw [if_neg c11] at H
          have c11b0 : decide (x9_1 < (t272.length : Int)) = false := decide_eq_false c11
          clear c11
          (first | rw [c11b0] | (simp only [i64_w, i32_w]; rw [c11b0]) | skip)
          have H' := Aside0.mk H
          clear H
          obtain ⟨Ao13, co13, eo13⟩ := Kd.R_slice HO_7.out
          subst eo13
          go_wp2
          go_meet
          case rel => exact ⟨_, (false), (by first | rfl | (simp; done) | (simp [*]; done)), H', ⟨by have := HK1.out; first | omega | exact Nat.le_refl _⟩, ⟨by (with_reducible repeat (first | apply Kd.R_alloc | apply Kd.R_drewN | apply Kd.R_drew)); exact HO_7.out⟩, ⟨by (with_reducible repeat (first | apply Kd.R_alloc | apply Kd.R_drewN | apply Kd.R_drew)); exact HO_8.out⟩, ⟨by repeat (first | (with_reducible first | exact HB.out | apply below_alloc | apply pw_below_drewN | apply below_drew1) | exact HB.out)⟩⟩
      case rest =>
        clear HC10
        try clear c1
        try clear c2
        try clear p2
        try clear c11
        try clear c11b0
        try clear p2
        obtain ⟨kq, x26_9, rfl, HA, HJ9, HO_7, HO_8, HB⟩ := hcut
        cases kq with
        | zero => exact absurd HA.out (by simp [intrusionref05_Complement.j1])
        | succ kj9 =>
          have H := HA.out
          clear HA
          simp only [intrusionref05_Complement.j1] at H
          by_cases c14 : x26_9 = true
          · subst c14
            have H1 : (if 0 ≤ x9_1 then (if x9_1 < (t272.length : Int) then (if x1_1 ≤ (mn ji5 (wrap64 (((rd_T52 t272 x9_1).f0) - 1))) then (if x8_1.length < 8796093022208 then (intrusionref05_Complement.l0 kj9 (mx x1_1 (wrap64 (((rd_T52 t272 x9_1).f1) + 1))) ji5 t272 (x8_1 ++ [(⟨x1_1, mn ji5 (wrap64 (((rd_T52 t272 x9_1).f0) - 1))⟩ : S52)]) (wrap64 (x9_1 + 1))) else (none)) else (intrusionref05_Complement.l0 kj9 (mx x1_1 (wrap64 (((rd_T52 t272 x9_1).f1) + 1))) ji5 t272 x8_1 (wrap64 (x9_1 + 1)))) else (none)) else (none)) = some r := by rw [if_pos rfl] at H; exact H
            clear H
            have H := H1
            clear H1
            by_cases c15 : 0 ≤ x9_1
            · rw [if_pos c15] at H
              have c15b0 : decide (0 ≤ x9_1) = true := decide_eq_true c15
              clear c15
              by_cases c16 : x9_1 < (t272.length : Int)
              · rw [if_pos c16] at H
                have c16b0 : decide (x9_1 < (t272.length : Int)) = true := decide_eq_true c16
                clear c16
                obtain ⟨ji17, hji17⟩ : ∃ j_ : Int, (mn ji5 (wrap64 (((rd_T52 t272 x9_1).f0) - 1))) = j_ := ⟨_, rfl⟩
                replace H : (if x1_1 ≤ (ji17) then (if x8_1.length < 8796093022208 then (intrusionref05_Complement.l0 kj9 (mx x1_1 (wrap64 (((rd_T52 t272 x9_1).f1) + 1))) ji5 t272 (x8_1 ++ [(⟨x1_1, ji17⟩ : S52)]) (wrap64 (x9_1 + 1))) else (none)) else (intrusionref05_Complement.l0 kj9 (mx x1_1 (wrap64 (((rd_T52 t272 x9_1).f1) + 1))) ji5 t272 x8_1 (wrap64 (x9_1 + 1)))) = some r := by first | (rw [hji17] at H; exact H) | (simp only [hji17] at H ⊢; exact H)
                have hji17_ : (if (wrap64 (((rd_T52 t272 x9_1).f0) - 1)) < ji5 then (wrap64 (((rd_T52 t272 x9_1).f0) - 1)) else ji5) = ji17 := hji17
                by_cases c18 : x1_1 ≤ (ji17)
                · rw [if_pos c18] at H
                  have c18b0 : decide (x1_1 ≤ (ji17)) = true := decide_eq_true c18
                  clear c18
                  by_cases c19 : x8_1.length < 8796093022208
                  · rw [if_pos c19] at H
                    have LMc19 := Aside0.mk c19
                    clear c19
                    obtain ⟨y280, hy280⟩ : ∃ y_ : List (S52), y_ = (x8_1 ++ [(⟨x1_1, ji17⟩ : S52)]) := ⟨_, rfl⟩
                    replace H : (intrusionref05_Complement.l0 kj9 (mx x1_1 (wrap64 (((rd_T52 t272 x9_1).f1) + 1))) ji5 t272 y280 (wrap64 (x9_1 + 1))) = some r := by first | (rw [hy280]; with_reducible exact H) | (have H2_ := (Option.bind_some _ _).symm.trans H; rw [hy280]; with_reducible exact H2_) | (have H2_ := (Option.bind_some _ _).symm.trans H; with_reducible exact H2_) | with_reducible exact H | (rw [hy280]; exact H) | exact H
                    have Ny280 := Aside0.mk hy280
                    clear hy280
                    obtain ⟨ji20, hji20⟩ : ∃ j_ : Int, (mx x1_1 (wrap64 (((rd_T52 t272 x9_1).f1) + 1))) = j_ := ⟨_, rfl⟩
                    replace H : (intrusionref05_Complement.l0 kj9 ji20 ji5 t272 y280 (wrap64 (x9_1 + 1))) = some r := by first | (rw [hji20] at H; exact H) | (simp only [hji20] at H ⊢; exact H)
                    have hji20_ : (if x1_1 < (wrap64 (((rd_T52 t272 x9_1).f1) + 1)) then (wrap64 (((rd_T52 t272 x9_1).f1) + 1)) else x1_1) = ji20 := hji20
                    have H' := Aside0.mk H
                    clear H
                    obtain ⟨Ao21, co21, eo21⟩ := Kd.R_slice HO_7.out
                    subst eo21
                    have p278 : 0 ≤ (x9_1 : Int) := of_decide_eq_true (by first | (with_reducible assumption) | assumption)
                    have q278 : x9_1 < (t272.length : Int) := of_decide_eq_true (by first | (with_reducible assumption) | assumption)
                    obtain ⟨ad278, e278, hx278_0, hx278_1⟩ := at_T52 (Kd.R_reads' HO_7.out).2.2 x9_1 p278 q278
                    cases e278
                    replace p278 := eq_true p278
                    replace q278 := eq_true q278
                    go_wp2_with (first | ((with_reducible refine gate_dst (N := 10) rfl ?_); refine box_event ?hg (N := 10) ?hd (cs := #[.int .i64 0, .int .i64 0]) (t := 52) ?hr ?_; (case hd => rfl); (case hg => rfl); (case hr => first | (go_simp; done) | (go_simp; rfl)); intro gb279 hg w22 hbox hb; have n0_ := Aside0.mk (Kd.R_below (Kd.R_elderB (by (with_reducible repeat (first | apply Kd.R_alloc | apply Kd.R_drewN | apply Kd.R_drew)); exact HO_7.out) gb279 (Nat.le_of_eq hg.symm)) hb); have n1_ := Aside0.mk (Kd.R_below (Kd.R_elderB (by (with_reducible repeat (first | apply Kd.R_alloc | apply Kd.R_drewN | apply Kd.R_drew)); exact HO_8.out) gb279 (Nat.le_of_eq hg.symm)) hb); have n2_ := Aside0.mk (below_step (by repeat (first | (with_reducible first | exact HB.out | apply below_alloc | apply pw_below_drewN | apply below_drew1) | exact HB.out)) hb); have n3_ := Aside0.mk (hbox); have n4_ := Aside0.mk ((by rw [hg]; exact (below_size (by repeat (first | (with_reducible first | exact HB.out | apply below_alloc | apply pw_below_drewN | apply below_drew1) | exact HB.out))) : w.heap.size ≤ gb279)); have n5_ := Aside0.mk ((by rw [hg]; exact (below_size (by repeat (first | (with_reducible first | exact HB.out | apply below_alloc | apply pw_below_drewN | apply below_drew1) | exact HB.out))) : w.heap.size ≤ gb279)); clear HO_7; clear HO_8; clear HB; have HO_7 := n0_; have HO_8 := n1_; have HB := n2_; have BK279 := n3_; have GW279 := n4_; have GE279 := n5_; clear n0_ n1_ n2_ n3_ n4_ n5_; clear hb hbox hg; have hcz23_0 : w22.cell? ⟨gb279, 0, none⟩ = some (.int .i64 0) := (blk_cell BK279.out 0).trans rfl; have hcz23_1 : w22.cell? ⟨gb279, 1, none⟩ = some (.int .i64 0) := (blk_cell BK279.out 1).trans rfl; have hfz23_0 := blk_frozen BK279.out 0; have hfz23_1 := blk_frozen BK279.out 1) | ((with_reducible refine gate_builtin (b := .append) (xs := #[.tmp 44, .tmp 46]) rfl ?_); at_builtin; refine Kd.R_append k52 (w0 := w) w.heap.size rfl (.tmp 44) (.tmp 46) 22 52 (.agg #[(.int .i64 0), (.int .i64 0)]) 16 rfl Try.underlying22 info52 rfl (by decide) (by omega) u8 x8_1 (⟨x1_1, ji17⟩ : S52) [.int .i64 x1_1, .int .i64 ji17] (fun k_ => some k_ ≠ (.slice (some ad278) t272.length co21 : Value).ownBlock ∧ k_ ≠ gb279) (fun _ => False) rfl (by first | (go_simp; done) | (go_simp; rfl)) ?aP (fun _ hk => hk.elim) ?aF ?aO ?aB ?aS ?aL ?_; (case aP => exact k52_mkM _ _ _ (⟨x1_1, ji17⟩ : S52)); (case aB => exact (by repeat (first | (with_reducible first | exact HB.out | apply below_alloc | apply pw_below_drewN | apply below_drew1 | refine below_set ?_ GE279.out) | exact HB.out))); (case aF => exact (fun k_ hk => ⟨Kd.fresh' (Kd.R_lt (by (with_reducible repeat (first | apply Kd.R_alloc | apply Kd.R_drewN | apply Kd.R_drew)); exact (Kd.R_mono (Kd.R_far (p := ⟨gb279, 1, none⟩) (Kd.R_far (p := ⟨gb279, 0, none⟩) (Kd.R_mono HO_7.out (fun k_ hk => (⟨hk, hk.2⟩ : _ ∧ k_ ≠ gb279))) (fun _ hk => hk.2) (.int .i64 x1_1)) (fun _ hk => hk.2) (.int .i64 ji17)) (fun _ h_ => h_.1)))) k_ hk, Kd.freshB (g := gb279) (o := .cells #[.int .i64 x1_1, .int .i64 ji17] 52 (0, 0)) (by (with_reducible repeat (first | refine blk_drewN ?_ _ | refine blk_drew ?_ | refine blk_alloc ?_ _)); refine blk_put (cs := #[.int .i64 x1_1, .int .i64 0]) ?_ 1 _ rfl; (with_reducible repeat (first | refine blk_drewN ?_ _ | refine blk_drew ?_ | refine blk_alloc ?_ _)); refine blk_put (cs := #[.int .i64 0, .int .i64 0]) ?_ 0 _ rfl; (with_reducible repeat (first | refine blk_drewN ?_ _ | refine blk_drew ?_ | refine blk_alloc ?_ _)); exact BK279.out) k_ hk⟩)); (case aO => exact (by (with_reducible repeat (first | apply Kd.R_alloc | apply Kd.R_drewN | apply Kd.R_drew)); exact Kd.R_mono (Kd.R_far (p := ⟨gb279, 1, none⟩) (Kd.R_far (p := ⟨gb279, 0, none⟩) (Kd.R_mono HO_8.out (fun k_ hk => (⟨hk, hk.2⟩ : _ ∧ k_ ≠ gb279))) (fun _ hk => hk.2) (.int .i64 x1_1)) (fun _ hk => hk.2) (.int .i64 ji17)) (fun _ hk => ⟨hk.1.1, hk.1.2⟩))); (case aS => exact (below_size (by repeat (first | (with_reducible first | exact HB.out | apply below_alloc | apply pw_below_drewN | apply below_drew1 | refine below_set ?_ GE279.out) | exact HB.out)))); (case aL => have := LMc19.out; omega); intro v281 w24 ho hb hg hat; rw [← Ny280.out] at ho; have n0_ := Aside0.mk (Kd.R_after (ok := (fun k_ => k_ ≠ gb279)) (by (with_reducible repeat (first | apply Kd.R_alloc | apply Kd.R_drewN | apply Kd.R_drew)); exact Kd.R_mono (Kd.R_far (p := ⟨gb279, 1, none⟩) (Kd.R_far (p := ⟨gb279, 0, none⟩) (Kd.R_mono HO_7.out (fun k_ hk => (⟨hk, hk.2⟩ : _ ∧ k_ ≠ gb279))) (fun _ hk => hk.2) (.int .i64 x1_1)) (fun _ hk => hk.2) (.int .i64 ji17)) (fun _ hk => ⟨hk.1.2, hk.1.1⟩)) hg hat); have n1_ := Aside0.mk (blk_grown (g := gb279) (o := .cells #[.int .i64 x1_1, .int .i64 ji17] 52 (0, 0)) (by (with_reducible repeat (first | refine blk_drewN ?_ _ | refine blk_drew ?_ | refine blk_alloc ?_ _)); refine blk_put (cs := #[.int .i64 x1_1, .int .i64 0]) ?_ 1 _ rfl; (with_reducible repeat (first | refine blk_drewN ?_ _ | refine blk_drew ?_ | refine blk_alloc ?_ _)); refine blk_put (cs := #[.int .i64 0, .int .i64 0]) ?_ 0 _ rfl; (with_reducible repeat (first | refine blk_drewN ?_ _ | refine blk_drew ?_ | refine blk_alloc ?_ _)); exact BK279.out) hg (Kd.R_away HO_8.out (fun _ hk => hk.2))); have n2_ := Aside0.mk (hb); have n3_ := Aside0.mk (ho); clear HO_7; clear BK279; clear HB; clear HO_8; have HO_7 := n0_; have BK279 := n1_; have HB := n2_; have HO282 := n3_; clear n0_ n1_ n2_ n3_; clear ho hb hg hat; have p283 : 0 ≤ (x9_1 : Int) := of_decide_eq_true (by first | (with_reducible assumption) | assumption); have q283 : x9_1 < (t272.length : Int) := of_decide_eq_true (by first | (with_reducible assumption) | assumption); obtain ⟨ad283, e283, hx283_0, hx283_1⟩ := at_T52 (Kd.R_reads' HO_7.out).2.2 x9_1 p283 q283; obtain rfl : ad278 = ad283 := (by injection e283); replace p283 := eq_true p283; replace q283 := eq_true q283))
                    go_roundg kj9
                    case measure => have := HK1.out; have := HJ9.out; omega
                    case rel => exact ⟨(ji20), (y280), (wrap64 (x9_1 + 1)), (by first | rfl | (simp; done) | (simp only [← hji20] <;> (first | rfl | simp)) | (simp [*]; done)), (by first | rfl | (simp; done) | (simp [*]; done)), H', ⟨by have := HK1.out; have := HJ9.out; omega⟩, ⟨by (with_reducible repeat (first | apply Kd.R_alloc | apply Kd.R_drewN | apply Kd.R_drew)); exact Kd.R_mono HO_7.out (fun _ hk => hk.2)⟩, ⟨by (with_reducible repeat (first | apply Kd.R_alloc | apply Kd.R_drewN | apply Kd.R_drew)); exact Kd.R_mono HO282.out (fun _ hk => hk.1)⟩, ⟨by repeat (first | (with_reducible first | exact HB.out | apply below_alloc | apply pw_below_drewN | apply below_drew1 | refine below_set ?_ GE279.out) | exact HB.out)⟩⟩
                  · rw [if_neg c19] at H
                    exact absurd H (by simp)
                · rw [if_neg c18] at H
                  have c18b0 : decide (x1_1 ≤ (ji17)) = false := decide_eq_false c18
                  clear c18
                  obtain ⟨ji25, hji25⟩ : ∃ j_ : Int, (mx x1_1 (wrap64 (((rd_T52 t272 x9_1).f1) + 1))) = j_ := ⟨_, rfl⟩
                  replace H : (intrusionref05_Complement.l0 kj9 ji25 ji5 t272 x8_1 (wrap64 (x9_1 + 1))) = some r := by first | (rw [hji25] at H; exact H) | (simp only [hji25] at H ⊢; exact H)
                  have hji25_ : (if x1_1 < (wrap64 (((rd_T52 t272 x9_1).f1) + 1)) then (wrap64 (((rd_T52 t272 x9_1).f1) + 1)) else x1_1) = ji25 := hji25
                  have H' := Aside0.mk H
                  clear H
                  obtain ⟨Ao26, co26, eo26⟩ := Kd.R_slice HO_7.out
                  subst eo26
                  have p278 : 0 ≤ (x9_1 : Int) := of_decide_eq_true (by first | (with_reducible assumption) | assumption)
                  have q278 : x9_1 < (t272.length : Int) := of_decide_eq_true (by first | (with_reducible assumption) | assumption)
                  obtain ⟨ad278, e278, hx278_0, hx278_1⟩ := at_T52 (Kd.R_reads' HO_7.out).2.2 x9_1 p278 q278
                  cases e278
                  replace p278 := eq_true p278
                  replace q278 := eq_true q278
                  go_wp2_with (first | ((with_reducible refine gate_dst (N := 10) rfl ?_); refine box_event ?hg (N := 10) ?hd (cs := #[.int .i64 0, .int .i64 0]) (t := 52) ?hr ?_; (case hd => rfl); (case hg => rfl); (case hr => first | (go_simp; done) | (go_simp; rfl)); intro gb279 hg w27 hbox hb; have n0_ := Aside0.mk (Kd.R_below (Kd.R_elderB (by (with_reducible repeat (first | apply Kd.R_alloc | apply Kd.R_drewN | apply Kd.R_drew)); exact HO_7.out) gb279 (Nat.le_of_eq hg.symm)) hb); have n1_ := Aside0.mk (Kd.R_below (Kd.R_elderB (by (with_reducible repeat (first | apply Kd.R_alloc | apply Kd.R_drewN | apply Kd.R_drew)); exact HO_8.out) gb279 (Nat.le_of_eq hg.symm)) hb); have n2_ := Aside0.mk (below_step (by repeat (first | (with_reducible first | exact HB.out | apply below_alloc | apply pw_below_drewN | apply below_drew1) | exact HB.out)) hb); have n3_ := Aside0.mk (hbox); have n4_ := Aside0.mk ((by rw [hg]; exact (below_size (by repeat (first | (with_reducible first | exact HB.out | apply below_alloc | apply pw_below_drewN | apply below_drew1) | exact HB.out))) : w.heap.size ≤ gb279)); have n5_ := Aside0.mk ((by rw [hg]; exact (below_size (by repeat (first | (with_reducible first | exact HB.out | apply below_alloc | apply pw_below_drewN | apply below_drew1) | exact HB.out))) : w.heap.size ≤ gb279)); clear HO_7; clear HO_8; clear HB; have HO_7 := n0_; have HO_8 := n1_; have HB := n2_; have BK279 := n3_; have GW279 := n4_; have GE279 := n5_; clear n0_ n1_ n2_ n3_ n4_ n5_; clear hb hbox hg; have hcz28_0 : w27.cell? ⟨gb279, 0, none⟩ = some (.int .i64 0) := (blk_cell BK279.out 0).trans rfl; have hcz28_1 : w27.cell? ⟨gb279, 1, none⟩ = some (.int .i64 0) := (blk_cell BK279.out 1).trans rfl; have hfz28_0 := blk_frozen BK279.out 0; have hfz28_1 := blk_frozen BK279.out 1; have p284 : 0 ≤ (x9_1 : Int) := of_decide_eq_true (by first | (with_reducible assumption) | assumption); have q284 : x9_1 < (t272.length : Int) := of_decide_eq_true (by first | (with_reducible assumption) | assumption); obtain ⟨ad284, e284, hx284_0, hx284_1⟩ := at_T52 (Kd.R_reads' HO_7.out).2.2 x9_1 p284 q284; obtain rfl : ad278 = ad284 := (by injection e284); have hn284_0 : ad278.block ≠ gb279 := (by first | exact Kd.own_blk (Kd.R_ne HO_7.out BK279.out (by decide)) | exact Kd.own_blk (Kd.R_away HO_7.out (fun _ hk => by first | exact hk.2 | exact hk | exact hk.1 | exact hk.2.2 | exact hk.1.2))); have hn284_1 : ad278.block ≠ gb279 := (by first | exact Kd.own_blk (Kd.R_ne HO_7.out BK279.out (by decide)) | exact Kd.own_blk (Kd.R_away HO_7.out (fun _ hk => by first | exact hk.2 | exact hk | exact hk.1 | exact hk.2.2 | exact hk.1.2))); replace hx284_0 := (cell_far (p := ⟨gb279, 0, none⟩) (by first | (rw [add_block]; exact hn284_0) | (show (Addr.add _ _).block ≠ _; rw [add_block]; exact hn284_0) | exact hn284_0) (.int .i64 x1_1)).trans hx284_0; replace hx284_1 := (cell_far (p := ⟨gb279, 0, none⟩) (by first | (rw [add_block]; exact hn284_0) | (show (Addr.add _ _).block ≠ _; rw [add_block]; exact hn284_0) | exact hn284_0) (.int .i64 x1_1)).trans hx284_1; replace hx284_0 := (cell_far (p := ⟨gb279, 1, none⟩) (by first | (rw [add_block]; exact hn284_1) | (show (Addr.add _ _).block ≠ _; rw [add_block]; exact hn284_1) | exact hn284_1) (.int .i64 ji17)).trans hx284_0; replace hx284_1 := (cell_far (p := ⟨gb279, 1, none⟩) (by first | (rw [add_block]; exact hn284_1) | (show (Addr.add _ _).block ≠ _; rw [add_block]; exact hn284_1) | exact hn284_1) (.int .i64 ji17)).trans hx284_1; clear hn284_0; clear hn284_1; replace p284 := eq_true p284; replace q284 := eq_true q284))
                  go_roundg kj9
                  case measure => have := HK1.out; have := HJ9.out; omega
                  case rel => exact ⟨(ji25), (x8_1), (wrap64 (x9_1 + 1)), (by first | rfl | (simp; done) | (simp only [← hji25] <;> (first | rfl | simp)) | (simp [*]; done)), (by first | rfl | (simp; done) | (simp [*]; done)), H', ⟨by have := HK1.out; have := HJ9.out; omega⟩, ⟨by (with_reducible repeat (first | apply Kd.R_alloc | apply Kd.R_drewN | apply Kd.R_drew)); exact Kd.R_mono (Kd.R_far (p := ⟨gb279, 1, none⟩) (Kd.R_far (p := ⟨gb279, 0, none⟩) (Kd.R_mono HO_7.out (fun k_ hk => (⟨hk, hk.2⟩ : _ ∧ k_ ≠ gb279))) (fun _ hk => hk.2) (.int .i64 x1_1)) (fun _ hk => hk.2) (.int .i64 ji17)) (fun _ hk => hk.1.1)⟩, ⟨by (with_reducible repeat (first | apply Kd.R_alloc | apply Kd.R_drewN | apply Kd.R_drew)); exact Kd.R_mono (Kd.R_far (p := ⟨gb279, 1, none⟩) (Kd.R_far (p := ⟨gb279, 0, none⟩) (Kd.R_mono HO_8.out (fun k_ hk => (⟨hk, hk.2⟩ : _ ∧ k_ ≠ gb279))) (fun _ hk => hk.2) (.int .i64 x1_1)) (fun _ hk => hk.2) (.int .i64 ji17)) (fun _ hk => hk.1.1)⟩, ⟨by repeat (first | (with_reducible first | exact HB.out | apply below_alloc | apply pw_below_drewN | apply below_drew1 | refine below_set ?_ GE279.out) | exact HB.out)⟩⟩
              · rw [if_neg c16] at H
                exact absurd H (by simp)
            · rw [if_neg c15] at H
              exact absurd H (by simp)
          · replace c14 := Bool.eq_false_iff.mpr c14
            subst c14
            have H1 : (if x1_1 ≤ ji5 then (if x8_1.length < 8796093022208 then (some (x8_1 ++ [(⟨x1_1, ji5⟩ : S52)])) else (none)) else (some x8_1)) = some r := by rw [if_neg (show ¬ (false = true) by decide)] at H; exact H
            clear H
            have H := H1
            clear H1
            by_cases c29 : x1_1 ≤ ji5
            · rw [if_pos c29] at H
              have c29b0 : decide (x1_1 ≤ ji5) = true := decide_eq_true c29
              clear c29
              by_cases c30 : x8_1.length < 8796093022208
              · rw [if_pos c30] at H
                have LMc30 := Aside0.mk c30
                clear c30
                obtain ⟨y285, hy285⟩ : ∃ y_ : List (S52), y_ = (x8_1 ++ [(⟨x1_1, ji5⟩ : S52)]) := ⟨_, rfl⟩
                replace H : (some y285) = some r := by first | (rw [hy285]; with_reducible exact H) | (have H2_ := (Option.bind_some _ _).symm.trans H; rw [hy285]; with_reducible exact H2_) | (have H2_ := (Option.bind_some _ _).symm.trans H; with_reducible exact H2_) | with_reducible exact H | (rw [hy285]; exact H) | exact H
                have Ny285 := Aside0.mk hy285
                clear hy285
                obtain rfl := Option.some.inj H
                go_wp2_with (first | ((with_reducible refine gate_builtin (b := .append) (xs := #[.tmp 59, .tmp 63]) rfl ?_); at_builtin; refine Kd.R_append k52 (w0 := w) w.heap.size rfl (.tmp 59) (.tmp 63) 22 52 (.agg #[(.int .i64 0), (.int .i64 0)]) 16 rfl Try.underlying22 info52 rfl (by decide) (by omega) u8 x8_1 (⟨x1_1, ji5⟩ : S52) [.int .i64 x1_1, .int .i64 ji5] (fun k_ => some k_ ≠ (v273 : Value).ownBlock) (fun _ => False) rfl rfl ?aP (fun _ hk => hk.elim) ?aF ?aO ?aB ?aS ?aL ?_; (case aP => exact k52_mkM _ _ _ (⟨x1_1, ji5⟩ : S52)); (case aB => exact (by repeat (first | (with_reducible first | exact HB.out | apply below_alloc | apply pw_below_drewN | apply below_drew1) | exact HB.out))); (case aF => exact (fun k_ hk => Kd.fresh' (Kd.R_lt (by (with_reducible repeat (first | apply Kd.R_alloc | apply Kd.R_drewN | apply Kd.R_drew)); exact HO_7.out)) k_ hk)); (case aO => exact (by (with_reducible repeat (first | apply Kd.R_alloc | apply Kd.R_drewN | apply Kd.R_drew)); exact HO_8.out)); (case aS => exact (below_size (by repeat (first | (with_reducible first | exact HB.out | apply below_alloc | apply pw_below_drewN | apply below_drew1) | exact HB.out)))); (case aL => have := LMc30.out; omega); intro v286 w31 ho hb hg hat; rw [← Ny285.out] at ho; have n0_ := Aside0.mk (Kd.R_after (ok := (fun _ => True)) (by (with_reducible repeat (first | apply Kd.R_alloc | apply Kd.R_drewN | apply Kd.R_drew)); exact Kd.R_mono HO_7.out (fun _ hk => ⟨trivial, hk⟩)) hg hat); have n1_ := Aside0.mk (hb); have n2_ := Aside0.mk (ho); clear HO_7; clear HB; clear HO_8; have HO_7 := n0_; have HB := n1_; have HO287 := n2_; clear n0_ n1_ n2_; clear ho hb hg hat))
                go_ret
                exact ⟨_, by first | rfl | (simp [errW_none, errW_some] <;> rfl) | (simp only [← hji4, ← hji5]; first | rfl | (simp [errW_none, errW_some] <;> rfl)) | (simp [*, errW_none, errW_some] <;> rfl), by (with_reducible repeat (first | apply Kd.R_alloc | apply Kd.R_drewN | apply Kd.R_drew)); exact Kd.R_mono HO287.out (fun _ hk => trivial), by repeat (first | (with_reducible first | exact HB.out | apply below_alloc | apply pw_below_drewN | apply below_drew1) | exact HB.out)⟩
              · rw [if_neg c30] at H
                exact absurd H (by simp)
            · rw [if_neg c29] at H
              have c29b0 : decide (x1_1 ≤ ji5) = false := decide_eq_false c29
              clear c29
              obtain rfl := Option.some.inj H
              go_wp2
              go_ret
              exact ⟨_, by first | rfl | (simp [errW_none, errW_some] <;> rfl) | (simp only [← hji4, ← hji5]; first | rfl | (simp [errW_none, errW_some] <;> rfl)) | (simp [*, errW_none, errW_some] <;> rfl), by (with_reducible repeat (first | apply Kd.R_alloc | apply Kd.R_drewN | apply Kd.R_drew)); exact Kd.R_mono HO_8.out (fun _ hk => trivial), by repeat (first | (with_reducible first | exact HB.out | apply below_alloc | apply pw_below_drewN | apply below_drew1) | exact HB.out)⟩
end Go.Proofs.Ytcgfpffgiimgmaa.Q
end

section
namespace Go.Proofs.Ytcgfpffgiimgmaa.Q
open Go.RowKit Go.Proofs.YtcgfpffgiimgmaaW.PrintWords Go.Proofs.YtcgfpffgiimgmaaW.PrintLast Go.Proofs.YtcgfpffgiimgmaaW.PrintMore
attribute [local go_sem] max2_int min2_int max_two min_two max_three min_three max_four min_four
set_option linter.unusedVariables false
set_option linter.unusedSimpArgs false
def intrusionlaw05_IntervalComplements.f (k : Nat) (l0 : List (S52)) (a1 : Int) (a2 : Int) : Option (Bool) := (intrusionlaw05_large.f l0).bind fun t288 => (if t288 = true then ((intrusionlaw05_awake.f k).bind fun t289 => (some t289)) else ((interval_Complement.f k l0 a1 a2).bind fun t290 => ((intrusionref05_Complement.f k l0 a1 a2).bind fun t293 => ((intrusionlaw05_same.f k t290 t293).bind fun t296 => (if t296 = true then ((intrusionlaw05_awake.f k).bind fun t297 => (some t297)) else (some false))))))
theorem intrusionlaw05_IntervalComplements.mono : ∀ a0 a1 a2 k, LeO (intrusionlaw05_IntervalComplements.f k a0 a1 a2) (intrusionlaw05_IntervalComplements.f (k + 1) a0 a1 a2) := by
  intro a0 a1 a2 k
  unfold intrusionlaw05_IntervalComplements.f
  repeat' first
      | (with_reducible exact interval_Complement.mono _ _ _ _)
      | (with_reducible exact intrusionlaw05_awake.mono _)
      | (with_reducible exact intrusionlaw05_same.mono _ _ _)
      | (with_reducible exact intrusionref05_Complement.mono _ _ _ _)
      | (with_reducible exact LeO.refl _)
      | (with_reducible exact LeO.none _)
      | (with_reducible refine LeO.ite ?_ ?_)
      | (with_reducible refine LeO.bind ?_ (fun _ => ?_))
      | exact interval_Complement.mono _ _ _ _
      | exact intrusionlaw05_awake.mono _
      | exact intrusionlaw05_same.mono _ _ _
      | exact intrusionref05_Complement.mono _ _ _ _
      | exact LeO.none _
      | refine LeO.ite ?_ ?_
      | refine LeO.bind ?_ (fun _ => ?_)
set_option maxHeartbeats 8000000 in
set_option maxRecDepth 100000 in
theorem intrusionlaw05_IntervalComplements.calls (k : Nat) (A0 : Option Addr) (c0 : Nat) (l0 : List (S52)) (a1 : Int) (a2 : Int) (r : Bool) (w : World) (hr0 : Kd.C k52 w A0 l0.length l0) (hc0 : l0.length ≤ c0) (h : intrusionlaw05_IntervalComplements.f k l0 a1 a2 = some r) :
    Calls Try.prog 4 #[.slice A0 l0.length c0, .int .i64 a1, .int .i64 a2] w fun e w' => e = .returned (.bool r) ∧ Below w.heap.size w w' := by
  have HR0 := Aside0.mk hr0
  have HC0 := Aside0.mk hc0
  clear hr0 hc0
  have HB := Aside0.mk (Below.refl w.heap.size w)
  have H : ((intrusionlaw05_large.f l0).bind fun t288 => (if t288 = true then ((intrusionlaw05_awake.f k).bind fun t289 => (some t289)) else ((interval_Complement.f k l0 a1 a2).bind fun t290 => ((intrusionref05_Complement.f k l0 a1 a2).bind fun t293 => ((intrusionlaw05_same.f k t290 t293).bind fun t296 => (if t296 = true then ((intrusionlaw05_awake.f k).bind fun t297 => (some t297)) else (some false))))))) = some r := h
  clear h
  replace H := Option.bind_eq_some_iff.mp H
  obtain ⟨t288, A40, H⟩ := H
  replace H : (if t288 = true then ((intrusionlaw05_awake.f k).bind fun t289 => (some t289)) else ((interval_Complement.f k l0 a1 a2).bind fun t290 => ((intrusionref05_Complement.f k l0 a1 a2).bind fun t293 => ((intrusionlaw05_same.f k t290 t293).bind fun t296 => (if t296 = true then ((intrusionlaw05_awake.f k).bind fun t297 => (some t297)) else (some false)))))) = some r := H
  have A4 := Aside0.mk A40
  clear A40
  by_cases c5 : t288 = true
  · subst c5
    have H1 : ((intrusionlaw05_awake.f k).bind fun t289 => (some t289)) = some r := by rw [if_pos rfl] at H; exact H
    clear H
    have H := H1
    clear H1
    replace H := Option.bind_eq_some_iff.mp H
    obtain ⟨t289, A60, H⟩ := H
    replace H : (some t289) = some r := H
    have A6 := Aside0.mk A60
    clear A60
    obtain rfl := Option.some.inj H
    go_enter Try.func4, Try.ntmps4
    go_wp2_with (first | ((with_reducible refine gate_callee (f := 14) rfl ?_); refine goesL_ (some 8) rfl rfl Try.func14 (by kernel_rfl) rfl #[.slice A0 l0.length c0] rfl (by (try simp only [List.map_toArray, List.map_cons, List.map_nil]); first | done | rfl | (simp only [List.length_drop, List.length_take]; rfl)) ?_; (with_reducible refine (intrusionlaw05_large.calls _ _ l0 true _ ?side1 ?side2 A4.out).mono ?_); (case side1 => repeat (first | exact HR0.out | (with_reducible refine Kd.C_alloc ?_ _) | (with_reducible refine Kd.C_drewN ?_ _) | (with_reducible refine Kd.C_drew ?_))); (case side2 => exact HC0.out); rintro e w' ⟨rfl, ⟨nd, rfl⟩⟩; refine ⟨_, rfl, ?_⟩) | ((with_reducible refine gate_callee (f := 15) rfl ?_); refine goesL_ (some 9) rfl rfl Try.func15 (by kernel_rfl) rfl #[] rfl (by (try simp only [List.map_toArray, List.map_cons, List.map_nil]); first | done | rfl | (simp only [List.length_drop, List.length_take]; rfl)) ?_; (with_reducible refine (intrusionlaw05_awake.calls k  t289 _ A6.out).mono ?_); rintro e w7 ⟨rfl, hb⟩; refine ⟨_, rfl, ?_⟩; have n0_ := Aside0.mk (below_step (by repeat (first | (with_reducible first | exact HB.out | apply below_alloc | apply pw_below_drewN | apply below_drew1) | exact HB.out)) hb); clear HB; have HB := n0_; clear n0_; (try clear hb); (try clear hb2); (try clear hk); (try clear hi)))
    go_ret
    exact ⟨by first | rfl | (simp [errW_none, errW_some] <;> rfl) | (simp [*, errW_none, errW_some] <;> rfl), by repeat (first | (with_reducible first | exact HB.out | apply below_alloc | apply pw_below_drewN | apply below_drew1) | exact HB.out)⟩
  · replace c5 := Bool.eq_false_iff.mpr c5
    subst c5
    have H1 : ((interval_Complement.f k l0 a1 a2).bind fun t290 => ((intrusionref05_Complement.f k l0 a1 a2).bind fun t293 => ((intrusionlaw05_same.f k t290 t293).bind fun t296 => (if t296 = true then ((intrusionlaw05_awake.f k).bind fun t297 => (some t297)) else (some false))))) = some r := by rw [if_neg (show ¬ (false = true) by decide)] at H; exact H
    clear H
    have H := H1
    clear H1
    replace H := Option.bind_eq_some_iff.mp H
    obtain ⟨t290, A80, H⟩ := H
    replace H : ((intrusionref05_Complement.f k l0 a1 a2).bind fun t293 => ((intrusionlaw05_same.f k t290 t293).bind fun t296 => (if t296 = true then ((intrusionlaw05_awake.f k).bind fun t297 => (some t297)) else (some false)))) = some r := H
    have A8 := Aside0.mk A80
    clear A80
    replace H := Option.bind_eq_some_iff.mp H
    obtain ⟨t293, A90, H⟩ := H
    replace H : ((intrusionlaw05_same.f k t290 t293).bind fun t296 => (if t296 = true then ((intrusionlaw05_awake.f k).bind fun t297 => (some t297)) else (some false))) = some r := H
    have A9 := Aside0.mk A90
    clear A90
    replace H := Option.bind_eq_some_iff.mp H
    obtain ⟨t296, A100, H⟩ := H
    replace H : (if t296 = true then ((intrusionlaw05_awake.f k).bind fun t297 => (some t297)) else (some false)) = some r := H
    have A10 := Aside0.mk A100
    clear A100
    by_cases c11 : t296 = true
    · subst c11
      have H1 : ((intrusionlaw05_awake.f k).bind fun t297 => (some t297)) = some r := by rw [if_pos rfl] at H; exact H
      clear H
      have H := H1
      clear H1
      replace H := Option.bind_eq_some_iff.mp H
      obtain ⟨t297, A120, H⟩ := H
      replace H : (some t297) = some r := H
      have A12 := Aside0.mk A120
      clear A120
      obtain rfl := Option.some.inj H
      go_enter Try.func4, Try.ntmps4
      go_wp2_with (first | ((with_reducible refine gate_callee (f := 14) rfl ?_); refine goesL_ (some 8) rfl rfl Try.func14 (by kernel_rfl) rfl #[.slice A0 l0.length c0] rfl (by (try simp only [List.map_toArray, List.map_cons, List.map_nil]); first | done | rfl | (simp only [List.length_drop, List.length_take]; rfl)) ?_; (with_reducible refine (intrusionlaw05_large.calls _ _ l0 false _ ?side1 ?side2 A4.out).mono ?_); (case side1 => repeat (first | exact HR0.out | (with_reducible refine Kd.C_alloc ?_ _) | (with_reducible refine Kd.C_drewN ?_ _) | (with_reducible refine Kd.C_drew ?_))); (case side2 => exact HC0.out); rintro e w' ⟨rfl, ⟨nd, rfl⟩⟩; refine ⟨_, rfl, ?_⟩) | ((with_reducible refine gate_callee (f := 23) rfl ?_); refine goesL_ (some 13) rfl rfl Try.func23 (by kernel_rfl) rfl #[.slice A0 l0.length c0, .int .i64 a1, .int .i64 a2] rfl (by (try simp only [List.map_toArray, List.map_cons, List.map_nil]); first | done | rfl | (simp only [List.length_drop, List.length_take]; rfl)) ?_; (with_reducible refine (interval_Complement.calls k _ _ l0 a1 a2 t290 _ ?side1 ?side2 A8.out).mono ?_); (case side1 => repeat (first | exact HR0.out | (with_reducible refine Kd.C_alloc ?_ _) | (with_reducible refine Kd.C_drewN ?_ _) | (with_reducible refine Kd.C_drew ?_))); (case side2 => exact HC0.out); rintro e w13 ⟨v291, rfl, ho0, hb⟩; refine ⟨_, rfl, ?_⟩; have n0_ := Aside0.mk (Kd.R_lower ho0 (below_size (by repeat (first | (with_reducible first | exact HB.out | apply below_alloc | apply pw_below_drewN | apply below_drew1) | exact HB.out)))); have n1_ := Aside0.mk (below_step (by repeat (first | (with_reducible first | exact HB.out | apply below_alloc | apply pw_below_drewN | apply below_drew1) | exact HB.out)) hb); clear HB; have HO292 := n0_; have HB := n1_; clear n0_ n1_; (try clear hb); (try clear hb2); (try clear hk); (try clear hi); (try clear ho0)) | ((with_reducible refine gate_callee (f := 24) rfl ?_); refine goesL_ (some 17) rfl rfl Try.func24 (by kernel_rfl) rfl #[.slice A0 l0.length c0, .int .i64 a1, .int .i64 a2] rfl (by (try simp only [List.map_toArray, List.map_cons, List.map_nil]); first | done | rfl | (simp only [List.length_drop, List.length_take]; rfl)) ?_; (with_reducible refine (intrusionref05_Complement.calls k _ _ l0 a1 a2 t293 _ ?side1 ?side2 A9.out).mono ?_); (case side1 => repeat (first | exact (Kd.C_below HR0.out HB.out) | (with_reducible refine Kd.C_alloc ?_ _) | (with_reducible refine Kd.C_drewN ?_ _) | (with_reducible refine Kd.C_drew ?_))); (case side2 => exact HC0.out); rintro e w14 ⟨v294, rfl, ho0, hb⟩; refine ⟨_, rfl, ?_⟩; have n0_ := Aside0.mk (Kd.R_elder' (by (with_reducible repeat (first | apply Kd.R_alloc | apply Kd.R_drewN | apply Kd.R_drew)); exact HO292.out) (Kd.R_base ho0) hb); have n1_ := Aside0.mk (Kd.R_lower (Kd.R_new' ho0 (Kd.R_lt (by (with_reducible repeat (first | apply Kd.R_alloc | apply Kd.R_drewN | apply Kd.R_drew)); exact HO292.out))) (below_size (by repeat (first | (with_reducible first | exact HB.out | apply below_alloc | apply pw_below_drewN | apply below_drew1) | exact HB.out)))); have n2_ := Aside0.mk (below_step (by repeat (first | (with_reducible first | exact HB.out | apply below_alloc | apply pw_below_drewN | apply below_drew1) | exact HB.out)) hb); clear HO292; clear HB; have HO292 := n0_; have HO295 := n1_; have HB := n2_; clear n0_ n1_ n2_; (try clear hb); (try clear hb2); (try clear hk); (try clear hi); (try clear ho0); obtain ⟨Ao15, co15, eo15⟩ := Kd.R_slice HO292.out; subst eo15; obtain ⟨Ao16, co16, eo16⟩ := Kd.R_slice HO295.out; subst eo16) | ((with_reducible refine gate_callee (f := 18) rfl ?_); refine goesL_ (some 18) rfl rfl Try.func18 (by kernel_rfl) rfl #[.slice Ao15 t290.length co15, .slice Ao16 t293.length co16] rfl (by (try simp only [List.map_toArray, List.map_cons, List.map_nil]); first | done | rfl | (simp only [List.length_drop, List.length_take]; rfl)) ?_; (with_reducible refine (intrusionlaw05_same.calls k _ _ t290 _ _ t293 true _ ?side1 ?side2 ?side3 ?side4 A10.out).mono ?_); (case side1 => repeat (first | exact (Kd.R_reads' HO292.out).2.2 | (with_reducible refine Kd.C_alloc ?_ _) | (with_reducible refine Kd.C_drewN ?_ _) | (with_reducible refine Kd.C_drew ?_))); (case side2 => exact (Kd.R_reads' HO292.out).2.1); (case side3 => repeat (first | exact (Kd.R_reads' HO295.out).2.2 | (with_reducible refine Kd.C_alloc ?_ _) | (with_reducible refine Kd.C_drewN ?_ _) | (with_reducible refine Kd.C_drew ?_))); (case side4 => exact (Kd.R_reads' HO295.out).2.1); rintro e w' ⟨rfl, ⟨nd, rfl⟩⟩; refine ⟨_, rfl, ?_⟩) | (go_at_call 15; (with_reducible refine (intrusionlaw05_awake.calls k  t297 _ A12.out).mono ?_); rintro e w17 ⟨rfl, hb⟩; have n0_ := Aside0.mk (Kd.R_below (by (with_reducible repeat (first | apply Kd.R_alloc | apply Kd.R_drewN | apply Kd.R_drew)); exact HO292.out) hb); have n1_ := Aside0.mk (Kd.R_below (by (with_reducible repeat (first | apply Kd.R_alloc | apply Kd.R_drewN | apply Kd.R_drew)); exact HO295.out) hb); have n2_ := Aside0.mk (below_step (by repeat (first | (with_reducible first | exact HB.out | apply below_alloc | apply pw_below_drewN | apply below_drew1) | exact HB.out)) hb); clear HO292; clear HO295; clear HB; have HO292 := n0_; have HO295 := n1_; have HB := n2_; clear n0_ n1_ n2_; (try clear hb); (try clear hb2); (try clear hk); (try clear hi)))
      go_ret
      exact ⟨by first | rfl | (simp [errW_none, errW_some] <;> rfl) | (simp [*, errW_none, errW_some] <;> rfl), by repeat (first | (with_reducible first | exact HB.out | apply below_alloc | apply pw_below_drewN | apply below_drew1) | exact HB.out)⟩
    · replace c11 := Bool.eq_false_iff.mpr c11
      subst c11
      have H1 : (some false) = some r := by rw [if_neg (show ¬ (false = true) by decide)] at H; exact H
      clear H
      have H := H1
      clear H1
      obtain rfl := Option.some.inj H
      go_enter Try.func4, Try.ntmps4
      go_wp2_with (first | ((with_reducible refine gate_callee (f := 14) rfl ?_); refine goesL_ (some 8) rfl rfl Try.func14 (by kernel_rfl) rfl #[.slice A0 l0.length c0] rfl (by (try simp only [List.map_toArray, List.map_cons, List.map_nil]); first | done | rfl | (simp only [List.length_drop, List.length_take]; rfl)) ?_; (with_reducible refine (intrusionlaw05_large.calls _ _ l0 false _ ?side1 ?side2 A4.out).mono ?_); (case side1 => repeat (first | exact HR0.out | (with_reducible refine Kd.C_alloc ?_ _) | (with_reducible refine Kd.C_drewN ?_ _) | (with_reducible refine Kd.C_drew ?_))); (case side2 => exact HC0.out); rintro e w' ⟨rfl, ⟨nd, rfl⟩⟩; refine ⟨_, rfl, ?_⟩) | ((with_reducible refine gate_callee (f := 23) rfl ?_); refine goesL_ (some 13) rfl rfl Try.func23 (by kernel_rfl) rfl #[.slice A0 l0.length c0, .int .i64 a1, .int .i64 a2] rfl (by (try simp only [List.map_toArray, List.map_cons, List.map_nil]); first | done | rfl | (simp only [List.length_drop, List.length_take]; rfl)) ?_; (with_reducible refine (interval_Complement.calls k _ _ l0 a1 a2 t290 _ ?side1 ?side2 A8.out).mono ?_); (case side1 => repeat (first | exact HR0.out | (with_reducible refine Kd.C_alloc ?_ _) | (with_reducible refine Kd.C_drewN ?_ _) | (with_reducible refine Kd.C_drew ?_))); (case side2 => exact HC0.out); rintro e w18 ⟨v291, rfl, ho0, hb⟩; refine ⟨_, rfl, ?_⟩; have n0_ := Aside0.mk (Kd.R_lower ho0 (below_size (by repeat (first | (with_reducible first | exact HB.out | apply below_alloc | apply pw_below_drewN | apply below_drew1) | exact HB.out)))); have n1_ := Aside0.mk (below_step (by repeat (first | (with_reducible first | exact HB.out | apply below_alloc | apply pw_below_drewN | apply below_drew1) | exact HB.out)) hb); clear HB; have HO292 := n0_; have HB := n1_; clear n0_ n1_; (try clear hb); (try clear hb2); (try clear hk); (try clear hi); (try clear ho0)) | ((with_reducible refine gate_callee (f := 24) rfl ?_); refine goesL_ (some 17) rfl rfl Try.func24 (by kernel_rfl) rfl #[.slice A0 l0.length c0, .int .i64 a1, .int .i64 a2] rfl (by (try simp only [List.map_toArray, List.map_cons, List.map_nil]); first | done | rfl | (simp only [List.length_drop, List.length_take]; rfl)) ?_; (with_reducible refine (intrusionref05_Complement.calls k _ _ l0 a1 a2 t293 _ ?side1 ?side2 A9.out).mono ?_); (case side1 => repeat (first | exact (Kd.C_below HR0.out HB.out) | (with_reducible refine Kd.C_alloc ?_ _) | (with_reducible refine Kd.C_drewN ?_ _) | (with_reducible refine Kd.C_drew ?_))); (case side2 => exact HC0.out); rintro e w19 ⟨v294, rfl, ho0, hb⟩; refine ⟨_, rfl, ?_⟩; have n0_ := Aside0.mk (Kd.R_elder' (by (with_reducible repeat (first | apply Kd.R_alloc | apply Kd.R_drewN | apply Kd.R_drew)); exact HO292.out) (Kd.R_base ho0) hb); have n1_ := Aside0.mk (Kd.R_lower (Kd.R_new' ho0 (Kd.R_lt (by (with_reducible repeat (first | apply Kd.R_alloc | apply Kd.R_drewN | apply Kd.R_drew)); exact HO292.out))) (below_size (by repeat (first | (with_reducible first | exact HB.out | apply below_alloc | apply pw_below_drewN | apply below_drew1) | exact HB.out)))); have n2_ := Aside0.mk (below_step (by repeat (first | (with_reducible first | exact HB.out | apply below_alloc | apply pw_below_drewN | apply below_drew1) | exact HB.out)) hb); clear HO292; clear HB; have HO292 := n0_; have HO295 := n1_; have HB := n2_; clear n0_ n1_ n2_; (try clear hb); (try clear hb2); (try clear hk); (try clear hi); (try clear ho0); obtain ⟨Ao20, co20, eo20⟩ := Kd.R_slice HO292.out; subst eo20; obtain ⟨Ao21, co21, eo21⟩ := Kd.R_slice HO295.out; subst eo21) | ((with_reducible refine gate_callee (f := 18) rfl ?_); refine goesL_ (some 18) rfl rfl Try.func18 (by kernel_rfl) rfl #[.slice Ao20 t290.length co20, .slice Ao21 t293.length co21] rfl (by (try simp only [List.map_toArray, List.map_cons, List.map_nil]); first | done | rfl | (simp only [List.length_drop, List.length_take]; rfl)) ?_; (with_reducible refine (intrusionlaw05_same.calls k _ _ t290 _ _ t293 false _ ?side1 ?side2 ?side3 ?side4 A10.out).mono ?_); (case side1 => repeat (first | exact (Kd.R_reads' HO292.out).2.2 | (with_reducible refine Kd.C_alloc ?_ _) | (with_reducible refine Kd.C_drewN ?_ _) | (with_reducible refine Kd.C_drew ?_))); (case side2 => exact (Kd.R_reads' HO292.out).2.1); (case side3 => repeat (first | exact (Kd.R_reads' HO295.out).2.2 | (with_reducible refine Kd.C_alloc ?_ _) | (with_reducible refine Kd.C_drewN ?_ _) | (with_reducible refine Kd.C_drew ?_))); (case side4 => exact (Kd.R_reads' HO295.out).2.1); rintro e w' ⟨rfl, ⟨nd, rfl⟩⟩; refine ⟨_, rfl, ?_⟩))
      go_ret
      exact ⟨by first | rfl | (simp [errW_none, errW_some] <;> rfl) | (simp [*, errW_none, errW_some] <;> rfl), by repeat (first | (with_reducible first | exact HB.out | apply below_alloc | apply pw_below_drewN | apply below_drew1) | exact HB.out)⟩
end Go.Proofs.Ytcgfpffgiimgmaa.Q
end

section
set_option linter.unusedVariables false
namespace Go.Proofs.Ytcgfpffgiimgmaa.Read
open Go.RowKit Go.Deep Go.WideShapes Go.Proofs.YtcgfpffgiimgmaaW.PrintWords
def Reads {α : Type} (P : Program) (W : World) (d : Kd α) (Q : α → Prop) (t : TypeId) : Prop :=
  ∀ (H : Type) (enc : TypeId × Value → H) (fuel : Nat) (cs : List Value) (x : DataW H × List MemPlace), DataW.trod enc P W 0 (fun _ => true) true fuel t cs = some x → ∃ y, d.K W y cs ∧ Q y
section
variable {P : Program} {W : World}
theorem reads_int {k : IntKind} {t : TypeId} (ht : P.underlying t = some (.int k)) : Reads P W (Kd.int k) (fun n => (Lit.int k n).wf = true) t := by
  intro H enc fuel cs x h
  obtain ⟨n, rfl, _, hw⟩ := DataW.trod_int ht h
  exact ⟨n, rfl, hw⟩
theorem cells_at {a : Addr} {n : Nat} {cs : List Value} (h : W.cells? 0 a n = some cs) : ∀ i u, cs[i]? = some u → W.cell? (a.add i) = some u := by
  obtain ⟨_, hl, hc⟩ := World.cells?_some h
  intro i u hi
  have hlt : i < cs.length := (List.getElem?_eq_some_iff.1 hi).1
  rw [hc i (by omega), hi]
theorem reads_slice {α : Type} {d : Kd α} {Q : α → Prop} {t e : TypeId} (ht : P.underlying t = some (.slice e)) (hc : P.cellsOf e = d.sz) (he : Reads P W d Q e) :
    Reads P W (Kd.slice e d) (fun xs => xs.length ≤ maxLen ∧ ∀ x ∈ xs, Q x) t := by
  intro H enc fuel cs x h
  rcases open_slice ht h with ⟨rfl, _⟩ | ⟨a, len, cap, m, n, D, Pl, rfl, _, hl, hm, hmm, _, hx⟩
  · exact ⟨[], ⟨none, 0, rfl, Nat.le_refl _, ⟨rfl, by simp, fun h => absurd h (by simp)⟩⟩, by simp⟩
  · have hml : m = cap := by simpa using hmm
    have hy : ∀ i : Fin len, ∃ y, (∃ cs', cs'.length = d.sz ∧ d.K W y cs' ∧ ∀ j u, cs'[j]? = some u → W.cell? (a.add (i.1 * d.sz + j)) = some u) ∧ Q y := by
      intro i
      obtain ⟨cs', h1, h2⟩ := hx i.1 (by omega)
      obtain ⟨y, hk, hq⟩ := he H enc n cs' _ h2
      refine ⟨y, ⟨cs', d.K_len hk, hk, fun j u hj => ?_⟩, hq⟩
      have := cells_at h1 j u hj
      rwa [hc, Addr.add_add] at this
    have hf : ∃ f : Fin len → α, ∀ i, (∃ cs', cs'.length = d.sz ∧ d.K W (f i) cs' ∧ ∀ j u, cs'[j]? = some u → W.cell? (a.add (i.1 * d.sz + j)) = some u) ∧ Q (f i) := ⟨fun i => Classical.choose (hy i), fun i => Classical.choose_spec (hy i)⟩
    obtain ⟨f, hf⟩ := hf
    refine ⟨List.ofFn f, ⟨some a, cap, by simp, by simpa using hl, ⟨rfl, by simp [maxLen] at hm ⊢; omega, fun _ => ⟨a, rfl, fun j p hj => ?_⟩⟩⟩, by simpa using Nat.le_trans hl hm, fun y hy => ?_⟩
    · obtain ⟨hlt, rfl⟩ := List.getElem?_eq_some_iff.1 hj
      have hjl : j < len := by simpa using hlt
      rw [List.getElem_ofFn]
      exact (hf ⟨j, hjl⟩).1
    · obtain ⟨j, hj, rfl⟩ := List.getElem_of_mem hy
      rw [List.getElem_ofFn]
      exact (hf _).2
theorem pair_mk {α β : Type} {a : Kd α} {b : Kd β} {x : α} {y : β} {cs : List Value} (s : Nat) (h0 : a.K W x (cs.take s)) (h1 : b.K W y (cs.drop s)) : (Kd.pair a b).K W (x, y) cs :=
  ⟨cs.take s, cs.drop s, (List.take_append_drop s cs).symm, h0, h1⟩
theorem field_at {α : Type} {d : Kd α} {Q : α → Prop} {fs : Array Field} {H : Type} {enc : TypeId × Value → H} {n : Nat} {cs : List Value} {xs : List (DataW H × List MemPlace)} (hl : xs.length = fs.size)
    (hf : ∀ (i : Nat) (f : Field), fs[i]? = some f → DataW.trod enc P W 0 (fun _ => true) true n f.type ((cs.drop f.offset).take (P.cellsOf f.type)) = xs[i]?)
    (i : Nat) {f : Field} (hi : fs[i]? = some f) {t off sz : Nat} (ht : f.type = t) (ho : f.offset = off) (hc : P.cellsOf t = sz) (hr : Reads P W d Q t) : ∃ y, d.K W y ((cs.drop off).take sz) ∧ Q y := by
  subst ht ho hc
  have h := hf i f hi
  have hlt : i < xs.length := by rw [hl]; exact (Array.getElem?_eq_some_iff.1 hi).1
  rw [List.getElem?_eq_getElem hlt] at h
  exact hr H enc n _ _ h
end
end Go.Proofs.Ytcgfpffgiimgmaa.Read
end

section
set_option linter.unusedVariables false
namespace Go.Proofs.Ytcgfpffgiimgmaa.Q
open Go.RowKit Go.Proofs.YtcgfpffgiimgmaaW.PrintWords Go.Proofs.Ytcgfpffgiimgmaa.Read
def q52 (x : S52) : Prop := (Lit.int .i64 x.f0).wf = true ∧ (Lit.int .i64 x.f1).wf = true
theorem reads_k52 (W : World) : Reads Try.prog W k52 q52 52 := by
  intro H enc fuel cs x h
  obtain ⟨xs, n, rfl, _, hcl, hxl, hf⟩ := DataW.trod_struct Try.underlying52 h
  have hc : cs.length = 2 := hcl.trans (by kernel_rfl)
  obtain ⟨y0, h0, g0⟩ := field_at hxl hf 0 rfl (t := 3) (off := 0) (sz := 1) rfl rfl (by kernel_rfl) (reads_int Try.underlying3)
  obtain ⟨y1, h1, g1⟩ := field_at hxl hf 1 rfl (t := 3) (off := 1) (sz := 1) rfl rfl (by kernel_rfl) (reads_int Try.underlying3)
  refine ⟨⟨y0, y1⟩, ?_, ⟨g0, g1⟩⟩
  rw [show (cs.drop 0).take 1 = (cs.drop 0).take 1 from rfl] at h0
  rw [show (cs.drop 1).take 1 = (cs.drop 1) from List.take_of_length_le (by rw [List.length_drop, hc]; decide)] at h1
  skip
  have e0 : cs.drop 0 = cs := rfl
  rw [e0] at h0
  exact pair_mk (a := (Kd.int .i64)) 1 h0 (h1)
end Go.Proofs.Ytcgfpffgiimgmaa.Q
end

section
namespace Go.Proofs.Ytcgfpffgiimgmaa.Canon
abbrev Sp := Int × Int
def Mem (l : List Sp) (n : Int) : Prop := ∃ x, x ∈ l ∧ x.1 ≤ n ∧ n ≤ x.2
def CanFrom : Int → List Sp → Prop
  | _, [] => True
  | lo, x :: t => lo ≤ x.1 ∧ x.1 ≤ x.2 ∧ CanFrom (x.2 + 2) t
theorem mem_nil (n : Int) : Mem [] n ↔ False := by simp [Mem]
theorem mem_cons (x : Sp) (t : List Sp) (n : Int) : Mem (x :: t) n ↔ (x.1 ≤ n ∧ n ≤ x.2) ∨ Mem t n := by
  simp only [Mem, List.mem_cons]
  constructor
  · rintro ⟨y, rfl | hy, h⟩
    · exact .inl h
    · exact .inr ⟨y, hy, h⟩
  · rintro (h | ⟨y, hy, h⟩)
    · exact ⟨x, .inl rfl, h⟩
    · exact ⟨y, .inr hy, h⟩
theorem mem_append (a b : List Sp) (n : Int) : Mem (a ++ b) n ↔ Mem a n ∨ Mem b n := by
  induction a with
  | nil => simp [mem_nil]
  | cons x t ih => simp only [List.cons_append, mem_cons, ih]; exact or_assoc.symm
theorem CanFrom.mono {lo lo' : Int} {l : List Sp} (h : lo' ≤ lo) (c : CanFrom lo l) : CanFrom lo' l := by
  cases l with
  | nil => trivial
  | cons x t => exact ⟨Int.le_trans h c.1, c.2⟩
theorem CanFrom.ge : ∀ {l : List Sp} {lo n : Int}, CanFrom lo l → Mem l n → lo ≤ n
  | [], _, _, _, h => ((mem_nil _).1 h).elim
  | x :: t, lo, n, c, h => by
    rcases (mem_cons x t n).1 h with h | h
    · have := c.1; omega
    · have := CanFrom.ge c.2.2 h; have := c.1; have := c.2.1; omega
theorem uniq : ∀ (a b : List Sp) (lo : Int), CanFrom lo a → CanFrom lo b → (∀ n, Mem a n ↔ Mem b n) → a = b
  | [], [], _, _, _, _ => rfl
  | [], y :: t, _, _, cb, h => by
    have := (h y.1).2 ((mem_cons y t _).2 (.inl ⟨Int.le_refl _, cb.2.1⟩))
    exact ((mem_nil _).1 this).elim
  | x :: s, [], _, ca, _, h => by
    have := (h x.1).1 ((mem_cons x s _).2 (.inl ⟨Int.le_refl _, ca.2.1⟩))
    exact ((mem_nil _).1 this).elim
  | x :: s, y :: t, lo, ca, cb, h => by
    have hx : ∀ n, Mem (x :: s) n → x.1 ≤ n := fun n hn => CanFrom.ge (lo := x.1) (l := x :: s) ⟨Int.le_refl _, ca.2⟩ hn
    have hy : ∀ n, Mem (y :: t) n → y.1 ≤ n := fun n hn => CanFrom.ge (lo := y.1) (l := y :: t) ⟨Int.le_refl _, cb.2⟩ hn
    have e1 : x.1 = y.1 := by
      have a1 := hy _ ((h x.1).1 ((mem_cons x s _).2 (.inl ⟨Int.le_refl _, ca.2.1⟩)))
      have a2 := hx _ ((h y.1).2 ((mem_cons y t _).2 (.inl ⟨Int.le_refl _, cb.2.1⟩)))
      omega
    have e2 : x.2 = y.2 := by
      have k1 : ¬ x.2 < y.2 := fun hlt => by
        have := (h (x.2 + 1)).2 ((mem_cons y t _).2 (.inl ⟨by have := ca.2.1; omega, by omega⟩))
        rcases (mem_cons x s _).1 this with m | m
        · omega
        · have := ca.2.2.ge m; omega
      have k2 : ¬ y.2 < x.2 := fun hlt => by
        have := (h (y.2 + 1)).1 ((mem_cons x s _).2 (.inl ⟨by have := cb.2.1; omega, by omega⟩))
        rcases (mem_cons y t _).1 this with m | m
        · omega
        · have := cb.2.2.ge m; omega
      omega
    have e : x = y := Prod.ext e1 e2
    subst e
    rw [uniq s t (x.2 + 2) ca.2.2 cb.2.2 (fun n => by
      constructor
      · intro hn
        have g := ca.2.2.ge hn
        rcases (mem_cons x t _).1 ((h n).1 ((mem_cons x s _).2 (.inr hn))) with m | m
        · omega
        · exact m
      · intro hn
        have g := cb.2.2.ge hn
        rcases (mem_cons x s _).1 ((h n).2 ((mem_cons x t _).2 (.inr hn))) with m | m
        · omega
        · exact m)]
theorem can_append : ∀ (a b : List Sp) (lo : Int), CanFrom lo (a ++ b) ↔ CanFrom lo a ∧ (∀ x ∈ a, ∀ y ∈ b, x.2 + 1 < y.1) ∧ (∃ lo', CanFrom lo' b) ∧ (∀ y ∈ b, lo ≤ y.1)
  | [], b, lo => by
    constructor
    · intro c
      refine ⟨trivial, by simp, ⟨lo, c⟩, fun y hy => ?_⟩
      have hm : Mem b y.1 → lo ≤ y.1 := c.ge
      refine hm ⟨y, hy, Int.le_refl _, ?_⟩
      have : ∀ (b : List Sp) (lo : Int), CanFrom lo b → ∀ y ∈ b, y.1 ≤ y.2 := by
        intro b
        induction b with
        | nil => simp
        | cons z t ih =>
          intro lo c y hy
          rcases List.mem_cons.1 hy with rfl | hy
          · exact c.2.1
          · exact ih _ c.2.2 y hy
      exact this b lo c y hy
    · rintro ⟨_, _, ⟨lo', c⟩, h⟩
      cases b with
      | nil => trivial
      | cons z t => exact ⟨h z (List.mem_cons_self ..), c.2⟩
  | x :: a, b, lo => by
    have ih := can_append a b (x.2 + 2)
    constructor
    · rintro ⟨c1, c2, c3⟩
      obtain ⟨i1, i2, i3, i4⟩ := ih.1 c3
      refine ⟨⟨c1, c2, i1⟩, fun z hz y hy => ?_, i3, fun y hy => ?_⟩
      · rcases List.mem_cons.1 hz with rfl | hz
        · have := i4 y hy; omega
        · exact i2 z hz y hy
      · have := i4 y hy; omega
    · rintro ⟨⟨c1, c2, c3⟩, h2, h3, h4⟩
      refine ⟨c1, c2, ih.2 ⟨c3, fun z hz => h2 z (List.mem_cons_of_mem _ hz), h3, fun y hy => ?_⟩⟩
      have := h2 x (List.mem_cons_self ..) y hy
      omega
theorem can_wf : ∀ (b : List Sp) (lo : Int), CanFrom lo b → ∀ y ∈ b, lo ≤ y.1 ∧ y.1 ≤ y.2
  | [], _, _, y, hy => by simp at hy
  | z :: t, lo, c, y, hy => by
    rcases List.mem_cons.1 hy with rfl | hy
    · exact ⟨c.1, c.2.1⟩
    · have := can_wf t _ c.2.2 y hy
      have := c.1; have := c.2.1
      exact ⟨by omega, by omega⟩
end Go.Proofs.Ytcgfpffgiimgmaa.Canon
end

section
set_option linter.unusedVariables false
set_option linter.unusedSimpArgs false
namespace Go.Proofs.Ytcgfpffgiimgmaa.Q
open Go.RowKit Go.Proofs.YtcgfpffgiimgmaaW.PrintWords Go.Proofs.YtcgfpffgiimgmaaW.PrintLast Go.Proofs.YtcgfpffgiimgmaaW.PrintMore Go.Proofs.Ytcgfpffgiimgmaa.Canon
abbrev Sn := S52
def sp (x : Sn) : Sp := (x.f0, x.f1)
theorem sp_inj {x y : Sn} (h : sp x = sp y) : x = y := by
  cases x; cases y
  simp [sp] at h
  simp [h.1, h.2]
def SM (l : List Sn) (n : Int) : Prop := Mem (l.map sp) n
theorem sm_cons (x : Sn) (t : List Sn) (n : Int) : SM (x :: t) n ↔ (x.f0 ≤ n ∧ n ≤ x.f1) ∨ SM t n := by unfold SM; rw [List.map_cons, mem_cons]; rfl
theorem sm_nil (n : Int) : SM [] n ↔ False := mem_nil n
theorem sm_append (a b : List Sn) (n : Int) : SM (a ++ b) n ↔ SM a n ∨ SM b n := by unfold SM; rw [List.map_append, mem_append]
theorem sm_iff (l : List Sn) (n : Int) : SM l n ↔ ∃ x ∈ l, x.f0 ≤ n ∧ n ≤ x.f1 := by
  unfold SM Mem
  constructor
  · rintro ⟨y, hy, h⟩
    obtain ⟨x, hx, rfl⟩ := List.mem_map.1 hy
    exact ⟨x, hx, h⟩
  · rintro ⟨x, hx, h⟩
    exact ⟨sp x, List.mem_map.2 ⟨x, hx, rfl⟩, h⟩
def Can (P : Int → Prop) (r : List Sn) : Prop := CanFrom 0 (r.map sp) ∧ (∀ x ∈ r, x.f1 ≤ 4294967296) ∧ ∀ n, SM r n ↔ P n
theorem map_sp_inj : ∀ {a b : List Sn}, a.map sp = b.map sp → a = b
  | [], [], _ => rfl
  | [], y :: t, h => by simp at h
  | x :: s, [], h => by simp at h
  | x :: s, y :: t, h => by
    simp only [List.map_cons, List.cons.injEq] at h
    rw [sp_inj h.1, map_sp_inj h.2]
theorem Can.uniq {P : Int → Prop} {a b : List Sn} (ha : Can P a) (hb : Can P b) : a = b :=
  map_sp_inj (Canon.uniq _ _ 0 ha.1 hb.1 (fun n => (ha.2.2 n).trans (hb.2.2 n).symm))
theorem Can.congr {P Q : Int → Prop} {r : List Sn} (h : Can P r) (e : ∀ n, P n ↔ Q n) : Can Q r := ⟨h.1, h.2.1, fun n => (h.2.2 n).trans (e n)⟩
theorem Can.wf {P : Int → Prop} {r : List Sn} (h : Can P r) : ∀ x ∈ r, 0 ≤ x.f0 ∧ x.f0 ≤ x.f1 ∧ x.f1 ≤ 4294967296 := fun x hx => by
  have := can_wf _ _ h.1 (sp x) (List.mem_map.2 ⟨x, hx, rfl⟩)
  exact ⟨this.1, this.2, h.2.1 x hx⟩
theorem Can.range {P : Int → Prop} {r : List Sn} (h : Can P r) (n : Int) (hn : P n) : 0 ≤ n ∧ n ≤ 4294967296 := by
  obtain ⟨x, hx, h1, h2⟩ := (sm_iff r n).1 ((h.2.2 n).2 hn)
  have := h.wf x hx
  omega
theorem rd_at (l : List Sn) (i : Nat) (h : i < l.length) : rd_T52 l (i : Int) = l[i] := by
  simp [rd_T52, List.getD_eq_getElem?_getD, List.getElem?_eq_getElem h]
theorem wrap_id {x : Int} (h0 : -9223372036854775808 ≤ x) (h1 : x ≤ 9223372036854775807) : wrap64 x = x := by unfold wrap64; omega
theorem wrap_succ (i : Nat) (h : i < 9223372036854775807) : wrap64 ((i : Int) + 1) = ((i + 1 : Nat) : Int) := by rw [wrap_id (by omega) (by omega)]; simp
theorem drop_cons {α : Type} (l : List α) (i : Nat) (h : i < l.length) : l.drop i = l[i] :: l.drop (i + 1) := (List.drop_eq_getElem_cons h)
theorem ev_cutp (a b : Int) : interval_cut_1.f a b = some (decide (a ≤ b)) := by unfold interval_cut_1.f; simp
theorem ev_sel (L : List Sn) (hl : L.length < 8796093022208) : ∀ (d i : Nat) (out : List Sn), L.length - i = d → i ≤ L.length → out.length ≤ i → Ev (fun k => interval_selected_at_interval_cut_1.l0 k out L (L.length : Int) (i : Int)) (out ++ (L.drop i).filter (fun x => decide (x.f0 ≤ x.f1))) := by
  intro d
  induction d with
  | zero =>
    intro i out hd hi ho
    have : i = L.length := by omega
    subst this
    refine Ev.step (f := fun _ => some out) (fun k => ?_) ?_
    · simp only [interval_selected_at_interval_cut_1.l0]; rw [if_neg (by omega)]
    · simpa using Ev.now out
  | succ d ih =>
    intro i out hd hi ho
    have hlt : i < L.length := by omega
    rw [drop_cons L i hlt, List.filter_cons]
    by_cases hc : L[i].f0 ≤ L[i].f1
    · rw [if_pos (by simpa using hc)]
      have h2 := ih (i + 1) (out ++ [L[i]]) (by omega) (by omega) (by simp; omega)
      rw [List.append_assoc] at h2
      refine Ev.step (fun k => ?_) h2
      simp only [interval_selected_at_interval_cut_1.l0]
      rw [if_pos (by omega), if_pos (by omega), if_pos (by omega), rd_at L i hlt, ev_cutp]
      simp only [Option.bind_some]
      rw [if_pos (by simpa using hc), if_pos (by omega), wrap_succ i (by omega)]
    · rw [if_neg (by simpa using hc)]
      refine Ev.step (fun k => ?_) (ih (i + 1) out (by omega) (by omega) (by omega))
      simp only [interval_selected_at_interval_cut_1.l0]
      rw [if_pos (by omega), if_pos (by omega), if_pos (by omega), rd_at L i hlt, ev_cutp]
      simp only [Option.bind_some]
      rw [if_neg (by simpa using hc), wrap_succ i (by omega)]
def clip (lo hi : Int) (x : Sn) : Sn := ⟨mx x.f0 lo, mn x.f1 hi⟩
theorem ev_cut0 (L : List Sn) (lo hi : Int) (hl : L.length < 8796093022208) : ∀ (d i : Nat) (out : List Sn), L.length - i = d → i ≤ L.length → out.length = i → Ev (fun k => interval_cut.l0 k lo hi out L (L.length : Int) (i : Int)) ((out ++ (L.drop i).map (clip lo hi)).filter (fun x => decide (x.f0 ≤ x.f1))) := by
  intro d
  induction d with
  | zero =>
    intro i out hd hle ho
    have : i = L.length := by omega
    subst this
    refine Ev.step (f := fun k => (interval_selected_at_interval_cut_1.f k out).bind fun t => some t) (fun k => ?_) ?_
    · simp only [interval_cut.l0]; rw [if_neg (by omega)]
    · refine Ev.bind (a := out.filter (fun x => decide (x.f0 ≤ x.f1))) ?_ ?_
      · have := ev_sel out (by omega) out.length 0 [] (by omega) (by omega) (by simp)
        simpa [interval_selected_at_interval_cut_1.f] using this
      · simpa using Ev.now _
  | succ d ih =>
    intro i out hd hle ho
    have hlt : i < L.length := by omega
    have h2 := ih (i + 1) (out ++ [clip lo hi L[i]]) (by omega) (by omega) (by simp; omega)
    rw [List.append_assoc] at h2
    rw [drop_cons L i hlt, List.map_cons]
    refine Ev.step (fun k => ?_) h2
    simp only [interval_cut.l0]
    rw [if_pos (by omega), if_pos (by omega), if_pos (by omega), rd_at L i hlt, if_pos (by omega), wrap_succ i (by omega)]
    rfl
def clipped (lo hi : Int) (L : List Sn) : List Sn := (L.map (clip lo hi)).filter (fun x => decide (x.f0 ≤ x.f1))
theorem ev_cut (L : List Sn) (lo hi : Int) (hl : L.length < 8796093022208) : Ev (fun k => interval_cut.f k L lo hi) (clipped lo hi L) := by
  have h := ev_cut0 L lo hi hl L.length 0 [] (by omega) (by omega) rfl
  refine Ev.congr (fun k => ?_) h
  unfold interval_cut.f
  rw [if_pos (by omega), if_pos (by omega)]
  rfl
theorem clipped_spec (L : List Sn) : (clipped 0 4294967296 L).length ≤ L.length ∧ (∀ x ∈ clipped 0 4294967296 L, 0 ≤ x.f0 ∧ x.f0 ≤ x.f1 ∧ x.f1 ≤ 4294967296) ∧ ∀ n, SM (clipped 0 4294967296 L) n ↔ SM L n ∧ 0 ≤ n ∧ n ≤ 4294967296 := by
  refine ⟨?_, ?_, ?_⟩
  · unfold clipped
    refine Nat.le_trans (List.length_filter_le _ _) (by simp)
  · intro x hx
    unfold clipped at hx
    obtain ⟨h1, h2⟩ := List.mem_filter.1 hx
    obtain ⟨y, hy, rfl⟩ := List.mem_map.1 h1
    have h3 := of_decide_eq_true h2
    simp only [clip, mx, mn] at h3 ⊢
    refine ⟨?_, h3, ?_⟩
    · split <;> omega
    · split <;> omega
  · intro n
    rw [sm_iff, sm_iff]
    unfold clipped
    constructor
    · rintro ⟨x, hx, h1, h2⟩
      obtain ⟨h3, h4⟩ := List.mem_filter.1 hx
      obtain ⟨y, hy, rfl⟩ := List.mem_map.1 h3
      simp only [clip, mx, mn] at h1 h2
      refine ⟨⟨y, hy, ?_, ?_⟩, ?_, ?_⟩
      · split at h1 <;> omega
      · split at h2 <;> omega
      · split at h1 <;> omega
      · split at h2 <;> omega
    · rintro ⟨⟨y, hy, h1, h2⟩, h3, h4⟩
      refine ⟨clip 0 4294967296 y, List.mem_filter.2 ⟨List.mem_map.2 ⟨y, hy, rfl⟩, ?_⟩, ?_, ?_⟩
      · refine decide_eq_true ?_
        simp only [clip, mx, mn]
        split <;> split <;> omega
      · simp only [clip, mx]
        split <;> omega
      · simp only [clip, mn]
        split <;> omega
def mrg (out : List Sn) (x : Sn) : List Sn :=
  if h : 0 < out.length then (if x.f0 ≤ (out[out.length - 1]'(by omega)).f1 + 1 then out.set (out.length - 1) ⟨(out[out.length - 1]'(by omega)).f0, mx (out[out.length - 1]'(by omega)).f1 x.f1⟩ else out ++ [x]) else out ++ [x]
theorem mrg_nil (x : Sn) : mrg [] x = [x] := by simp [mrg]
theorem mrg_snoc (i : List Sn) (y x : Sn) : mrg (i ++ [y]) x = if x.f0 ≤ y.f1 + 1 then i ++ [(⟨y.f0, mx y.f1 x.f1⟩ : Sn)] else i ++ [y] ++ [x] := by
  have hl : (i ++ [y]).length - 1 = i.length := by simp
  have hg : (i ++ [y])[(i ++ [y]).length - 1]'(by simp) = y := by simp
  unfold mrg
  rw [dif_pos (by simp)]
  rw [hg, hl]
  split
  · simp
  · rfl
theorem mrg_len (out : List Sn) (x : Sn) : out.length ≤ (mrg out x).length ∧ (mrg out x).length ≤ out.length + 1 := by
  unfold mrg
  split
  · split <;> simp
  · simp
theorem fold_len : ∀ (L out : List Sn), (L.foldl mrg out).length ≤ out.length + L.length
  | [], out => by simp
  | x :: t, out => by
    have h1 := fold_len t (mrg out x)
    have h2 := (mrg_len out x).2
    simp only [List.foldl_cons, List.length_cons]
    omega
def WF (x : Sn) : Prop := 0 ≤ x.f0 ∧ x.f0 ≤ x.f1 ∧ x.f1 ≤ 4294967296
theorem ev_nl (L : List Sn) (hl : L.length < 8796093022208) (hL : ∀ x ∈ L, WF x) : ∀ (d i : Nat) (out : List Sn), L.length - i = d → i ≤ L.length → out.length ≤ i → (∀ x ∈ out, WF x) → Ev (fun k => interval_Normal.l0 k out L (L.length : Int) (i : Int)) ((L.drop i).foldl mrg out) := by
  intro d
  induction d with
  | zero =>
    intro i out hd hi ho _
    have : i = L.length := by omega
    subst this
    refine Ev.step (f := fun _ => some out) (fun k => ?_) ?_
    · simp only [interval_Normal.l0]; rw [if_neg (by omega)]
    · simpa using Ev.now out
  | succ d ih =>
    intro i out hd hi ho hw
    have hlt : i < L.length := by omega
    have hx := hL L[i] (List.getElem_mem hlt)
    rw [drop_cons L i hlt, List.foldl_cons]
    have hm : ∀ x ∈ mrg out L[i], WF x := by
      rcases List.eq_nil_or_concat out with rfl | ⟨j, y, rfl⟩
      · rw [mrg_nil]; intro x h; rw [List.mem_singleton.1 h]; exact hx
      · have hy := hw y (by simp)
        rw [List.concat_eq_append, mrg_snoc]
        split
        · intro x h
          rcases List.mem_append.1 h with h | h
          · exact hw x (by simp [h])
          · rw [List.mem_singleton.1 h]
            obtain ⟨y1, y2, y3⟩ := hy
            obtain ⟨x1, x2, x3⟩ := hx
            refine ⟨y1, ?_, ?_⟩ <;> simp only [mx] <;> split <;> omega
        · intro x h
          rcases List.mem_append.1 h with h | h
          · exact hw x (by rw [List.concat_eq_append]; exact h)
          · rw [List.mem_singleton.1 h]; exact hx
    have h2 := ih (i + 1) (mrg out L[i]) (by omega) (by omega) (by have := (mrg_len out L[i]).2; omega) hm
    refine Ev.step (fun k => ?_) h2
    simp only [interval_Normal.l0]
    rw [if_pos (by omega), if_pos (by omega), if_pos (by omega), rd_at L i hlt]
    by_cases h0 : 0 < out.length
    · have hy := hw (out[out.length - 1]'(by omega)) (List.getElem_mem _)
      rw [if_pos (by omega), show wrap64 ((out.length : Int) - 1) = ((out.length - 1 : Nat) : Int) from by rw [wrap_id (by omega) (by omega)]; omega, if_pos (by omega), if_pos (by omega), rd_at out (out.length - 1) (by omega)]
      obtain ⟨y1, y2, y3⟩ := hy
      rw [wrap_id (x := (out[out.length - 1]'(by omega)).f1 + 1) (by omega) (by omega), wrap_succ i (by omega)]
      unfold mrg
      rw [dif_pos h0]
      split
      · rfl
      · rw [if_pos (by omega)]
    · rw [if_neg (by omega), if_pos (by omega), wrap_succ i (by omega)]
      unfold mrg
      rw [dif_neg h0]
theorem mrg_spec : ∀ (L i : List Sn) (y : Sn), (∀ x ∈ L, WF x) → L.Pairwise (fun a b => a.f0 ≤ b.f0) → (∀ x ∈ L, y.f0 ≤ x.f0) → WF y → CanFrom 0 ((i ++ [y]).map sp) → (∀ x ∈ i ++ [y], x.f1 ≤ 4294967296) → Can (fun n => SM (i ++ [y]) n ∨ SM L n) (L.foldl mrg (i ++ [y]))
  | [], i, y, _, _, _, _, hc, hm => by
    refine ⟨hc, hm, fun n => ?_⟩
    simp [sm_nil]
  | x :: t, i, y, hL, hp, hy, hwy, hc, hm => by
    have hx := hL x (List.mem_cons_self ..)
    have ht : ∀ z ∈ t, WF z := fun z hz => hL z (List.mem_cons_of_mem _ hz)
    obtain ⟨p1, p2⟩ := List.pairwise_cons.1 hp
    rw [List.foldl_cons, mrg_snoc]
    have hxy := hy x (List.mem_cons_self ..)
    rw [List.map_append, can_append] at hc
    obtain ⟨c1, c2, _, c4⟩ := hc
    simp only [List.map_cons, List.map_nil, List.mem_singleton, forall_eq] at c2 c4
    obtain ⟨w1, w2, w3⟩ := hwy
    obtain ⟨x1, x2, x3⟩ := hx
    split
    · rename_i hj
      have hmx : y.f1 ≤ mx y.f1 x.f1 ∧ x.f1 ≤ mx y.f1 x.f1 ∧ mx y.f1 x.f1 ≤ 4294967296 ∧ (mx y.f1 x.f1 = y.f1 ∨ mx y.f1 x.f1 = x.f1) := by
        simp only [mx]
        split <;> omega
      generalize mx y.f1 x.f1 = m at hmx
      have h := mrg_spec t i ⟨y.f0, m⟩ ht p2 (fun z hz => Int.le_trans hxy (p1 z hz)) ⟨w1, by simp; omega, hmx.2.2.1⟩ (by
        rw [List.map_append, can_append]
        refine ⟨c1, ?_, ⟨y.f0, by simp [sp, CanFrom]; omega⟩, ?_⟩
        · intro z hz u hu
          simp only [List.map_cons, List.map_nil, List.mem_singleton] at hu
          subst hu
          exact c2 z hz
        · intro u hu
          simp only [List.map_cons, List.map_nil, List.mem_singleton] at hu
          subst hu
          exact c4) (by
        intro z hz
        rcases List.mem_append.1 hz with hz | hz
        · exact hm z (by simp [hz])
        · rw [List.mem_singleton.1 hz]; exact hmx.2.2.1)
      refine h.congr (fun n => ?_)
      rw [sm_append, sm_append, sm_cons, sm_cons, sm_cons, sm_nil]
      simp only [or_false]
      constructor
      · rintro ((h | h) | h)
        · exact .inl (.inl h)
        · by_cases hn : n ≤ y.f1
          · exact .inl (.inr ⟨h.1, hn⟩)
          · exact .inr (.inl ⟨by omega, by have h3 : n ≤ m := h.2; omega⟩)
        · exact .inr (.inr h)
      · rintro ((h | h) | h | h)
        · exact .inl (.inl h)
        · exact .inl (.inr ⟨h.1, show n ≤ m from by omega⟩)
        · exact .inl (.inr ⟨show y.f0 ≤ n from by omega, show n ≤ m from by omega⟩)
        · exact .inr h
    · rename_i hj
      have h := mrg_spec t (i ++ [y]) x ht p2 p1 ⟨x1, x2, x3⟩ (by
        rw [List.map_append, can_append]
        refine ⟨?_, ?_, ⟨x.f0, by simp [sp, CanFrom]; omega⟩, ?_⟩
        · rw [List.map_append, can_append]
          refine ⟨c1, ?_, ⟨y.f0, by simp [sp, CanFrom]; omega⟩, ?_⟩
          · intro z hz u hu
            simp only [List.map_cons, List.map_nil, List.mem_singleton] at hu
            subst hu
            exact c2 z hz
          · intro u hu
            simp only [List.map_cons, List.map_nil, List.mem_singleton] at hu
            subst hu
            exact c4
        · intro z hz u hu
          simp only [List.map_cons, List.map_nil, List.mem_singleton] at hu
          subst hu
          rw [List.map_append] at hz
          rcases List.mem_append.1 hz with hz | hz
          · have := c2 z hz
            simp only [sp] at this ⊢
            omega
          · simp only [List.map_cons, List.map_nil, List.mem_singleton] at hz
            subst hz
            simp only [sp]
            omega
        · intro u hu
          simp only [List.map_cons, List.map_nil, List.mem_singleton] at hu
          subst hu
          exact x1) (by
        intro z hz
        rcases List.mem_append.1 hz with hz | hz
        · exact hm z hz
        · rw [List.mem_singleton.1 hz]; exact x3)
      refine h.congr (fun n => ?_)
      rw [sm_append (i ++ [y]) [x], sm_cons x t, sm_cons x [], sm_nil]
      simp only [or_false, or_assoc]
theorem merge_spec (L : List Sn) (hL : ∀ x ∈ L, WF x) (hp : L.Pairwise (fun a b => a.f0 ≤ b.f0)) : Can (SM L) (L.foldl mrg []) := by
  cases L with
  | nil => exact ⟨trivial, by simp, fun n => Iff.rfl⟩
  | cons x t =>
    obtain ⟨p1, p2⟩ := List.pairwise_cons.1 hp
    have hx := hL x (List.mem_cons_self ..)
    have h := mrg_spec t [] x (fun z hz => hL z (List.mem_cons_of_mem _ hz)) p2 p1 hx ⟨hx.1, hx.2.1, trivial⟩ (by simp; exact hx.2.2)
    rw [List.foldl_cons, mrg_nil]
    refine h.congr (fun n => ?_)
    rw [List.nil_append, sm_cons, sm_cons, sm_nil, or_false]
theorem normal_spec (l : List Sn) (hl : l.length < 8796093022208) : ∃ r, Ev (fun k => interval_Normal.f k l) r ∧ Can (fun n => SM l n ∧ 0 ≤ n ∧ n ≤ 4294967296) r ∧ r.length ≤ l.length := by
  obtain ⟨c1, c2, c3⟩ := clipped_spec l
  obtain ⟨s1, s2, s3⟩ := sortSpans_spec (clipped 0 4294967296 l)
  have hw : ∀ x ∈ sortSpans (clipped 0 4294967296 l), WF x := fun x hx => c2 x (s2.mem_iff.1 hx)
  refine ⟨(sortSpans (clipped 0 4294967296 l)).foldl mrg [], ?_, ?_, ?_⟩
  · refine Ev.congr (fun k => by unfold interval_Normal.f; rfl) (Ev.bind (ev_cut l 0 4294967296 hl) (Ev.bind (g := fun _ => sort_Span.f (clipped 0 4294967296 l)) (a := sortSpans (clipped 0 4294967296 l)) ?_ ?_))
    · refine Ev.congr (fun k => ?_) (Ev.now _)
      unfold sort_Span.f
      rw [if_pos (by omega)]
    · have h := ev_nl (sortSpans (clipped 0 4294967296 l)) (by omega) hw _ 0 [] rfl (Nat.zero_le _) (Nat.le_refl _) (by simp)
      rw [s1] at h
      simpa using h
  · refine (merge_spec _ hw s3).congr (fun n => ?_)
    rw [← c3 n, sm_iff, sm_iff]
    constructor
    · rintro ⟨x, hx, h⟩
      exact ⟨x, s2.mem_iff.1 hx, h⟩
    · rintro ⟨x, hx, h⟩
      exact ⟨x, s2.mem_iff.2 hx, h⟩
  · have := fold_len (sortSpans (clipped 0 4294967296 l)) []
    simp at this
    omega
end Go.Proofs.Ytcgfpffgiimgmaa.Q
end

section
set_option linter.unusedVariables false
set_option linter.unusedSimpArgs false
namespace Go.Proofs.Ytcgfpffgiimgmaa.Q
open Go.RowKit Go.Proofs.YtcgfpffgiimgmaaW.PrintWords Go.Proofs.YtcgfpffgiimgmaaW.PrintLast Go.Proofs.YtcgfpffgiimgmaaW.PrintMore Go.Proofs.Ytcgfpffgiimgmaa.Canon
def minS (c x : Sn) : Sn := if x.f0 < c.f0 then x else c
theorem min_spec (W : List Sn) : ∀ (T : List Sn) (c : Sn), (∀ x ∈ T, x ∈ W) → c ∈ W → (T.foldl minS c) ∈ W ∧ (T.foldl minS c).f0 ≤ c.f0 ∧ ∀ x ∈ T, (T.foldl minS c).f0 ≤ x.f0
  | [], c, _, hc => ⟨hc, Int.le_refl _, by simp⟩
  | x :: t, c, hT, hc => by
    have hm : minS c x ∈ W := by
      unfold minS
      split
      · exact hT x (List.mem_cons_self ..)
      · exact hc
    obtain ⟨h1, h2, h3⟩ := min_spec W t (minS c x) (fun z hz => hT z (List.mem_cons_of_mem _ hz)) hm
    have h4 : (minS c x).f0 ≤ c.f0 ∧ (minS c x).f0 ≤ x.f0 := by unfold minS; split <;> constructor <;> omega
    refine ⟨h1, Int.le_trans h2 h4.1, fun z hz => ?_⟩
    rcases List.mem_cons.1 hz with rfl | hz
    · exact Int.le_trans h2 h4.2
    · exact h3 z hz
theorem ev_min {r : Int × Int × List Sn} (W : List Sn) (hl : W.length < 8796093022208) : ∀ (d i : Nat) (c : Sn), W.length - i = d → i ≤ W.length → Ev (fun k => intrusionref05_least.l1 k W true ((W.drop i).foldl minS c).f0 ((W.drop i).foldl minS c).f1) r → Ev (fun k => intrusionref05_least.l0 k W (i : Int) c.f0 c.f1) r := by
  intro d
  induction d with
  | zero =>
    intro i c hd hi h
    have : i = W.length := by omega
    subst this
    refine Ev.step (fun k => ?_) h
    simp only [intrusionref05_least.l0]
    rw [if_neg (by omega)]
    simp
  | succ d ih =>
    intro i c hd hi h
    have hlt : i < W.length := by omega
    rw [drop_cons W i hlt, List.foldl_cons] at h
    refine Ev.step (fun k => ?_) (ih (i + 1) (minS c W[i]) (by omega) (by omega) h)
    simp only [intrusionref05_least.l0]
    rw [if_pos (by omega), if_pos (by omega), rd_at W i hlt, wrap_succ i (by omega)]
    unfold minS
    split <;> rfl
def pass (s : Int × Bool) (x : Sn) : Int × Bool := if x.f0 ≤ s.1 + 1 ∧ x.f1 > s.1 then (x.f1, true) else s
theorem pass_spec (a : Int) (W : List Sn) (hW : ∀ x ∈ W, WF x) : ∀ (T : List Sn) (s : Int × Bool), (∀ x ∈ T, x ∈ W) → 0 ≤ s.1 → s.1 ≤ 4294967296 → (∀ n, a ≤ n → n ≤ s.1 → SM W n) →
    s.1 ≤ (T.foldl pass s).1 ∧ (T.foldl pass s).1 ≤ 4294967296 ∧ (∀ n, a ≤ n → n ≤ (T.foldl pass s).1 → SM W n) ∧ ((T.foldl pass s).2 = false → (T.foldl pass s).1 = s.1 ∧ ∀ x ∈ T, ¬ (x.f0 ≤ s.1 + 1 ∧ x.f1 > s.1)) ∧
    ((T.foldl pass s).1 = s.1 ∨ ∃ x ∈ T, x.f1 = (T.foldl pass s).1) ∧ ((T.foldl pass s).2 = true → s.2 = true ∨ s.1 < (T.foldl pass s).1) ∧ ((T.foldl pass s).2 = false → s.2 = false)
  | [], s, _, h0, h1, hc => ⟨Int.le_refl _, h1, hc, fun _ => ⟨rfl, by simp⟩, .inl rfl, fun h => .inl h, fun h => h⟩
  | x :: t, s, hT, h0, h1, hc => by
    have hx := hT x (List.mem_cons_self ..)
    have wx := hW x hx
    have ht := fun z hz => hT z (List.mem_cons_of_mem _ hz)
    rw [List.foldl_cons]
    by_cases hp : x.f0 ≤ s.1 + 1 ∧ x.f1 > s.1
    · have e : pass s x = (x.f1, true) := by unfold pass; rw [if_pos hp]
      rw [e]
      obtain ⟨i1, i2, i3, i4, i5, i6, i7⟩ := pass_spec a W hW t (x.f1, true) ht (by have := wx.1; have := wx.2.1; simp; omega) wx.2.2 (fun n n1 n2 => by
        by_cases hn : n ≤ s.1
        · exact hc n n1 hn
        · exact (sm_iff W n).2 ⟨x, hx, by omega, n2⟩)
      simp only at i1 i2 i3 i4 i5 i6 i7
      refine ⟨by omega, i2, i3, fun h => ?_, ?_, fun _ => .inr (by omega), fun h => by simpa using i7 h⟩
      · have := i7 h
        simp at this
      · rcases i5 with e5 | ⟨z, hz, e5⟩
        · exact .inr ⟨x, List.mem_cons_self .., e5.symm⟩
        · exact .inr ⟨z, List.mem_cons_of_mem _ hz, e5⟩
    · have e : pass s x = s := by unfold pass; rw [if_neg hp]
      rw [e]
      obtain ⟨i1, i2, i3, i4, i5, i6, i7⟩ := pass_spec a W hW t s ht h0 h1 hc
      refine ⟨i1, i2, i3, fun h => ⟨(i4 h).1, fun z hz => ?_⟩, ?_, i6, i7⟩
      · rcases List.mem_cons.1 hz with rfl | hz
        · exact hp
        · exact (i4 h).2 z hz
      · rcases i5 with e5 | ⟨z, hz, e5⟩
        · exact .inl e5
        · exact .inr ⟨z, List.mem_cons_of_mem _ hz, e5⟩
theorem ev_pass {r : Int × Int × List Sn} (a : Int) (W : List Sn) (hl : W.length < 8796093022208) (hW : ∀ x ∈ W, WF x) : ∀ (d i : Nat) (s : Int × Bool), W.length - i = d → i ≤ W.length → 0 ≤ s.1 → s.1 ≤ 4294967296 →
    Ev (fun k => intrusionref05_least.l1 k W ((W.drop i).foldl pass s).2 a ((W.drop i).foldl pass s).1) r → Ev (fun k => intrusionref05_least.l2 k W s.2 (i : Int) a s.1) r := by
  intro d
  induction d with
  | zero =>
    intro i s hd hi h0 h1 h
    have : i = W.length := by omega
    subst this
    refine Ev.step (fun k => ?_) h
    simp only [intrusionref05_least.l2]
    rw [if_neg (by omega)]
    simp
  | succ d ih =>
    intro i s hd hi h0 h1 h
    have hlt : i < W.length := by omega
    have wx := hW W[i] (List.getElem_mem hlt)
    rw [drop_cons W i hlt, List.foldl_cons] at h
    have hr : 0 ≤ (pass s W[i]).1 ∧ (pass s W[i]).1 ≤ 4294967296 := by
      unfold pass
      split
      · exact ⟨by have := wx.1; have := wx.2.1; simp; omega, wx.2.2⟩
      · exact ⟨h0, h1⟩
    refine Ev.step (fun k => ?_) (ih (i + 1) (pass s W[i]) (by omega) (by omega) hr.1 hr.2 h)
    simp only [intrusionref05_least.l2]
    rw [if_pos (by omega), if_pos (by omega), rd_at W i hlt, wrap_succ i (by omega), wrap_id (by omega) (by omega)]
    unfold pass
    by_cases c1 : W[i].f0 ≤ s.1 + 1
    · by_cases c2 : W[i].f1 > s.1
      · rw [if_pos c1, if_pos c2, if_pos ⟨c1, c2⟩]
      · rw [if_pos c1, if_neg c2, if_neg (fun h => c2 h.2)]
    · rw [if_neg c1, if_neg (fun h => c1 h.1)]
theorem ev_rest (a b : Int) (W : List Sn) (hl : W.length < 8796093022208) : ∀ (d i : Nat) (out : List Sn), W.length - i = d → i ≤ W.length → out.length ≤ i → Ev (fun k => intrusionref05_least.l3 k W out (i : Int) a b) (a, b, out ++ (W.drop i).filter (fun x => decide (b < x.f0))) := by
  intro d
  induction d with
  | zero =>
    intro i out hd hi ho
    have : i = W.length := by omega
    subst this
    refine Ev.step (f := fun _ => some (a, b, out)) (fun k => ?_) ?_
    · simp only [intrusionref05_least.l3]; rw [if_neg (by omega)]
    · simpa using Ev.now (a, b, out)
  | succ d ih =>
    intro i out hd hi ho
    have hlt : i < W.length := by omega
    rw [drop_cons W i hlt, List.filter_cons]
    by_cases hc : b < W[i].f0
    · rw [if_pos (by simpa using hc)]
      have h2 := ih (i + 1) (out ++ [W[i]]) (by omega) (by omega) (by simp; omega)
      rw [List.append_assoc] at h2
      refine Ev.step (fun k => ?_) h2
      simp only [intrusionref05_least.l3]
      rw [if_pos (by omega), if_pos (by omega), rd_at W i hlt, if_pos (by omega), if_pos (by omega), wrap_succ i (by omega)]
    · rw [if_neg (by simpa using hc)]
      refine Ev.step (fun k => ?_) (ih (i + 1) out (by omega) (by omega) (by omega))
      simp only [intrusionref05_least.l3]
      rw [if_pos (by omega), if_pos (by omega), rd_at W i hlt, if_neg (by omega), wrap_succ i (by omega)]
theorem count_lt {h h' : Int} (hlt : h < h') : ∀ (W : List Sn), (∃ x ∈ W, x.f1 = h') → (W.countP fun x => decide (h' < x.f1)) < (W.countP fun x => decide (h < x.f1))
  | [], hx => by simp at hx
  | y :: t, hx => by
    have hle : ∀ T : List Sn, (T.countP fun x => decide (h' < x.f1)) ≤ (T.countP fun x => decide (h < x.f1)) := fun T => List.countP_mono_left (fun x _ hp => by simp at hp ⊢; omega)
    rw [List.countP_cons, List.countP_cons]
    obtain ⟨x, hx, e⟩ := hx
    rcases List.mem_cons.1 hx with rfl | hx
    · have := hle t
      rw [if_neg (by simp; omega), if_pos (by simp; omega)]
      omega
    · have h1 := count_lt hlt t ⟨x, hx, e⟩
      by_cases c : h' < y.f1
      · rw [if_pos (by simpa using c), if_pos (by simp; omega)]
        omega
      · rw [if_neg (by simpa using c)]
        omega
theorem fix_spec (a : Int) (W : List Sn) (hl : W.length < 8796093022208) (hW : ∀ x ∈ W, WF x) : ∀ (c : Nat) (hi : Int), (W.countP fun x => decide (hi < x.f1)) = c → 0 ≤ hi → hi ≤ 4294967296 → (∀ n, a ≤ n → n ≤ hi → SM W n) →
    ∃ b, hi ≤ b ∧ b ≤ 4294967296 ∧ Ev (fun k => intrusionref05_least.l1 k W true a hi) (a, b, W.filter (fun x => decide (b < x.f0))) ∧ (∀ n, a ≤ n → n ≤ b → SM W n) ∧ ∀ x ∈ W, x.f0 ≤ b + 1 → x.f1 ≤ b := by
  intro c
  induction c using Nat.strongRecOn with
  | _ c ih =>
    intro hi hc h0 h1 hcov
    obtain ⟨p1, p2, p3, p4, p5, p6, p7⟩ := pass_spec a W hW W (hi, false) (fun _ h => h) h0 h1 hcov
    simp only at p1 p2 p3 p4 p5 p6 p7
    have hgo : ∀ {r : Int × Int × List Sn}, Ev (fun k => intrusionref05_least.l1 k W (W.foldl pass (hi, false)).2 a (W.foldl pass (hi, false)).1) r → Ev (fun k => intrusionref05_least.l1 k W true a hi) r := by
      intro r h
      have h2 := ev_pass a W hl hW W.length 0 (hi, false) (by omega) (by omega) h0 h1 (by simpa using h)
      refine Ev.step (fun k => ?_) h2
      simp only [intrusionref05_least.l1]
      rfl
    cases hb : (W.foldl pass (hi, false)).2 with
    | true =>
      have hlt : hi < (W.foldl pass (hi, false)).1 := by
        rcases p6 hb with h | h
        · simp at h
        · exact h
      have hex : ∃ x ∈ W, x.f1 = (W.foldl pass (hi, false)).1 := by
        rcases p5 with h | h
        · omega
        · exact h
      obtain ⟨b, b1, b2, b3, b4, b5⟩ := ih _ (by rw [← hc]; exact count_lt hlt W hex) (W.foldl pass (hi, false)).1 rfl (by omega) p2 p3
      refine ⟨b, by omega, b2, hgo ?_, b4, b5⟩
      rw [hb]
      exact b3
    | false =>
      obtain ⟨e1, e2⟩ := p4 hb
      refine ⟨hi, Int.le_refl _, h1, hgo ?_, hcov, fun x hx hle => ?_⟩
      · rw [hb, e1]
        have h3 := ev_rest a hi W hl W.length 0 [] (by omega) (by omega) (by simp)
        refine Ev.step (fun k => ?_) (by simpa using h3)
        simp only [intrusionref05_least.l1]
        rfl
      · have := e2 x hx
        omega
theorem least_spec (W : List Sn) (hl : W.length < 8796093022208) (hW : ∀ x ∈ W, WF x) (hne : 0 < W.length) :
    ∃ a b, (∃ x ∈ W, x.f0 = a) ∧ a ≤ b ∧ b ≤ 4294967296 ∧ Ev (fun k => intrusionref05_least.f k W) (a, b, W.filter (fun x => decide (b < x.f0))) ∧ (∀ n, a ≤ n → n ≤ b → SM W n) ∧ (∀ x ∈ W, a ≤ x.f0) ∧ ∀ x ∈ W, x.f0 ≤ b + 1 → x.f1 ≤ b := by
  obtain ⟨m1, m2, m3⟩ := min_spec W W W[0] (fun _ h => h) (List.getElem_mem hne)
  have wm := hW _ m1
  obtain ⟨b, b1, b2, b3, b4, b5⟩ := fix_spec (W.foldl minS W[0]).f0 W hl hW _ (W.foldl minS W[0]).f1 rfl (by have := wm.1; have := wm.2.1; omega) wm.2.2 (fun n n1 n2 => (sm_iff W n).2 ⟨_, m1, n1, n2⟩)
  refine ⟨(W.foldl minS W[0]).f0, b, ⟨_, m1, rfl⟩, by have := wm.2.1; omega, b2, ?_, b4, m3, b5⟩
  have h := ev_min W hl W.length 0 W[0] (by omega) (by omega) (by simpa using b3)
  refine Ev.congr (fun k => ?_) h
  unfold intrusionref05_least.f
  rw [if_pos (by omega), show rd_T52 W 0 = W[0] from rd_at W 0 hne]
  rfl
theorem rn_spec : ∀ (m : Nat) (W : List Sn), W.length = m → m < 8796093022208 → (∀ x ∈ W, WF x) →
    ∃ r : List Sn, (∀ out : List Sn, out.length + m < 8796093022208 → Ev (fun k => intrusionref05_Normal.l1 k W out) (out ++ r)) ∧ r.length ≤ m ∧ (∀ p, (∀ x ∈ W, p ≤ x.f0) → CanFrom p (r.map sp)) ∧ (∀ x ∈ r, x.f1 ≤ 4294967296) ∧ ∀ n, SM r n ↔ SM W n := by
  intro m
  induction m using Nat.strongRecOn with
  | _ m ih =>
    intro W hm hl hW
    by_cases hne : 0 < W.length
    · obtain ⟨a, b, ⟨x0, hx0, e0⟩, hab, hb, hev, hcov, hmin, hclo⟩ := least_spec W (by omega) hW hne
      have hlen : (W.filter (fun x => decide (b < x.f0))).length < W.length := by
        refine Nat.lt_of_le_of_ne (List.length_filter_le _ _) (fun e => ?_)
        have := List.length_filter_eq_length_iff.1 e x0 hx0
        simp at this
        omega
      obtain ⟨r, r1, r2, r3, r4, r5⟩ := ih _ (by omega) (W.filter (fun x => decide (b < x.f0))) rfl (by omega) (fun x hx => hW x ((List.mem_filter.1 hx).1))
      have hrest : ∀ x ∈ W.filter (fun x => decide (b < x.f0)), b + 2 ≤ x.f0 := by
        intro x hx
        obtain ⟨h1, h2⟩ := List.mem_filter.1 hx
        simp at h2
        have := (hW x h1).2.1
        have := hclo x h1
        omega
      refine ⟨(⟨a, b⟩ : Sn) :: r, fun out ho => ?_, by simp; omega, fun p hp => ⟨?_, hab, r3 (b + 2) hrest⟩, ?_, fun n => ?_⟩
      · have h2 := r1 (out ++ [(⟨a, b⟩ : Sn)]) (by simp; omega)
        rw [List.append_assoc] at h2
        refine Ev.step (f := fun k => (intrusionref05_least.f k W).bind fun bt => if out.length < 8796093022208 then intrusionref05_Normal.l1 k bt.2.2 (out ++ [(⟨bt.1, bt.2.1⟩ : Sn)]) else none) (fun k => ?_) (Ev.bind hev ?_)
        · simp only [intrusionref05_Normal.l1]
          rw [if_pos (by omega)]
        · refine Ev.congr (fun k => ?_) h2
          rw [if_pos (by omega)]
      · rw [← e0]; exact hp x0 hx0
      · intro x hx
        rcases List.mem_cons.1 hx with rfl | hx
        · exact hb
        · exact r4 x hx
      · rw [sm_cons, r5 n]
        constructor
        · rintro (h | h)
          · exact hcov n h.1 h.2
          · obtain ⟨x, hx, h⟩ := (sm_iff _ n).1 h
            exact (sm_iff _ n).2 ⟨x, (List.mem_filter.1 hx).1, h⟩
        · intro h
          obtain ⟨x, hx, h1, h2⟩ := (sm_iff _ n).1 h
          by_cases hc : x.f0 ≤ b + 1
          · exact .inl ⟨by have := hmin x hx; simp; omega, by have := hclo x hx hc; simp; omega⟩
          · exact .inr ((sm_iff _ n).2 ⟨x, List.mem_filter.2 ⟨hx, by simp; omega⟩, h1, h2⟩)
    · have h0 : W = [] := List.eq_nil_of_length_eq_zero (by omega)
      subst h0
      refine ⟨[], fun out ho => ?_, by simp, fun p hp => trivial, by simp, fun n => Iff.rfl⟩
      rw [List.append_nil]
      refine Ev.step (f := fun _ => some out) (fun k => ?_) (Ev.now _)
      simp only [intrusionref05_Normal.l1]
      rw [if_neg (by simp)]
theorem ev_rn0 {r : List Sn} (L : List Sn) (hl : L.length < 8796093022208) : ∀ (d i : Nat) (out : List Sn), L.length - i = d → i ≤ L.length → out.length ≤ i → Ev (fun k => intrusionref05_Normal.l1 k (out ++ clipped 0 4294967296 (L.drop i)) []) r → Ev (fun k => intrusionref05_Normal.l0 k L out (i : Int)) r := by
  intro d
  induction d with
  | zero =>
    intro i out hd hi ho h
    have : i = L.length := by omega
    subst this
    refine Ev.step (fun k => ?_) h
    simp only [intrusionref05_Normal.l0]
    rw [if_neg (by omega)]
    simp [clipped]
  | succ d ih =>
    intro i out hd hi ho h
    have hlt : i < L.length := by omega
    rw [drop_cons L i hlt] at h
    unfold clipped at h
    rw [List.map_cons, List.filter_cons] at h
    by_cases hc : (clip 0 4294967296 L[i]).f0 ≤ (clip 0 4294967296 L[i]).f1
    · rw [if_pos (by simpa using hc)] at h
      refine Ev.step (fun k => ?_) (ih (i + 1) (out ++ [clip 0 4294967296 L[i]]) (by omega) (by omega) (by simp; omega) (by rw [List.append_assoc]; exact h))
      simp only [intrusionref05_Normal.l0]
      rw [if_pos (by omega), if_pos (by omega), rd_at L i hlt]
      unfold intrusionref05_cut.f
      simp only [Option.bind_some]
      rw [if_pos (show decide (mx L[i].f0 0 ≤ mn L[i].f1 4294967296) = true from decide_eq_true hc), if_pos (by omega), wrap_succ i (by omega)]
      rfl
    · rw [if_neg (by simpa using hc)] at h
      refine Ev.step (fun k => ?_) (ih (i + 1) out (by omega) (by omega) (by omega) h)
      simp only [intrusionref05_Normal.l0]
      rw [if_pos (by omega), if_pos (by omega), rd_at L i hlt]
      unfold intrusionref05_cut.f
      simp only [Option.bind_some]
      rw [if_neg (show ¬ decide (mx L[i].f0 0 ≤ mn L[i].f1 4294967296) = true from fun h => hc (of_decide_eq_true h)), wrap_succ i (by omega)]
theorem rnormal_spec (l : List Sn) (hl : l.length < 8796093022208) : ∃ r, Ev (fun k => intrusionref05_Normal.f k l) r ∧ Can (fun n => SM l n ∧ 0 ≤ n ∧ n ≤ 4294967296) r ∧ r.length ≤ l.length := by
  obtain ⟨c1, c2, c3⟩ := clipped_spec l
  obtain ⟨r, r1, r2, r3, r4, r5⟩ := rn_spec _ (clipped 0 4294967296 l) rfl (by omega) c2
  refine ⟨r, ?_, ⟨r3 0 (fun x hx => (c2 x hx).1), r4, fun n => (r5 n).trans (c3 n)⟩, by omega⟩
  have h := ev_rn0 l hl l.length 0 [] (by omega) (by omega) (by simp) (by simpa using r1 [] (by simp; omega))
  exact Ev.congr (fun k => rfl) h
end Go.Proofs.Ytcgfpffgiimgmaa.Q
end

section
namespace Go.Proofs.Ytcgfpffgiimgmaa.Q
open Go.RowKit Go.Proofs.YtcgfpffgiimgmaaW.PrintWords Go.Proofs.YtcgfpffgiimgmaaW.PrintLast Go.Proofs.YtcgfpffgiimgmaaW.PrintMore
attribute [local go_sem] max2_int min2_int max_two min_two max_three min_three max_four min_four
set_option linter.unusedVariables false
set_option linter.unusedSimpArgs false
def intrusionref05_Valid.l0 : Nat → List (S52) → Int → Option (Bool)
  | 0, _, _ => none
  | k + 1, x0, x3 => if x3 < (x0.length : Int) then (if 0 ≤ x3 then (if ((rd_T52 x0 x3).f0) < 0 then (some false) else (if ((rd_T52 x0 x3).f1) < ((rd_T52 x0 x3).f0) then (some false) else (if ((rd_T52 x0 x3).f1) > 4294967296 then (some false) else (if x3 > 0 then (if 0 ≤ (wrap64 (x3 - 1)) then (if (wrap64 (x3 - 1)) < (x0.length : Int) then (if ((rd_T52 x0 x3).f0) < (wrap64 (((rd_T52 x0 (wrap64 (x3 - 1))).f1) + 2)) then (some false) else (intrusionref05_Valid.l0 k x0 (wrap64 (x3 + 1)))) else (none)) else (none)) else (intrusionref05_Valid.l0 k x0 (wrap64 (x3 + 1))))))) else (none)) else (some true)
def intrusionref05_Valid.f (k : Nat) (l0 : List (S52)) : Option (Bool) := intrusionref05_Valid.l0 k l0 0
theorem intrusionref05_Valid.mono_l : ∀ k, (∀ y0 y1, LeO (intrusionref05_Valid.l0 k y0 y1) (intrusionref05_Valid.l0 (k + 1) y0 y1))
  | 0 => fun _ _ r h => by simp [intrusionref05_Valid.l0] at h
  | k + 1 => by
    have ih0 := intrusionref05_Valid.mono_l k
    · intro y0 y1
      unfold intrusionref05_Valid.l0
      repeat' first
      | (with_reducible exact ih0 _ _)
      | (with_reducible exact LeO.refl _)
      | (with_reducible exact LeO.none _)
      | (with_reducible refine LeO.ite ?_ ?_)
      | (with_reducible refine LeO.bind ?_ (fun _ => ?_))
      | exact ih0 _ _
      | exact LeO.none _
      | refine LeO.ite ?_ ?_
      | refine LeO.bind ?_ (fun _ => ?_)
theorem intrusionref05_Valid.mono : ∀ a0 k, LeO (intrusionref05_Valid.f k a0) (intrusionref05_Valid.f (k + 1) a0) := by
  intro a0 k
  have ih0 := intrusionref05_Valid.mono_l k
  unfold intrusionref05_Valid.f
  repeat' first
      | (with_reducible exact ih0 _ _)
      | (with_reducible exact LeO.refl _)
      | (with_reducible exact LeO.none _)
      | (with_reducible refine LeO.ite ?_ ?_)
      | (with_reducible refine LeO.bind ?_ (fun _ => ?_))
      | exact ih0 _ _
      | exact LeO.none _
      | refine LeO.ite ?_ ?_
      | refine LeO.bind ?_ (fun _ => ?_)
end Go.Proofs.Ytcgfpffgiimgmaa.Q
end

section
namespace Go.Proofs.Ytcgfpffgiimgmaa.Q
open Go.RowKit Go.Proofs.YtcgfpffgiimgmaaW.PrintWords Go.Proofs.YtcgfpffgiimgmaaW.PrintLast Go.Proofs.YtcgfpffgiimgmaaW.PrintMore
attribute [local go_sem] max2_int min2_int max_two min_two max_three min_three max_four min_four
set_option linter.unusedVariables false
set_option linter.unusedSimpArgs false
def intrusionref05_Count.l0 : Nat → List (S52) → Int → Int → Option (Int)
  | 0, _, _, _ => none
  | k + 1, x3, x4, x5 => if x5 < (x3.length : Int) then (if 0 ≤ x5 then (intrusionref05_Count.l0 k x3 (wrap64 ((wrap64 ((wrap64 (x4 + ((rd_T52 x3 x5).f1))) - ((rd_T52 x3 x5).f0))) + 1)) (wrap64 (x5 + 1))) else (none)) else (some x4)
def intrusionref05_Count.f (k : Nat) (l0 : List (S52)) : Option (Int) := (intrusionref05_Normal.f k l0).bind fun t253 => (intrusionref05_Count.l0 k t253 0 0)
theorem intrusionref05_Count.mono_l : ∀ k, (∀ y0 y1 y2, LeO (intrusionref05_Count.l0 k y0 y1 y2) (intrusionref05_Count.l0 (k + 1) y0 y1 y2))
  | 0 => fun _ _ _ r h => by simp [intrusionref05_Count.l0] at h
  | k + 1 => by
    have ih0 := intrusionref05_Count.mono_l k
    · intro y0 y1 y2
      unfold intrusionref05_Count.l0
      repeat' first
      | (with_reducible exact ih0 _ _ _)
      | (with_reducible exact intrusionref05_Normal.mono _ _)
      | (with_reducible exact LeO.refl _)
      | (with_reducible exact LeO.none _)
      | (with_reducible refine LeO.ite ?_ ?_)
      | (with_reducible refine LeO.bind ?_ (fun _ => ?_))
      | exact ih0 _ _ _
      | exact intrusionref05_Normal.mono _ _
      | exact LeO.none _
      | refine LeO.ite ?_ ?_
      | refine LeO.bind ?_ (fun _ => ?_)
theorem intrusionref05_Count.mono : ∀ a0 k, LeO (intrusionref05_Count.f k a0) (intrusionref05_Count.f (k + 1) a0) := by
  intro a0 k
  have ih0 := intrusionref05_Count.mono_l k
  unfold intrusionref05_Count.f
  repeat' first
      | (with_reducible exact ih0 _ _ _)
      | (with_reducible exact intrusionref05_Normal.mono _ _)
      | (with_reducible exact LeO.refl _)
      | (with_reducible exact LeO.none _)
      | (with_reducible refine LeO.ite ?_ ?_)
      | (with_reducible refine LeO.bind ?_ (fun _ => ?_))
      | exact ih0 _ _ _
      | exact intrusionref05_Normal.mono _ _
      | exact LeO.none _
      | refine LeO.ite ?_ ?_
      | refine LeO.bind ?_ (fun _ => ?_)
end Go.Proofs.Ytcgfpffgiimgmaa.Q
end

section
namespace Go.Proofs.Ytcgfpffgiimgmaa.Q
open Go.RowKit Go.Proofs.YtcgfpffgiimgmaaW.PrintWords Go.Proofs.YtcgfpffgiimgmaaW.PrintLast Go.Proofs.YtcgfpffgiimgmaaW.PrintMore
attribute [local go_sem] max2_int min2_int max_two min_two max_three min_three max_four min_four
set_option linter.unusedVariables false
set_option linter.unusedSimpArgs false
mutual
def intrusionref05_Intersect.l0 : Nat → List (S52) → List (S52) → List (S52) → Int → Option ((List (S52)))
  | 0, _, _, _, _ => none
  | k + 1, x5, x6, x7, x8 => if x8 < (x5.length : Int) then (intrusionref05_Intersect.l1 k x5 x6 x7 x8 0) else ((intrusionref05_Normal.f k x7).bind fun t312 => (some t312))
def intrusionref05_Intersect.l1 : Nat → List (S52) → List (S52) → List (S52) → Int → Int → Option ((List (S52)))
  | 0, _, _, _, _, _ => none
  | k + 1, x5, x6, x7, x8, x9 => if x9 < (x6.length : Int) then (if 0 ≤ x8 then (if x8 < (x5.length : Int) then (if 0 ≤ x9 then ((intrusionref05_cut.f ((rd_T52 x5 x8).f0) ((rd_T52 x5 x8).f1) ((rd_T52 x6 x9).f0) ((rd_T52 x6 x9).f1)).bind fun bt318 => (if bt318.2.2 = true then (if x7.length < 8796093022208 then (intrusionref05_Intersect.l1 k x5 x6 (x7 ++ [(⟨bt318.1, bt318.2.1⟩ : S52)]) x8 (wrap64 (x9 + 1))) else (none)) else (intrusionref05_Intersect.l1 k x5 x6 x7 x8 (wrap64 (x9 + 1))))) else (none)) else (none)) else (none)) else (intrusionref05_Intersect.l0 k x5 x6 x7 (wrap64 (x8 + 1)))
end
def intrusionref05_Intersect.f (k : Nat) (l0 : List (S52)) (l1 : List (S52)) : Option ((List (S52))) := (intrusionref05_Normal.f k l0).bind fun t303 => ((intrusionref05_Normal.f k l1).bind fun t306 => (intrusionref05_Intersect.l0 k t303 t306 (([] : List (S52))) 0))
theorem intrusionref05_Intersect.mono_l : ∀ k, (∀ y0 y1 y2 y3, LeO (intrusionref05_Intersect.l0 k y0 y1 y2 y3) (intrusionref05_Intersect.l0 (k + 1) y0 y1 y2 y3)) ∧ (∀ y0 y1 y2 y3 y4, LeO (intrusionref05_Intersect.l1 k y0 y1 y2 y3 y4) (intrusionref05_Intersect.l1 (k + 1) y0 y1 y2 y3 y4))
  | 0 => ⟨fun _ _ _ _ r h => by simp [intrusionref05_Intersect.l0] at h, fun _ _ _ _ _ r h => by simp [intrusionref05_Intersect.l1] at h⟩
  | k + 1 => by
    obtain ⟨ih0, ih1⟩ := intrusionref05_Intersect.mono_l k
    refine ⟨?_, ?_⟩
    · intro y0 y1 y2 y3
      unfold intrusionref05_Intersect.l0
      repeat' first
      | (with_reducible exact ih0 _ _ _ _)
      | (with_reducible exact ih1 _ _ _ _ _)
      | (with_reducible exact intrusionref05_Normal.mono _ _)
      | (with_reducible exact LeO.refl _)
      | (with_reducible exact LeO.none _)
      | (with_reducible refine LeO.ite ?_ ?_)
      | (with_reducible refine LeO.bind ?_ (fun _ => ?_))
      | exact ih0 _ _ _ _
      | exact ih1 _ _ _ _ _
      | exact intrusionref05_Normal.mono _ _
      | exact LeO.none _
      | refine LeO.ite ?_ ?_
      | refine LeO.bind ?_ (fun _ => ?_)
    · intro y0 y1 y2 y3 y4
      unfold intrusionref05_Intersect.l1
      repeat' first
      | (with_reducible exact ih0 _ _ _ _)
      | (with_reducible exact ih1 _ _ _ _ _)
      | (with_reducible exact intrusionref05_Normal.mono _ _)
      | (with_reducible exact LeO.refl _)
      | (with_reducible exact LeO.none _)
      | (with_reducible refine LeO.ite ?_ ?_)
      | (with_reducible refine LeO.bind ?_ (fun _ => ?_))
      | exact ih0 _ _ _ _
      | exact ih1 _ _ _ _ _
      | exact intrusionref05_Normal.mono _ _
      | exact LeO.none _
      | refine LeO.ite ?_ ?_
      | refine LeO.bind ?_ (fun _ => ?_)
theorem intrusionref05_Intersect.mono : ∀ a0 a1 k, LeO (intrusionref05_Intersect.f k a0 a1) (intrusionref05_Intersect.f (k + 1) a0 a1) := by
  intro a0 a1 k
  obtain ⟨ih0, ih1⟩ := intrusionref05_Intersect.mono_l k
  unfold intrusionref05_Intersect.f
  repeat' first
      | (with_reducible exact ih0 _ _ _ _)
      | (with_reducible exact ih1 _ _ _ _ _)
      | (with_reducible exact intrusionref05_Normal.mono _ _)
      | (with_reducible exact LeO.refl _)
      | (with_reducible exact LeO.none _)
      | (with_reducible refine LeO.ite ?_ ?_)
      | (with_reducible refine LeO.bind ?_ (fun _ => ?_))
      | exact ih0 _ _ _ _
      | exact ih1 _ _ _ _ _
      | exact intrusionref05_Normal.mono _ _
      | exact LeO.none _
      | refine LeO.ite ?_ ?_
      | refine LeO.bind ?_ (fun _ => ?_)
end Go.Proofs.Ytcgfpffgiimgmaa.Q
end

section
namespace Go.Proofs.Ytcgfpffgiimgmaa.Q
open Go.RowKit Go.Proofs.YtcgfpffgiimgmaaW.PrintWords Go.Proofs.YtcgfpffgiimgmaaW.PrintLast Go.Proofs.YtcgfpffgiimgmaaW.PrintMore
attribute [local go_sem] max2_int min2_int max_two min_two max_three min_three max_four min_four
set_option linter.unusedVariables false
set_option linter.unusedSimpArgs false
def interval_Subset.f (k : Nat) (l0 : List (S52)) (l1 : List (S52)) : Option (Bool) := (interval_Minus.f k l0 l1).bind fun t300 => (some ((t300.length : Int) == 0))
theorem interval_Subset.mono : ∀ a0 a1 k, LeO (interval_Subset.f k a0 a1) (interval_Subset.f (k + 1) a0 a1) := by
  intro a0 a1 k
  unfold interval_Subset.f
  repeat' first
      | (with_reducible exact interval_Minus.mono _ _ _)
      | (with_reducible exact LeO.refl _)
      | (with_reducible exact LeO.none _)
      | (with_reducible refine LeO.ite ?_ ?_)
      | (with_reducible refine LeO.bind ?_ (fun _ => ?_))
      | exact interval_Minus.mono _ _ _
      | exact LeO.none _
      | refine LeO.ite ?_ ?_
      | refine LeO.bind ?_ (fun _ => ?_)
end Go.Proofs.Ytcgfpffgiimgmaa.Q
end

section
namespace Go.Proofs.Ytcgfpffgiimgmaa.Q
open Go.RowKit Go.Proofs.YtcgfpffgiimgmaaW.PrintWords Go.Proofs.YtcgfpffgiimgmaaW.PrintLast Go.Proofs.YtcgfpffgiimgmaaW.PrintMore
attribute [local go_sem] max2_int min2_int max_two min_two max_three min_three max_four min_four
set_option linter.unusedVariables false
set_option linter.unusedSimpArgs false
def intrusionref05_Minus.f (k : Nat) (l0 : List (S52)) (l1 : List (S52)) : Option ((List (S52))) := (intrusionref05_Complement.f k l1 0 4294967296).bind fun t325 => ((intrusionref05_Intersect.f k l0 t325).bind fun t328 => (some t328))
theorem intrusionref05_Minus.mono : ∀ a0 a1 k, LeO (intrusionref05_Minus.f k a0 a1) (intrusionref05_Minus.f (k + 1) a0 a1) := by
  intro a0 a1 k
  unfold intrusionref05_Minus.f
  repeat' first
      | (with_reducible exact intrusionref05_Complement.mono _ _ _ _)
      | (with_reducible exact intrusionref05_Intersect.mono _ _ _)
      | (with_reducible exact LeO.refl _)
      | (with_reducible exact LeO.none _)
      | (with_reducible refine LeO.ite ?_ ?_)
      | (with_reducible refine LeO.bind ?_ (fun _ => ?_))
      | exact intrusionref05_Complement.mono _ _ _ _
      | exact intrusionref05_Intersect.mono _ _ _
      | exact LeO.none _
      | refine LeO.ite ?_ ?_
      | refine LeO.bind ?_ (fun _ => ?_)
end Go.Proofs.Ytcgfpffgiimgmaa.Q
end

section
namespace Go.Proofs.Ytcgfpffgiimgmaa.Q
open Go.RowKit Go.Proofs.YtcgfpffgiimgmaaW.PrintWords Go.Proofs.YtcgfpffgiimgmaaW.PrintLast Go.Proofs.YtcgfpffgiimgmaaW.PrintMore
attribute [local go_sem] max2_int min2_int max_two min_two max_three min_three max_four min_four
set_option linter.unusedVariables false
set_option linter.unusedSimpArgs false
def intrusionref05_Subset.f (k : Nat) (l0 : List (S52)) (l1 : List (S52)) : Option (Bool) := (intrusionref05_Minus.f k l0 l1).bind fun t331 => (some ((t331.length : Int) == 0))
theorem intrusionref05_Subset.mono : ∀ a0 a1 k, LeO (intrusionref05_Subset.f k a0 a1) (intrusionref05_Subset.f (k + 1) a0 a1) := by
  intro a0 a1 k
  unfold intrusionref05_Subset.f
  repeat' first
      | (with_reducible exact intrusionref05_Minus.mono _ _ _)
      | (with_reducible exact LeO.refl _)
      | (with_reducible exact LeO.none _)
      | (with_reducible refine LeO.ite ?_ ?_)
      | (with_reducible refine LeO.bind ?_ (fun _ => ?_))
      | exact intrusionref05_Minus.mono _ _ _
      | exact LeO.none _
      | refine LeO.ite ?_ ?_
      | refine LeO.bind ?_ (fun _ => ?_)
end Go.Proofs.Ytcgfpffgiimgmaa.Q
end

section
set_option linter.unusedVariables false
set_option linter.unusedSimpArgs false
namespace Go.Proofs.Ytcgfpffgiimgmaa.Q
open Go.RowKit Go.Proofs.YtcgfpffgiimgmaaW.PrintWords Go.Proofs.YtcgfpffgiimgmaaW.PrintLast Go.Proofs.YtcgfpffgiimgmaaW.PrintMore
def grow_Span.f (a1 : Int) : Option (List S52) := if 0 ≤ a1 ∧ a1 ≤ 8796093022208 then some [] else none
end Go.Proofs.Ytcgfpffgiimgmaa.Q
end

section
namespace Go.Proofs.Ytcgfpffgiimgmaa.Q
open Go.RowKit Go.Proofs.YtcgfpffgiimgmaaW.PrintWords Go.Proofs.YtcgfpffgiimgmaaW.PrintLast Go.Proofs.YtcgfpffgiimgmaaW.PrintMore
attribute [local go_sem] max2_int min2_int max_two min_two max_three min_three max_four min_four
set_option linter.unusedVariables false
set_option linter.unusedSimpArgs false
mutual
def slices_Concat_Span.l0 : Nat → List (List (S52)) → Int → List (List (S52)) → Int → Int → Option ((List (S52)))
  | 0, _, _, _, _, _ => none
  | k + 1, x0, x3, x9, x10, x11 => if x11 < x10 then (if 0 ≤ x11 then (if x11 < (x9.length : Int) then (if (wrap64 (x3 + ((rd_L2 x9 x11).length : Int))) < 0 then (none) else (slices_Concat_Span.l0 k x0 (wrap64 (x3 + ((rd_L2 x9 x11).length : Int))) x9 x10 (wrap64 (x11 + 1)))) else (none)) else (none)) else ((grow_Span.f x3).bind fun t344 => (slices_Concat_Span.l1 k t344 x0 (x0.length : Int) 0))
def slices_Concat_Span.l1 : Nat → List (S52) → List (List (S52)) → Int → Int → Option ((List (S52)))
  | 0, _, _, _, _ => none
  | k + 1, x6, x25, x26, x27 => if x27 < x26 then (if 0 ≤ x27 then (if x27 < (x25.length : Int) then (if x6.length + (rd_L2 x25 x27).length < 8796093022208 then (slices_Concat_Span.l1 k (x6 ++ (rd_L2 x25 x27)) x25 x26 (wrap64 (x27 + 1))) else (none)) else (none)) else (none)) else (some x6)
end
def slices_Concat_Span.f (k : Nat) (l0 : List (List (S52))) : Option ((List (S52))) := slices_Concat_Span.l0 k l0 0 l0 (l0.length : Int) 0
theorem slices_Concat_Span.mono_l : ∀ k, (∀ y0 y1 y2 y3 y4, LeO (slices_Concat_Span.l0 k y0 y1 y2 y3 y4) (slices_Concat_Span.l0 (k + 1) y0 y1 y2 y3 y4)) ∧ (∀ y0 y1 y2 y3, LeO (slices_Concat_Span.l1 k y0 y1 y2 y3) (slices_Concat_Span.l1 (k + 1) y0 y1 y2 y3))
  | 0 => ⟨fun _ _ _ _ _ r h => by simp [slices_Concat_Span.l0] at h, fun _ _ _ _ r h => by simp [slices_Concat_Span.l1] at h⟩
  | k + 1 => by
    obtain ⟨ih0, ih1⟩ := slices_Concat_Span.mono_l k
    refine ⟨?_, ?_⟩
    · intro y0 y1 y2 y3 y4
      unfold slices_Concat_Span.l0
      repeat' first
      | (with_reducible exact ih0 _ _ _ _ _)
      | (with_reducible exact ih1 _ _ _ _)
      | (with_reducible exact LeO.refl _)
      | (with_reducible exact LeO.none _)
      | (with_reducible refine LeO.ite ?_ ?_)
      | (with_reducible refine LeO.bind ?_ (fun _ => ?_))
      | exact ih0 _ _ _ _ _
      | exact ih1 _ _ _ _
      | exact LeO.none _
      | refine LeO.ite ?_ ?_
      | refine LeO.bind ?_ (fun _ => ?_)
    · intro y0 y1 y2 y3
      unfold slices_Concat_Span.l1
      repeat' first
      | (with_reducible exact ih0 _ _ _ _ _)
      | (with_reducible exact ih1 _ _ _ _)
      | (with_reducible exact LeO.refl _)
      | (with_reducible exact LeO.none _)
      | (with_reducible refine LeO.ite ?_ ?_)
      | (with_reducible refine LeO.bind ?_ (fun _ => ?_))
      | exact ih0 _ _ _ _ _
      | exact ih1 _ _ _ _
      | exact LeO.none _
      | refine LeO.ite ?_ ?_
      | refine LeO.bind ?_ (fun _ => ?_)
theorem slices_Concat_Span.mono : ∀ a0 k, LeO (slices_Concat_Span.f k a0) (slices_Concat_Span.f (k + 1) a0) := by
  intro a0 k
  obtain ⟨ih0, ih1⟩ := slices_Concat_Span.mono_l k
  unfold slices_Concat_Span.f
  repeat' first
      | (with_reducible exact ih0 _ _ _ _ _)
      | (with_reducible exact ih1 _ _ _ _)
      | (with_reducible exact LeO.refl _)
      | (with_reducible exact LeO.none _)
      | (with_reducible refine LeO.ite ?_ ?_)
      | (with_reducible refine LeO.bind ?_ (fun _ => ?_))
      | exact ih0 _ _ _ _ _
      | exact ih1 _ _ _ _
      | exact LeO.none _
      | refine LeO.ite ?_ ?_
      | refine LeO.bind ?_ (fun _ => ?_)
end Go.Proofs.Ytcgfpffgiimgmaa.Q
end

section
namespace Go.Proofs.Ytcgfpffgiimgmaa.Q
open Go.RowKit Go.Proofs.YtcgfpffgiimgmaaW.PrintWords Go.Proofs.YtcgfpffgiimgmaaW.PrintLast Go.Proofs.YtcgfpffgiimgmaaW.PrintMore
attribute [local go_sem] max2_int min2_int max_two min_two max_three min_three max_four min_four
set_option linter.unusedVariables false
set_option linter.unusedSimpArgs false
def interval_Union.f (k : Nat) (l0 : List (S52)) (l1 : List (S52)) : Option ((List (S52))) := (slices_Concat_Span.f k (([l0, l1] : List (List (S52))))).bind fun t354 => ((interval_Normal.f k t354).bind fun t357 => (some t357))
theorem interval_Union.mono : ∀ a0 a1 k, LeO (interval_Union.f k a0 a1) (interval_Union.f (k + 1) a0 a1) := by
  intro a0 a1 k
  unfold interval_Union.f
  repeat' first
      | (with_reducible exact interval_Normal.mono _ _)
      | (with_reducible exact slices_Concat_Span.mono _ _)
      | (with_reducible exact LeO.refl _)
      | (with_reducible exact LeO.none _)
      | (with_reducible refine LeO.ite ?_ ?_)
      | (with_reducible refine LeO.bind ?_ (fun _ => ?_))
      | exact interval_Normal.mono _ _
      | exact slices_Concat_Span.mono _ _
      | exact LeO.none _
      | refine LeO.ite ?_ ?_
      | refine LeO.bind ?_ (fun _ => ?_)
end Go.Proofs.Ytcgfpffgiimgmaa.Q
end

section
namespace Go.Proofs.Ytcgfpffgiimgmaa.Q
open Go.RowKit Go.Proofs.YtcgfpffgiimgmaaW.PrintWords Go.Proofs.YtcgfpffgiimgmaaW.PrintLast Go.Proofs.YtcgfpffgiimgmaaW.PrintMore
attribute [local go_sem] max2_int min2_int max_two min_two max_three min_three max_four min_four
set_option linter.unusedVariables false
set_option linter.unusedSimpArgs false
def intrusionref05_Union.f (k : Nat) (l0 : List (S52)) (l1 : List (S52)) : Option ((List (S52))) := (some (([] : List (S52)) : List (S52))).bind fun y360 => (if y360.length + l0.length < 8796093022208 then ((some (y360 ++ l0 : List (S52))).bind fun y363 => (if y363.length + l1.length < 8796093022208 then ((intrusionref05_Normal.f k (y363 ++ l1)).bind fun t369 => (some t369)) else (none))) else (none))
theorem intrusionref05_Union.mono : ∀ a0 a1 k, LeO (intrusionref05_Union.f k a0 a1) (intrusionref05_Union.f (k + 1) a0 a1) := by
  intro a0 a1 k
  unfold intrusionref05_Union.f
  repeat' first
      | (with_reducible exact intrusionref05_Normal.mono _ _)
      | (with_reducible exact LeO.refl _)
      | (with_reducible exact LeO.none _)
      | (with_reducible refine LeO.ite ?_ ?_)
      | (with_reducible refine LeO.bind ?_ (fun _ => ?_))
      | exact intrusionref05_Normal.mono _ _
      | exact LeO.none _
      | refine LeO.ite ?_ ?_
      | refine LeO.bind ?_ (fun _ => ?_)
end Go.Proofs.Ytcgfpffgiimgmaa.Q
end

section
namespace Go.Proofs.Ytcgfpffgiimgmaa.Q
open Go.RowKit Go.Proofs.YtcgfpffgiimgmaaW.PrintWords Go.Proofs.YtcgfpffgiimgmaaW.PrintLast Go.Proofs.YtcgfpffgiimgmaaW.PrintMore
attribute [local go_sem] max2_int min2_int max_two min_two max_three min_three max_four min_four
set_option linter.unusedVariables false
set_option linter.unusedSimpArgs false
mutual
def intrusionref05_Contains.j0 : Nat → List (S52) → Int → Bool → Option (Bool)
  | 0, _, _, _ => none
  | k + 1, x0, x1, x11 => if x11 = true then (some false) else (intrusionref05_Contains.l0 k x0 x1 0)
def intrusionref05_Contains.l0 : Nat → List (S52) → Int → Int → Option (Bool)
  | 0, _, _, _ => none
  | k + 1, x0, x1, x5 => if x5 < (x0.length : Int) then (if 0 ≤ x5 then (if ((rd_T52 x0 x5).f0) ≤ x1 then (if x1 ≤ ((rd_T52 x0 x5).f1) then (some true) else (intrusionref05_Contains.l0 k x0 x1 (wrap64 (x5 + 1)))) else (intrusionref05_Contains.l0 k x0 x1 (wrap64 (x5 + 1)))) else (none)) else (some false)
end
def intrusionref05_Contains.f (k : Nat) (l0 : List (S52)) (a1 : Int) : Option (Bool) := if a1 < 0 then (intrusionref05_Contains.j0 k l0 a1 true) else (intrusionref05_Contains.j0 k l0 a1 (decide (a1 > 4294967296)))
theorem intrusionref05_Contains.mono_l : ∀ k, (∀ y0 y1 y2, LeO (intrusionref05_Contains.j0 k y0 y1 y2) (intrusionref05_Contains.j0 (k + 1) y0 y1 y2)) ∧ (∀ y0 y1 y2, LeO (intrusionref05_Contains.l0 k y0 y1 y2) (intrusionref05_Contains.l0 (k + 1) y0 y1 y2))
  | 0 => ⟨fun _ _ _ r h => by simp [intrusionref05_Contains.j0] at h, fun _ _ _ r h => by simp [intrusionref05_Contains.l0] at h⟩
  | k + 1 => by
    obtain ⟨ih0, ih1⟩ := intrusionref05_Contains.mono_l k
    refine ⟨?_, ?_⟩
    · intro y0 y1 y2
      unfold intrusionref05_Contains.j0
      repeat' first
      | (with_reducible exact ih0 _ _ _)
      | (with_reducible exact ih1 _ _ _)
      | (with_reducible exact LeO.refl _)
      | (with_reducible exact LeO.none _)
      | (with_reducible refine LeO.ite ?_ ?_)
      | (with_reducible refine LeO.bind ?_ (fun _ => ?_))
      | exact ih0 _ _ _
      | exact ih1 _ _ _
      | exact LeO.none _
      | refine LeO.ite ?_ ?_
      | refine LeO.bind ?_ (fun _ => ?_)
    · intro y0 y1 y2
      unfold intrusionref05_Contains.l0
      repeat' first
      | (with_reducible exact ih0 _ _ _)
      | (with_reducible exact ih1 _ _ _)
      | (with_reducible exact LeO.refl _)
      | (with_reducible exact LeO.none _)
      | (with_reducible refine LeO.ite ?_ ?_)
      | (with_reducible refine LeO.bind ?_ (fun _ => ?_))
      | exact ih0 _ _ _
      | exact ih1 _ _ _
      | exact LeO.none _
      | refine LeO.ite ?_ ?_
      | refine LeO.bind ?_ (fun _ => ?_)
theorem intrusionref05_Contains.mono : ∀ a0 a1 k, LeO (intrusionref05_Contains.f k a0 a1) (intrusionref05_Contains.f (k + 1) a0 a1) := by
  intro a0 a1 k
  obtain ⟨ih0, ih1⟩ := intrusionref05_Contains.mono_l k
  unfold intrusionref05_Contains.f
  repeat' first
      | (with_reducible exact ih0 _ _ _)
      | (with_reducible exact ih1 _ _ _)
      | (with_reducible exact LeO.refl _)
      | (with_reducible exact LeO.none _)
      | (with_reducible refine LeO.ite ?_ ?_)
      | (with_reducible refine LeO.bind ?_ (fun _ => ?_))
      | exact ih0 _ _ _
      | exact ih1 _ _ _
      | exact LeO.none _
      | refine LeO.ite ?_ ?_
      | refine LeO.bind ?_ (fun _ => ?_)
end Go.Proofs.Ytcgfpffgiimgmaa.Q
end

section
set_option linter.unusedVariables false
set_option linter.unusedSimpArgs false
namespace Go.Proofs.Ytcgfpffgiimgmaa.Q
open Go.RowKit Go.Proofs.YtcgfpffgiimgmaaW.PrintWords Go.Proofs.YtcgfpffgiimgmaaW.PrintLast Go.Proofs.YtcgfpffgiimgmaaW.PrintMore Go.Proofs.Ytcgfpffgiimgmaa.Canon
def total : List Sn → Int
  | [] => 0
  | x :: t => (x.f1 - x.f0 + 1) + total t
theorem total_le : ∀ (l : List Sn) (lo : Int), CanFrom lo (l.map sp) → (∀ x ∈ l, x.f1 ≤ 4294967296) → 0 ≤ total l ∧ (l = [] ∨ total l ≤ 4294967297 - lo)
  | [], _, _, _ => ⟨Int.le_refl _, .inl rfl⟩
  | x :: t, lo, c, h => by
    obtain ⟨c1, c2, c3⟩ := c
    have hx := h x (List.mem_cons_self ..)
    obtain ⟨i1, i2⟩ := total_le t _ c3 (fun z hz => h z (List.mem_cons_of_mem _ hz))
    simp only [sp] at c1 c2 i2
    refine ⟨by simp only [total]; omega, .inr ?_⟩
    rcases i2 with rfl | i2
    · simp only [total]; omega
    · simp only [total]; omega
theorem tot_split (l : List Sn) (i : Nat) (h : i < l.length) : total (l.drop i) = (l[i].f1 - l[i].f0 + 1) + total (l.drop (i + 1)) := by rw [drop_cons l i h]; rfl
theorem ev_count (L : List Sn) (hl : L.length < 8796093022208) (hw : ∀ x ∈ L, WF x) : ∀ (d i : Nat) (c : Int), L.length - i = d → i ≤ L.length → 0 ≤ c → c + total (L.drop i) ≤ 4294967297 → Ev (fun k => interval_Count.l0 k c L (L.length : Int) (i : Int)) (c + total (L.drop i)) := by
  intro d
  induction d with
  | zero =>
    intro i c hd hi h0 h1
    have : i = L.length := by omega
    subst this
    refine Ev.step (f := fun _ => some c) (fun k => ?_) ?_
    · simp only [interval_Count.l0]; rw [if_neg (by omega)]
    · simpa [total] using Ev.now c
  | succ d ih =>
    intro i c hd hi h0 h1
    have hlt : i < L.length := by omega
    have wx := hw L[i] (List.getElem_mem hlt)
    obtain ⟨w1, w2, w3⟩ := wx
    have hn : ∀ l : List Sn, (∀ x ∈ l, WF x) → 0 ≤ total l := by
      intro l
      induction l with
      | nil => intro _; exact Int.le_refl _
      | cons y t ih => intro h; have := ih (fun z hz => h z (List.mem_cons_of_mem _ hz)); have := (h y (List.mem_cons_self ..)).2.1; simp only [total]; omega
    have hn2 := hn (L.drop (i + 1)) (fun x hx => hw x (List.mem_of_mem_drop hx))
    rw [tot_split L i hlt] at h1 ⊢
    have h2 := ih (i + 1) (c + (L[i].f1 - L[i].f0 + 1)) (by omega) (by omega) (by omega) (by omega)
    rw [show c + (L[i].f1 - L[i].f0 + 1 + total (L.drop (i + 1))) = c + (L[i].f1 - L[i].f0 + 1) + total (L.drop (i + 1)) from by omega]
    refine Ev.step (fun k => ?_) h2
    simp only [interval_Count.l0]
    rw [if_pos (by omega), if_pos (by omega), if_pos (by omega), rd_at L i hlt, wrap_succ i (by omega), wrap_id (x := L[i].f1 - L[i].f0) (by omega) (by omega), wrap_id (x := L[i].f1 - L[i].f0 + 1) (by omega) (by omega), wrap_id (by omega) (by omega)]
theorem Can.total {P : Int → Prop} {r : List Sn} (h : Can P r) : 0 ≤ total r ∧ total r ≤ 4294967297 := by
  obtain ⟨h1, h2⟩ := total_le r 0 h.1 h.2.1
  rcases h2 with rfl | h2
  · exact ⟨h1, by simp [Q.total]⟩
  · exact ⟨h1, by omega⟩
theorem count_spec (l : List Sn) (hl : l.length < 8796093022208) : ∃ r, Can (fun n => SM l n ∧ 0 ≤ n ∧ n ≤ 4294967296) r ∧ Ev (fun k => interval_Count.f k l) (total r) ∧ Ev (fun k => interval_Normal.f k l) r ∧ r.length ≤ l.length := by
  obtain ⟨r, h1, h2, h3⟩ := normal_spec l hl
  refine ⟨r, h2, ?_, h1, h3⟩
  have h4 := ev_count r (by omega) h2.wf r.length 0 0 (by omega) (by omega) (by omega) (by simpa using h2.total.2)
  exact Ev.congr (fun k => rfl) (Ev.bind h1 (by simpa using h4))
def okAt (L : List Sn) (i : Nat) : Bool := if h : i < L.length then decide (0 ≤ L[i].f0) && (decide (L[i].f0 ≤ L[i].f1) && (decide (L[i].f1 ≤ 4294967296) && (if h0 : 0 < i then decide ((L[i - 1]'(by omega)).f1 + 1 < L[i].f0) else true))) else true
def okAll (L : List Sn) : Bool := (List.range L.length).all (okAt L)
theorem ok_from (L : List Sn) : ∀ (d i : Nat), L.length - i = d → i ≤ L.length → (List.range' i (L.length - i)).all (okAt L) = if i < L.length then okAt L i && (List.range' (i + 1) (L.length - (i + 1))).all (okAt L) else true := by
  intro d i hd hi
  by_cases h : i < L.length
  · rw [if_pos h, show L.length - i = (L.length - (i + 1)) + 1 from by omega, List.range'_succ, List.all_cons]
  · rw [if_neg h, show L.length - i = 0 from by omega]
    rfl
theorem ev_valid (L : List Sn) (hl : L.length < 8796093022208) (hq : ∀ x ∈ L, -9223372036854775808 ≤ x.f0 ∧ x.f1 ≤ 9223372036854775807) : ∀ (d i : Nat), L.length - i = d → i ≤ L.length → (∀ j (hj : j < L.length), j < i → okAt L j = true) →
    Ev (fun k => interval_Valid.l0 k L L (L.length : Int) (i : Int)) ((List.range' i (L.length - i)).all (okAt L)) ∧ Ev (fun k => intrusionref05_Valid.l0 k L (i : Int)) ((List.range' i (L.length - i)).all (okAt L)) := by
  intro d
  induction d with
  | zero =>
    intro i hd hi _
    have : i = L.length := by omega
    subst this
    constructor
    · refine Ev.step (f := fun _ => some true) (fun k => ?_) ?_
      · simp only [interval_Valid.l0]; rw [if_neg (by omega)]
      · simpa using Ev.now true
    · refine Ev.step (f := fun _ => some true) (fun k => ?_) ?_
      · simp only [intrusionref05_Valid.l0]; rw [if_neg (by omega)]
      · simpa using Ev.now true
  | succ d ih =>
    intro i hd hi hprev
    have hlt : i < L.length := by omega
    have hx := hq L[i] (List.getElem_mem hlt)
    rw [ok_from L (d + 1) i hd hi, if_pos hlt]
    have key : ∀ b : Bool, okAt L i = b → (b = true → Ev (fun k => interval_Valid.l0 k L L (L.length : Int) ((i + 1 : Nat) : Int)) ((List.range' (i + 1) (L.length - (i + 1))).all (okAt L)) ∧ Ev (fun k => intrusionref05_Valid.l0 k L ((i + 1 : Nat) : Int)) ((List.range' (i + 1) (L.length - (i + 1))).all (okAt L))) := fun b hb hbt => ih (i + 1) (by omega) (by omega) (fun j hj hji => by
      by_cases e : j = i
      · subst e; rw [hb, hbt]
      · exact hprev j hj (by omega))
    have hdef : okAt L i = (decide (0 ≤ L[i].f0) && (decide (L[i].f0 ≤ L[i].f1) && (decide (L[i].f1 ≤ 4294967296) && (if h0 : 0 < i then decide ((L[i - 1]'(by omega)).f1 + 1 < L[i].f0) else true)))) := by unfold okAt; rw [dif_pos hlt]
    by_cases c1 : 0 ≤ L[i].f0
    · by_cases c2 : L[i].f0 ≤ L[i].f1
      · by_cases c3 : L[i].f1 ≤ 4294967296
        · by_cases c4 : 0 < i
          · have hp := hprev (i - 1) (by omega) (by omega)
            have hp2 : (L[i - 1]'(by omega)).f1 ≤ 4294967296 ∧ 0 ≤ (L[i - 1]'(by omega)).f1 := by
              unfold okAt at hp
              rw [dif_pos (by omega)] at hp
              simp only [Bool.and_eq_true, decide_eq_true_eq] at hp
              exact ⟨hp.2.2.1, by have := hp.1; have := hp.2.1; omega⟩
            have hi1 : wrap64 ((i : Int) - 1) = ((i - 1 : Nat) : Int) := by rw [wrap_id (by omega) (by omega)]; omega
            by_cases c5 : (L[i - 1]'(by omega)).f1 + 1 < L[i].f0
            · have hb : okAt L i = true := by rw [hdef]; simp [c1, c2, c3, c4, c5]
              obtain ⟨e1, e2⟩ := key true hb rfl
              rw [hb, Bool.true_and]
              constructor
              · refine Ev.step (fun k => ?_) e1
                simp only [interval_Valid.l0]
                rw [if_pos (by omega), if_pos (by omega), if_pos (by omega), rd_at L i hlt, if_neg (by omega), if_neg (by omega), if_neg (by omega), if_pos (by omega), hi1, if_pos (by omega), if_pos (by omega), rd_at L (i - 1) (by omega), wrap_id (by omega) (by omega), if_neg (by omega), wrap_succ i (by omega)]
              · refine Ev.step (fun k => ?_) e2
                simp only [intrusionref05_Valid.l0]
                rw [if_pos (by omega), if_pos (by omega), rd_at L i hlt, if_neg (by omega), if_neg (by omega), if_neg (by omega), if_pos (by omega), hi1, if_pos (by omega), if_pos (by omega), rd_at L (i - 1) (by omega), wrap_id (x := (L[i - 1]'(by omega)).f1 + 2) (by omega) (by omega), if_neg (by omega), wrap_succ i (by omega)]
            · have hb : okAt L i = false := by rw [hdef]; simp [c1, c2, c3, c4, c5]
              rw [hb, Bool.false_and]
              constructor
              · refine Ev.step (fun k => ?_) (Ev.now false)
                simp only [interval_Valid.l0]
                rw [if_pos (by omega), if_pos (by omega), if_pos (by omega), rd_at L i hlt, if_neg (by omega), if_neg (by omega), if_neg (by omega), if_pos (by omega), hi1, if_pos (by omega), if_pos (by omega), rd_at L (i - 1) (by omega), wrap_id (by omega) (by omega), if_pos (by omega)]
              · refine Ev.step (fun k => ?_) (Ev.now false)
                simp only [intrusionref05_Valid.l0]
                rw [if_pos (by omega), if_pos (by omega), rd_at L i hlt, if_neg (by omega), if_neg (by omega), if_neg (by omega), if_pos (by omega), hi1, if_pos (by omega), if_pos (by omega), rd_at L (i - 1) (by omega), wrap_id (x := (L[i - 1]'(by omega)).f1 + 2) (by omega) (by omega), if_pos (by omega)]
          · have hb : okAt L i = true := by rw [hdef]; simp [c1, c2, c3, c4]
            obtain ⟨e1, e2⟩ := key true hb rfl
            rw [hb, Bool.true_and]
            constructor
            · refine Ev.step (fun k => ?_) e1
              simp only [interval_Valid.l0]
              rw [if_pos (by omega), if_pos (by omega), if_pos (by omega), rd_at L i hlt, if_neg (by omega), if_neg (by omega), if_neg (by omega), if_neg (by omega), wrap_succ i (by omega)]
            · refine Ev.step (fun k => ?_) e2
              simp only [intrusionref05_Valid.l0]
              rw [if_pos (by omega), if_pos (by omega), rd_at L i hlt, if_neg (by omega), if_neg (by omega), if_neg (by omega), if_neg (by omega), wrap_succ i (by omega)]
        · have hb : okAt L i = false := by rw [hdef]; simp [c1, c2, c3]
          rw [hb, Bool.false_and]
          constructor
          · refine Ev.step (fun k => ?_) (Ev.now false)
            simp only [interval_Valid.l0]
            rw [if_pos (by omega), if_pos (by omega), if_pos (by omega), rd_at L i hlt, if_neg (by omega), if_neg (by omega), if_pos (by omega)]
          · refine Ev.step (fun k => ?_) (Ev.now false)
            simp only [intrusionref05_Valid.l0]
            rw [if_pos (by omega), if_pos (by omega), rd_at L i hlt, if_neg (by omega), if_neg (by omega), if_pos (by omega)]
      · have hb : okAt L i = false := by rw [hdef]; simp [c1, c2]
        rw [hb, Bool.false_and]
        constructor
        · refine Ev.step (fun k => ?_) (Ev.now false)
          simp only [interval_Valid.l0]
          rw [if_pos (by omega), if_pos (by omega), if_pos (by omega), rd_at L i hlt, if_neg (by omega), if_pos (by omega)]
        · refine Ev.step (fun k => ?_) (Ev.now false)
          simp only [intrusionref05_Valid.l0]
          rw [if_pos (by omega), if_pos (by omega), rd_at L i hlt, if_neg (by omega), if_pos (by omega)]
    · have hb : okAt L i = false := by rw [hdef]; simp [c1]
      rw [hb, Bool.false_and]
      constructor
      · refine Ev.step (fun k => ?_) (Ev.now false)
        simp only [interval_Valid.l0]
        rw [if_pos (by omega), if_pos (by omega), if_pos (by omega), rd_at L i hlt, if_pos (by omega)]
      · refine Ev.step (fun k => ?_) (Ev.now false)
        simp only [intrusionref05_Valid.l0]
        rw [if_pos (by omega), if_pos (by omega), rd_at L i hlt, if_pos (by omega)]
theorem valid_ev (L : List Sn) (hl : L.length < 8796093022208) (hq : ∀ x ∈ L, -9223372036854775808 ≤ x.f0 ∧ x.f1 ≤ 9223372036854775807) : Ev (fun k => interval_Valid.f k L) (okAll L) ∧ Ev (fun k => intrusionref05_Valid.f k L) (okAll L) := by
  have h := ev_valid L hl hq L.length 0 (by omega) (by omega) (by simp)
  have e : (List.range' 0 (L.length - 0)).all (okAt L) = okAll L := by unfold okAll; rw [Nat.sub_zero, List.range_eq_range']
  rw [e] at h
  exact ⟨Ev.congr (fun k => rfl) h.1, Ev.congr (fun k => rfl) h.2⟩
theorem can_ok {P : Int → Prop} {L : List Sn} (h : Can P L) : okAll L = true := by
  unfold okAll
  rw [List.all_eq_true]
  intro j hj
  have hj := List.mem_range.1 hj
  have hw := h.wf L[j] (List.getElem_mem hj)
  unfold okAt
  rw [dif_pos hj]
  simp only [Bool.and_eq_true, decide_eq_true_eq]
  refine ⟨hw.1, hw.2.1, hw.2.2, ?_⟩
  by_cases c : 0 < j
  · rw [dif_pos c]
    have hs : L = L.take j ++ L.drop j := (List.take_append_drop j L).symm
    have hc := h.1
    rw [hs, List.map_append, can_append] at hc
    have h1 := hc.2.1 (sp (L[j - 1]'(by omega))) (List.mem_map.2 ⟨_, by rw [List.mem_take_iff_getElem]; exact ⟨j - 1, by omega, rfl⟩, rfl⟩) (sp L[j]) (List.mem_map.2 ⟨_, by rw [drop_cons L j hj]; exact List.mem_cons_self .., rfl⟩)
    simpa [sp] using h1
  · rw [dif_neg c]
end Go.Proofs.Ytcgfpffgiimgmaa.Q
end

section
set_option linter.unusedVariables false
set_option linter.unusedSimpArgs false
namespace Go.Proofs.Ytcgfpffgiimgmaa.Q
open Go.RowKit Go.Proofs.YtcgfpffgiimgmaaW.PrintWords Go.Proofs.YtcgfpffgiimgmaaW.PrintLast Go.Proofs.YtcgfpffgiimgmaaW.PrintMore Go.Proofs.Ytcgfpffgiimgmaa.Canon
theorem sm_ge {l : List Sn} {lo n : Int} (c : CanFrom lo (l.map sp)) (h : SM l n) : lo ≤ n := c.ge h
theorem mx_spec (a b : Int) : a ≤ mx a b ∧ b ≤ mx a b ∧ (mx a b = a ∨ mx a b = b) := by unfold mx; split <;> omega
theorem mn_spec (a b : Int) : mn a b ≤ a ∧ mn a b ≤ b ∧ (mn a b = a ∨ mn a b = b) := by unfold mn; split <;> omega
theorem compl_fold (lo hi : Int) (hlo : 0 ≤ lo) (hhi : hi ≤ 4294967296) : ∀ (t : List Sn) (p nx : Int) (out : List Sn), CanFrom p (t.map sp) → 0 ≤ p → (∀ x ∈ t, x.f1 ≤ 4294967296) → lo ≤ nx → (nx = lo ∨ nx ≤ p) →
    ∃ r, (let s := t.foldl (complStep lo hi) (nx, out); addTo s.2 s.1 hi) = out ++ r ∧ CanFrom nx (r.map sp) ∧ (∀ x ∈ r, x.f1 ≤ 4294967296) ∧ r.length ≤ t.length + 1 ∧ ∀ n, SM r n ↔ nx ≤ n ∧ n ≤ hi ∧ ¬ SM t n
  | [], p, nx, out, _, _, _, _, _ => by
    by_cases h : nx ≤ hi
    · refine ⟨[(⟨nx, hi⟩ : Sn)], by simp [addTo, h], ⟨Int.le_refl _, h, trivial⟩, by simpa using hhi, by simp, fun n => ?_⟩
      rw [sm_cons, sm_nil]
      simp [sm_nil]
    · refine ⟨[], by simp [addTo, h], trivial, by simp, by simp, fun n => ?_⟩
      rw [sm_nil]
      constructor
      · exact False.elim
      · rintro ⟨h1, h2, _⟩; omega
  | x :: t, p, nx, out, c, hp, hm, hnx, hor => by
    obtain ⟨c1, c2, c3⟩ := c
    simp only [sp] at c1 c2 c3
    have hx := hm x (List.mem_cons_self ..)
    have ht := fun z hz => hm z (List.mem_cons_of_mem x hz)
    have hge : ∀ n, SM t n → x.f1 + 2 ≤ n := fun n h => sm_ge c3 h
    rw [List.foldl_cons]
    by_cases k1 : x.f1 < lo
    · have e : complStep lo hi (nx, out) x = (nx, out) := by unfold complStep; rw [if_pos k1]
      rw [e]
      obtain ⟨r, r1, r2, r3, r4, r5⟩ := compl_fold lo hi hlo hhi t (x.f1 + 2) nx out c3 (by omega) ht hnx (by
        rcases hor with h | h
        · exact .inl h
        · by_cases h2 : nx = lo
          · exact .inl h2
          · exact .inr (by omega))
      refine ⟨r, r1, r2, r3, by simp; omega, fun n => (r5 n).trans ?_⟩
      rw [sm_cons]
      constructor
      · rintro ⟨h1, h2, h3⟩
        exact ⟨h1, h2, fun h => h.elim (fun h => by omega) h3⟩
      · rintro ⟨h1, h2, h3⟩
        exact ⟨h1, h2, fun h => h3 (.inr h)⟩
    · by_cases k2 : x.f0 > hi
      · have e : complStep lo hi (nx, out) x = (nx, out) := by unfold complStep; rw [if_neg k1, if_pos k2]
        rw [e]
        obtain ⟨r, r1, r2, r3, r4, r5⟩ := compl_fold lo hi hlo hhi t (x.f1 + 2) nx out c3 (by omega) ht hnx (by
          rcases hor with h | h
          · exact .inl h
          · exact .inr (by omega))
        refine ⟨r, r1, r2, r3, by simp; omega, fun n => (r5 n).trans ?_⟩
        rw [sm_cons]
        constructor
        · rintro ⟨h1, h2, h3⟩
          exact ⟨h1, h2, fun h => h.elim (fun h => by omega) h3⟩
        · rintro ⟨h1, h2, h3⟩
          exact ⟨h1, h2, fun h => h3 (.inr h)⟩
      · have e : complStep lo hi (nx, out) x = (x.f1 + 1, addTo out nx (x.f0 - 1)) := by
          unfold complStep
          rw [if_neg k1, if_neg k2, wrap_id (by omega) (by omega), wrap_id (by omega) (by omega)]
        rw [e]
        obtain ⟨r, r1, r2, r3, r4, r5⟩ := compl_fold lo hi hlo hhi t (x.f1 + 2) (x.f1 + 1) (addTo out nx (x.f0 - 1)) c3 (by omega) ht (by omega) (.inr (by omega))
        have hnx2 : nx ≤ x.f1 + 1 := by rcases hor with h | h <;> omega
        by_cases k3 : nx ≤ x.f0 - 1
        · refine ⟨(⟨nx, x.f0 - 1⟩ : Sn) :: r, by rw [r1]; simp [addTo, k3], ⟨Int.le_refl _, k3, r2.mono (by simp [sp]; omega)⟩, ?_, by simp; omega, fun n => ?_⟩
          · intro z hz
            rcases List.mem_cons.1 hz with rfl | hz
            · show x.f0 - 1 ≤ 4294967296; omega
            · exact r3 z hz
          · rw [sm_cons, r5 n, sm_cons]
            constructor
            · rintro (⟨h1, h2⟩ | ⟨h1, h2, h3⟩)
              · have h2 : n ≤ x.f0 - 1 := h2
                refine ⟨h1, by omega, fun h => ?_⟩
                rcases h with h | h
                · omega
                · have := hge n h; omega
              · exact ⟨by omega, h2, fun h => h.elim (fun h => by omega) h3⟩
            · rintro ⟨h1, h2, h3⟩
              by_cases hn : n ≤ x.f0 - 1
              · exact .inl ⟨h1, hn⟩
              · refine .inr ⟨?_, h2, fun h => h3 (.inr h)⟩
                apply Classical.byContradiction
                intro hc
                exact h3 (.inl ⟨by omega, by omega⟩)
        · refine ⟨r, by rw [r1]; simp [addTo, k3], r2.mono hnx2, r3, by simp; omega, fun n => ?_⟩
          rw [r5 n, sm_cons]
          constructor
          · rintro ⟨h1, h2, h3⟩
            exact ⟨by omega, h2, fun h => h.elim (fun h => by omega) h3⟩
          · rintro ⟨h1, h2, h3⟩
            refine ⟨?_, h2, fun h => h3 (.inr h)⟩
            apply Classical.byContradiction
            intro hc
            exact h3 (.inl ⟨by omega, by omega⟩)
def ComplP (l : List Sn) (a1 a2 n : Int) : Prop := a1 ≤ n ∧ 0 ≤ n ∧ n ≤ a2 ∧ n ≤ 4294967296 ∧ ¬ SM l n
theorem compl_spec (l : List Sn) (a1 a2 : Int) (hl : l.length < 8796093022207) : ∃ r, Ev (fun k => interval_Complement.f k l a1 a2) r ∧ Can (ComplP l a1 a2) r ∧ r.length ≤ l.length + 1 := by
  obtain ⟨S, h1, h2, h3⟩ := normal_spec l (by omega)
  obtain ⟨m1, m2, m3⟩ := mx_spec a1 0
  obtain ⟨n1, n2, n3⟩ := mn_spec a2 4294967296
  obtain ⟨r, r1, r2, r3, r4, r5⟩ := compl_fold (mx a1 0) (mn a2 4294967296) m2 n2 S 0 (mx a1 0) [] h2.1 (Int.le_refl _) h2.2.1 (Int.le_refl _) (.inl rfl)
  refine ⟨r, ?_, ⟨r2.mono m2, r3, fun n => ?_⟩, by omega⟩
  · refine Ev.congr (fun k => rfl) (Ev.bind h1 (Ev.congr (fun k => ?_) (Ev.now r)))
    rw [if_pos (by omega)]
    exact congrArg some r1
  · rw [r5 n, h2.2.2 n]
    unfold ComplP
    constructor
    · rintro ⟨e1, e2, e3⟩
      exact ⟨by omega, by omega, by omega, by omega, fun h => e3 ⟨h, by omega, by omega⟩⟩
    · rintro ⟨e1, e2, e3, e4, e5⟩
      refine ⟨by omega, by omega, fun h => e5 h.1⟩
theorem ev_rcompl (S : List Sn) (hl : S.length < 8796093022200) (hw : ∀ x ∈ S, WF x) (hi : Int) (hhi : hi ≤ 4294967296) (hhi0 : -9223372036854775808 ≤ hi) : ∀ (d i : Nat) (lo p : Int) (out : List Sn), S.length - i = d → i ≤ S.length → 0 ≤ lo → 0 ≤ p → CanFrom p ((S.drop i).map sp) → out.length ≤ i →
    ∃ r, Ev (fun k => intrusionref05_Complement.l0 k lo hi S out (i : Int)) (out ++ r) ∧ CanFrom lo (r.map sp) ∧ (∀ x ∈ r, x.f1 ≤ 4294967296) ∧ r.length ≤ d + 1 ∧ ∀ n, SM r n ↔ lo ≤ n ∧ n ≤ hi ∧ ¬ SM (S.drop i) n := by
  intro d
  have hend : ∀ (i : Nat) (lo : Int) (out : List Sn), i ≤ S.length → out.length ≤ i → (∀ k, intrusionref05_Complement.l0 (k + 2) lo hi S out (i : Int) = if lo ≤ hi then (if out.length < 8796093022208 then some (out ++ [(⟨lo, hi⟩ : Sn)]) else none) else some out) →
      Ev (fun k => intrusionref05_Complement.l0 k lo hi S out (i : Int)) (out ++ if lo ≤ hi then [(⟨lo, hi⟩ : Sn)] else []) := by
    intro i lo out hi2 ho hk
    refine ⟨2, fun k hk2 => ?_⟩
    obtain ⟨m, rfl⟩ : ∃ m, k = m + 2 := ⟨k - 2, by omega⟩
    show intrusionref05_Complement.l0 (m + 2) lo hi S out (i : Int) = _
    rw [hk m]
    split
    · rw [if_pos (by omega)]
    · simp
  induction d with
  | zero =>
    intro i lo p out hd hi2 hlo hp hc ho
    have : i = S.length := by omega
    subst this
    refine ⟨if lo ≤ hi then [(⟨lo, hi⟩ : Sn)] else [], hend _ lo out (Nat.le_refl _) ho (fun k => ?_), ?_, ?_, ?_, fun n => ?_⟩
    · simp only [intrusionref05_Complement.l0, intrusionref05_Complement.j1]
      rw [if_neg (by omega), if_neg (by simp)]
    · split
      · exact ⟨Int.le_refl _, by assumption, trivial⟩
      · trivial
    · split
      · simpa using hhi
      · simp
    · split <;> simp
    · rw [List.drop_eq_nil_of_le (Nat.le_refl _)]
      split
      · rw [sm_cons, sm_nil]; simp [sm_nil]
      · simp only [sm_nil, not_false_eq_true, and_true]
        constructor
        · exact False.elim
        · rintro ⟨h1, h2⟩; omega
  | succ d ih =>
    intro i lo p out hd hi2 hlo hp hc ho
    have hlt : i < S.length := by omega
    obtain ⟨w1, w2, w3⟩ := hw S[i] (List.getElem_mem hlt)
    rw [drop_cons S i hlt, List.map_cons] at hc
    obtain ⟨c1, c2, c3⟩ := hc
    have hge : ∀ n, SM (S.drop (i + 1)) n → S[i].f1 + 2 ≤ n := fun n h => sm_ge c3 h
    by_cases hle : lo ≤ hi
    · obtain ⟨m1, m2, m3⟩ := mx_spec lo (S[i].f1 + 1)
      obtain ⟨n1, n2, n3⟩ := mn_spec hi (S[i].f0 - 1)
      have hstep : ∀ k, intrusionref05_Complement.l0 (k + 2) lo hi S out (i : Int) = if lo ≤ mn hi (S[i].f0 - 1) then (if out.length < 8796093022208 then intrusionref05_Complement.l0 k (mx lo (S[i].f1 + 1)) hi S (out ++ [(⟨lo, mn hi (S[i].f0 - 1)⟩ : Sn)]) ((i + 1 : Nat) : Int) else none) else intrusionref05_Complement.l0 k (mx lo (S[i].f1 + 1)) hi S out ((i + 1 : Nat) : Int) := by
        intro k
        simp only [intrusionref05_Complement.l0, intrusionref05_Complement.j1]
        rw [if_pos (by omega), if_pos (decide_eq_true hle), if_pos (by omega), if_pos (by omega), rd_at S i hlt, wrap_id (x := S[i].f0 - 1) (by omega) (by omega), wrap_id (x := S[i].f1 + 1) (by omega) (by omega), wrap_succ i (by omega)]
      have ev2 : ∀ {g : Nat → Option (List Sn)} {r : List Sn}, (∀ k, intrusionref05_Complement.l0 (k + 2) lo hi S out (i : Int) = g k) → Ev g r → Ev (fun k => intrusionref05_Complement.l0 k lo hi S out (i : Int)) r := by
        intro g r hg h
        obtain ⟨K, h⟩ := h
        refine ⟨K + 2, fun k hk => ?_⟩
        obtain ⟨m, rfl⟩ : ∃ m, k = m + 2 := ⟨k - 2, by omega⟩
        show intrusionref05_Complement.l0 (m + 2) lo hi S out (i : Int) = some r
        rw [hg m]
        exact h m (by omega)
      by_cases k3 : lo ≤ mn hi (S[i].f0 - 1)
      · obtain ⟨r, r1, r2, r3, r4, r5⟩ := ih (i + 1) (mx lo (S[i].f1 + 1)) (S[i].f1 + 2) (out ++ [(⟨lo, mn hi (S[i].f0 - 1)⟩ : Sn)]) (by omega) (by omega) (by omega) (by omega) c3 (by simp; omega)
        refine ⟨(⟨lo, mn hi (S[i].f0 - 1)⟩ : Sn) :: r, ev2 (g := fun k => intrusionref05_Complement.l0 k (mx lo (S[i].f1 + 1)) hi S (out ++ [(⟨lo, mn hi (S[i].f0 - 1)⟩ : Sn)]) ((i + 1 : Nat) : Int)) (fun k => by rw [hstep, if_pos k3, if_pos (by omega)]) (by simpa using r1), ⟨Int.le_refl _, k3, r2.mono (by simp [sp]; omega)⟩, ?_, by simp; omega, fun n => ?_⟩
        · intro z hz
          rcases List.mem_cons.1 hz with rfl | hz
          · show mn hi (S[i].f0 - 1) ≤ 4294967296; omega
          · exact r3 z hz
        · rw [sm_cons, r5 n, drop_cons S i hlt, sm_cons]
          constructor
          · rintro (⟨h1, h2⟩ | ⟨h1, h2, h3⟩)
            · have h2 : n ≤ mn hi (S[i].f0 - 1) := h2
              refine ⟨h1, by omega, fun h => ?_⟩
              rcases h with h | h
              · omega
              · have := hge n h; omega
            · exact ⟨by omega, h2, fun h => h.elim (fun h => by omega) h3⟩
          · rintro ⟨h1, h2, h3⟩
            by_cases hn : n ≤ S[i].f0 - 1
            · exact .inl ⟨h1, show n ≤ mn hi (S[i].f0 - 1) from by omega⟩
            · refine .inr ⟨?_, h2, fun h => h3 (.inr h)⟩
              apply Classical.byContradiction
              intro hc
              exact h3 (.inl ⟨by omega, by omega⟩)
      · obtain ⟨r, r1, r2, r3, r4, r5⟩ := ih (i + 1) (mx lo (S[i].f1 + 1)) (S[i].f1 + 2) out (by omega) (by omega) (by omega) (by omega) c3 (by omega)
        refine ⟨r, ev2 (g := fun k => intrusionref05_Complement.l0 k (mx lo (S[i].f1 + 1)) hi S out ((i + 1 : Nat) : Int)) (fun k => by rw [hstep, if_neg k3]) r1, r2.mono m1, r3, by omega, fun n => ?_⟩
        rw [r5 n, drop_cons S i hlt, sm_cons]
        constructor
        · rintro ⟨h1, h2, h3⟩
          exact ⟨by omega, h2, fun h => h.elim (fun h => by omega) h3⟩
        · rintro ⟨h1, h2, h3⟩
          refine ⟨?_, h2, fun h => h3 (.inr h)⟩
          apply Classical.byContradiction
          intro hc
          exact h3 (.inl ⟨by omega, by omega⟩)
    · refine ⟨if lo ≤ hi then [(⟨lo, hi⟩ : Sn)] else [], hend i lo out (by omega) ho (fun k => ?_), ?_, ?_, ?_, fun n => ?_⟩
      · simp only [intrusionref05_Complement.l0, intrusionref05_Complement.j1]
        rw [if_pos (by omega), if_neg (by simpa using hle)]
      · rw [if_neg hle]; trivial
      · rw [if_neg hle]; simp
      · rw [if_neg hle]; simp
      · rw [if_neg hle, sm_nil]
        constructor
        · exact False.elim
        · rintro ⟨h1, h2, _⟩; omega
theorem rcompl_spec (l : List Sn) (a1 a2 : Int) (ha : -9223372036854775808 ≤ a2) (hl : l.length < 8796093022200) : ∃ r, Ev (fun k => intrusionref05_Complement.f k l a1 a2) r ∧ Can (ComplP l a1 a2) r ∧ r.length ≤ l.length + 1 := by
  obtain ⟨S, h1, h2, h3⟩ := rnormal_spec l (by omega)
  obtain ⟨m1, m2, m3⟩ := mx_spec a1 0
  obtain ⟨n1, n2, n3⟩ := mn_spec a2 4294967296
  obtain ⟨r, r1, r2, r3, r4, r5⟩ := ev_rcompl S (by omega) h2.wf (mn a2 4294967296) n2 (by omega) S.length 0 (mx a1 0) 0 [] (by omega) (by omega) m2 (Int.le_refl _) h2.1 (by simp)
  refine ⟨r, Ev.congr (fun k => rfl) (Ev.bind h1 (by simpa using r1)), ⟨r2.mono m2, r3, fun n => ?_⟩, by omega⟩
  rw [r5 n, List.drop_zero, h2.2.2 n]
  unfold ComplP
  constructor
  · rintro ⟨e1, e2, e3⟩
    exact ⟨by omega, by omega, by omega, by omega, fun h => e3 ⟨h, by omega, by omega⟩⟩
  · rintro ⟨e1, e2, e3, e4, e5⟩
    refine ⟨by omega, by omega, fun h => e5 h.1⟩
end Go.Proofs.Ytcgfpffgiimgmaa.Q
end

section
set_option linter.unusedVariables false
set_option linter.unusedSimpArgs false
namespace Go.Proofs.Ytcgfpffgiimgmaa.Q
open Go.RowKit Go.Proofs.YtcgfpffgiimgmaaW.PrintWords Go.Proofs.YtcgfpffgiimgmaaW.PrintLast Go.Proofs.YtcgfpffgiimgmaaW.PrintMore Go.Proofs.Ytcgfpffgiimgmaa.Canon
def interP (x y : Sn) : List Sn := if mx x.f0 y.f0 ≤ mn x.f1 y.f1 then [(⟨mx x.f0 y.f0, mn x.f1 y.f1⟩ : Sn)] else []
theorem ev_inter (X Y : List Sn) (hX : X.length < 4000000000000) (hY : Y.length < 4000000000000) : ∀ (d i j : Nat) (p q : Int) (out : List Sn), X.length - i + (Y.length - j) = d → i ≤ X.length → j ≤ Y.length → out.length ≤ i + j → CanFrom p ((X.drop i).map sp) → CanFrom q ((Y.drop j).map sp) →
    ∃ r, Ev (fun k => interval_Intersect.l0 k X Y out (i : Int) (j : Int)) (out ++ r) ∧ CanFrom (max p q) (r.map sp) ∧ r.length ≤ d ∧ (∀ n, SM r n ↔ SM (X.drop i) n ∧ SM (Y.drop j) n) ∧ ∀ z ∈ r, ∃ x ∈ X.drop i, z.f1 ≤ x.f1 := by
  intro d
  induction d using Nat.strongRecOn with
  | _ d ih =>
    intro i j p q out hd hi hj ho cX cY
    by_cases hiX : i < X.length
    · by_cases hjY : j < Y.length
      · rw [drop_cons X i hiX, List.map_cons] at cX
        rw [drop_cons Y j hjY, List.map_cons] at cY
        obtain ⟨a1, a2, a3⟩ := cX
        obtain ⟨b1, b2, b3⟩ := cY
        simp only [sp] at a1 a2 a3 b1 b2 b3
        obtain ⟨m1, m2, m3⟩ := mx_spec X[i].f0 Y[j].f0
        obtain ⟨n1, n2, n3⟩ := mn_spec X[i].f1 Y[j].f1
        have gX : ∀ n, SM (X.drop (i + 1)) n → X[i].f1 + 2 ≤ n := fun n h => sm_ge a3 h
        have gY : ∀ n, SM (Y.drop (j + 1)) n → Y[j].f1 + 2 ≤ n := fun n h => sm_ge b3 h
        have hstep : ∀ k, interval_Intersect.l0 (k + 2) X Y out (i : Int) (j : Int) = if X[i].f1 < Y[j].f1 then interval_Intersect.l0 k X Y (out ++ interP X[i] Y[j]) ((i + 1 : Nat) : Int) (j : Int) else interval_Intersect.l0 k X Y (out ++ interP X[i] Y[j]) (i : Int) ((j + 1 : Nat) : Int) := by
          intro k
          simp only [interval_Intersect.l0, interval_Intersect.j1]
          rw [if_pos (by omega), if_pos (decide_eq_true (by omega)), if_pos (by omega), if_pos (by omega), if_pos (by omega), if_pos (by omega), rd_at X i hiX, rd_at Y j hjY, wrap_succ i (by omega), wrap_succ j (by omega)]
          unfold interP
          by_cases hc : mx X[i].f0 Y[j].f0 ≤ mn X[i].f1 Y[j].f1
          · rw [if_pos hc, if_pos hc, if_pos (by omega)]
            rfl
          · rw [if_neg hc, if_neg hc, List.append_nil]
        have ev2 : ∀ {g : Nat → Option (List Sn)} {r : List Sn}, (∀ k, interval_Intersect.l0 (k + 2) X Y out (i : Int) (j : Int) = g k) → Ev g r → Ev (fun k => interval_Intersect.l0 k X Y out (i : Int) (j : Int)) r := by
          intro g r hg h
          obtain ⟨K, h⟩ := h
          refine ⟨K + 2, fun k hk => ?_⟩
          obtain ⟨m, rfl⟩ : ∃ m, k = m + 2 := ⟨k - 2, by omega⟩
          show interval_Intersect.l0 (m + 2) X Y out (i : Int) (j : Int) = some r
          rw [hg m]
          exact h m (by omega)
        have hlen : (interP X[i] Y[j]).length ≤ 1 := by unfold interP; split <;> simp
        have hpm : ∀ n, SM (interP X[i] Y[j]) n ↔ (X[i].f0 ≤ n ∧ n ≤ X[i].f1) ∧ (Y[j].f0 ≤ n ∧ n ≤ Y[j].f1) := by
          intro n
          unfold interP
          split
          · rw [sm_cons, sm_nil, or_false]
            show mx X[i].f0 Y[j].f0 ≤ n ∧ n ≤ mn X[i].f1 Y[j].f1 ↔ _
            constructor
            · rintro ⟨h1, h2⟩; exact ⟨⟨by omega, by omega⟩, by omega, by omega⟩
            · rintro ⟨⟨h1, h2⟩, h3, h4⟩; exact ⟨by omega, by omega⟩
          · rw [sm_nil]
            constructor
            · exact False.elim
            · rintro ⟨⟨h1, h2⟩, h3, h4⟩; omega
        have hcan : ∀ (r : List Sn) (s : Int), CanFrom s (r.map sp) → max p q ≤ s → mn X[i].f1 Y[j].f1 + 2 ≤ s → CanFrom (max p q) ((interP X[i] Y[j] ++ r).map sp) := by
          intro r s hr h1 h2
          unfold interP
          split
          · rename_i hc
            exact ⟨by show max p q ≤ mx X[i].f0 Y[j].f0; omega, hc, hr.mono (by show mn X[i].f1 Y[j].f1 + 2 ≤ s; exact h2)⟩
          · exact hr.mono h1
        by_cases hlt : X[i].f1 < Y[j].f1
        · obtain ⟨r, r1, r2, r3, r4, r5⟩ := ih (d - 1) (by omega) (i + 1) j (X[i].f1 + 2) Y[j].f0 (out ++ interP X[i] Y[j]) (by omega) (by omega) hj (by rw [List.length_append]; omega) a3 (by rw [drop_cons Y j hjY, List.map_cons]; exact ⟨Int.le_refl _, b2, b3⟩)
          refine ⟨interP X[i] Y[j] ++ r, ev2 (g := fun k => interval_Intersect.l0 k X Y (out ++ interP X[i] Y[j]) ((i + 1 : Nat) : Int) (j : Int)) (fun k => by rw [hstep, if_pos hlt]) (by rw [← List.append_assoc]; exact r1), hcan r _ r2 (by omega) (by omega), by rw [List.length_append]; omega, fun n => ?_, ?_⟩
          · rw [sm_append, hpm, r4 n, drop_cons X i hiX, drop_cons Y j hjY, sm_cons, sm_cons]
            constructor
            · rintro (⟨h1, h2⟩ | ⟨h1, h2⟩)
              · exact ⟨.inl h1, .inl h2⟩
              · exact ⟨.inr h1, h2⟩
            · rintro ⟨h1 | h1, h2⟩
              · rcases h2 with h2 | h2
                · exact .inl ⟨h1, h2⟩
                · have := gY n h2; omega
              · exact .inr ⟨h1, h2⟩
          · intro z hz
            rw [drop_cons X i hiX]
            rcases List.mem_append.1 hz with hz | hz
            · unfold interP at hz
              split at hz
              · rw [List.mem_singleton.1 hz]; exact ⟨X[i], List.mem_cons_self .., by show mn X[i].f1 Y[j].f1 ≤ _; omega⟩
              · simp at hz
            · obtain ⟨x, hx, h⟩ := r5 z hz
              exact ⟨x, List.mem_cons_of_mem _ hx, h⟩
        · obtain ⟨r, r1, r2, r3, r4, r5⟩ := ih (d - 1) (by omega) i (j + 1) X[i].f0 (Y[j].f1 + 2) (out ++ interP X[i] Y[j]) (by omega) hi (by omega) (by rw [List.length_append]; omega) (by rw [drop_cons X i hiX, List.map_cons]; exact ⟨Int.le_refl _, a2, a3⟩) b3
          refine ⟨interP X[i] Y[j] ++ r, ev2 (g := fun k => interval_Intersect.l0 k X Y (out ++ interP X[i] Y[j]) (i : Int) ((j + 1 : Nat) : Int)) (fun k => by rw [hstep, if_neg hlt]) (by rw [← List.append_assoc]; exact r1), hcan r _ r2 (by omega) (by omega), by rw [List.length_append]; omega, fun n => ?_, ?_⟩
          · rw [sm_append, hpm, r4 n, drop_cons X i hiX, drop_cons Y j hjY, sm_cons, sm_cons]
            constructor
            · rintro (⟨h1, h2⟩ | ⟨h1, h2⟩)
              · exact ⟨.inl h1, .inl h2⟩
              · exact ⟨h1, .inr h2⟩
            · rintro ⟨h1, h2 | h2⟩
              · rcases h1 with h1 | h1
                · exact .inl ⟨h1, h2⟩
                · have := gX n h1; omega
              · exact .inr ⟨h1, h2⟩
          · intro z hz
            rw [drop_cons X i hiX]
            rcases List.mem_append.1 hz with hz | hz
            · unfold interP at hz
              split at hz
              · rw [List.mem_singleton.1 hz]; exact ⟨X[i], List.mem_cons_self .., by show mn X[i].f1 Y[j].f1 ≤ _; omega⟩
              · simp at hz
            · obtain ⟨x, hx, h⟩ := r5 z hz
              rw [drop_cons X i hiX] at hx
              exact ⟨x, hx, h⟩
      · have : j = Y.length := by omega
        subst this
        refine ⟨[], ⟨2, fun k hk => ?_⟩, trivial, by simp, fun n => ?_, by simp⟩
        · obtain ⟨m, rfl⟩ : ∃ m, k = m + 2 := ⟨k - 2, by omega⟩
          show interval_Intersect.l0 (m + 2) X Y out (i : Int) (Y.length : Int) = _
          simp only [interval_Intersect.l0, interval_Intersect.j1]
          rw [if_pos (by omega), if_neg (by simp), List.append_nil]
        · rw [List.drop_eq_nil_of_le (Nat.le_refl Y.length)]
          simp [sm_nil]
    · have : i = X.length := by omega
      subst this
      refine ⟨[], ⟨2, fun k hk => ?_⟩, trivial, by simp, fun n => ?_, by simp⟩
      · obtain ⟨m, rfl⟩ : ∃ m, k = m + 2 := ⟨k - 2, by omega⟩
        show interval_Intersect.l0 (m + 2) X Y out (X.length : Int) (j : Int) = _
        simp only [interval_Intersect.l0, interval_Intersect.j1]
        rw [if_neg (by omega), if_neg (by simp), List.append_nil]
      · rw [List.drop_eq_nil_of_le (Nat.le_refl X.length)]
        simp [sm_nil]
def InterP (a b : List Sn) (n : Int) : Prop := SM a n ∧ SM b n ∧ 0 ≤ n ∧ n ≤ 4294967296
theorem inter_spec (a b : List Sn) (ha : a.length < 4000000000000) (hb : b.length < 4000000000000) : ∃ r, Ev (fun k => interval_Intersect.f k a b) r ∧ Can (InterP a b) r ∧ r.length ≤ a.length + b.length := by
  obtain ⟨X, x1, x2, x3⟩ := normal_spec a (by omega)
  obtain ⟨Y, y1, y2, y3⟩ := normal_spec b (by omega)
  obtain ⟨r, r1, r2, r3, r4, r5⟩ := ev_inter X Y (by omega) (by omega) _ 0 0 0 0 [] rfl (by omega) (by omega) (by simp) x2.1 y2.1
  refine ⟨r, Ev.congr (fun k => rfl) (Ev.bind x1 (Ev.bind y1 (by simpa using r1))), ⟨r2, fun z hz => ?_, fun n => ?_⟩, by omega⟩
  · obtain ⟨x, hx, h⟩ := r5 z hz
    have := x2.2.1 x hx
    omega
  · rw [r4 n, List.drop_zero, List.drop_zero, x2.2.2 n, y2.2.2 n]
    unfold InterP
    constructor
    · rintro ⟨⟨h1, h2, h3⟩, h4, _, _⟩; exact ⟨h1, h4, h2, h3⟩
    · rintro ⟨h1, h2, h3, h4⟩; exact ⟨⟨h1, h3, h4⟩, h2, h3, h4⟩
end Go.Proofs.Ytcgfpffgiimgmaa.Q
end

section
set_option linter.unusedVariables false
set_option linter.unusedSimpArgs false
namespace Go.Proofs.Ytcgfpffgiimgmaa.Q
open Go.RowKit Go.Proofs.YtcgfpffgiimgmaaW.PrintWords Go.Proofs.YtcgfpffgiimgmaaW.PrintLast Go.Proofs.YtcgfpffgiimgmaaW.PrintMore Go.Proofs.Ytcgfpffgiimgmaa.Canon
theorem i64_bd {n : Int} (h : (Lit.int .i64 n).wf = true) : -9223372036854775808 ≤ n ∧ n ≤ 9223372036854775807 := by
  simp [Lit.wf, IntKind.min, IntKind.max, IntKind.signed, IntKind.bits] at h
  omega
def MinusP (a b : List Sn) (n : Int) : Prop := SM a n ∧ ¬ SM b n ∧ 0 ≤ n ∧ n ≤ 4294967296
theorem minus_spec (a b : List Sn) (ha : a.length < 2000000000000) (hb : b.length < 2000000000000) : ∃ r, Ev (fun k => interval_Minus.f k a b) r ∧ Can (MinusP a b) r ∧ r.length ≤ a.length + b.length + 1 := by
  obtain ⟨c, c1, c2, c3⟩ := compl_spec b 0 4294967296 (by omega)
  obtain ⟨r, r1, r2, r3⟩ := inter_spec a c (by omega) (by omega)
  refine ⟨r, Ev.congr (fun k => rfl) (Ev.bind c1 (Ev.bind r1 (Ev.now _))), r2.congr (fun n => ?_), by omega⟩
  unfold InterP MinusP
  rw [c2.2.2 n]
  unfold ComplP
  constructor
  · rintro ⟨h1, ⟨_, _, _, _, h2⟩, h3, h4⟩; exact ⟨h1, h2, h3, h4⟩
  · rintro ⟨h1, h2, h3, h4⟩; exact ⟨h1, ⟨h3, h3, h4, h4, h2⟩, h3, h4⟩
open Classical in
noncomputable def inB (l : List Sn) (n : Int) : Bool := decide (SM l n ∧ 0 ≤ n ∧ n ≤ 4294967296)
theorem inB_iff (l : List Sn) (n : Int) : inB l n = true ↔ SM l n ∧ 0 ≤ n ∧ n ≤ 4294967296 := by unfold inB; simp
theorem any_in (l : List Sn) (n : Int) : l.any (inSpan n) = true ↔ SM l n := by
  rw [sm_iff, List.any_eq_true]
  constructor
  · rintro ⟨x, hx, h⟩
    unfold inSpan at h
    simp at h
    exact ⟨x, hx, h.1, h.2⟩
  · rintro ⟨x, hx, h1, h2⟩
    exact ⟨x, hx, by simp [inSpan, h1, h2]⟩
theorem contains_eq (l : List Sn) (n : Int) : interval_Contains.f l n = some (inB l n) := by
  unfold interval_Contains.f inB
  congr 1
  rw [Bool.eq_iff_iff]
  simp only [Bool.and_eq_true, decide_eq_true_eq, any_in]
  constructor
  · rintro ⟨h1, h2, h3⟩; exact ⟨h3, h1, h2⟩
  · rintro ⟨h3, h1, h2⟩; exact ⟨h1, h2, h3⟩
theorem ev_rcont0 (L : List Sn) (n : Int) (hl : L.length < 8796093022208) (h0 : 0 ≤ n) (h1 : n ≤ 4294967296) : ∀ (d i : Nat), L.length - i = d → i ≤ L.length → Ev (fun k => intrusionref05_Contains.l0 k L n (i : Int)) (inB (L.drop i) n) := by
  intro d
  induction d with
  | zero =>
    intro i hd hi
    have : i = L.length := by omega
    subst this
    refine Ev.step (f := fun _ => some false) (fun k => ?_) ?_
    · simp only [intrusionref05_Contains.l0]; rw [if_neg (by omega)]
    · have : inB (L.drop L.length) n = false := by unfold inB; rw [List.drop_eq_nil_of_le (Nat.le_refl _)]; simp [sm_nil]
      rw [this]
      exact Ev.now _
  | succ d ih =>
    intro i hd hi
    have hlt : i < L.length := by omega
    have ih' := ih (i + 1) (by omega) (by omega)
    by_cases c : L[i].f0 ≤ n ∧ n ≤ L[i].f1
    · have : inB (L.drop i) n = true := (inB_iff _ _).2 ⟨by rw [drop_cons L i hlt]; exact (sm_cons _ _ _).2 (.inl c), h0, h1⟩
      rw [this]
      refine Ev.step (f := fun _ => some true) (fun k => ?_) (Ev.now _)
      simp only [intrusionref05_Contains.l0]
      rw [if_pos (by omega), if_pos (by omega), rd_at L i hlt, if_pos c.1, if_pos c.2]
    · have : inB (L.drop i) n = inB (L.drop (i + 1)) n := by
        unfold inB
        rw [drop_cons L i hlt]
        congr 1
        rw [sm_cons]
        simp only [eq_iff_iff]
        constructor
        · rintro ⟨h | h, h2⟩
          · exact absurd h c
          · exact ⟨h, h2⟩
        · rintro ⟨h, h2⟩; exact ⟨.inr h, h2⟩
      rw [this]
      refine Ev.step (fun k => ?_) ih'
      simp only [intrusionref05_Contains.l0]
      rw [if_pos (by omega), if_pos (by omega), rd_at L i hlt, wrap_succ i (by omega)]
      by_cases c1 : L[i].f0 ≤ n
      · rw [if_pos c1, if_neg (fun h => c ⟨c1, h⟩)]
      · rw [if_neg c1]
theorem ev_same0 (L : List Sn) (hl : L.length < 8796093022208) : ∀ (d i : Nat), L.length - i = d → i ≤ L.length → Ev (fun k => intrusionlaw05_same.l0 k L L (L.length : Int) (i : Int)) true := by
  intro d
  induction d with
  | zero =>
    intro i hd hi
    have : i = L.length := by omega
    subst this
    refine Ev.step (f := fun _ => some true) (fun k => ?_) (Ev.now _)
    simp only [intrusionlaw05_same.l0]; rw [if_neg (by omega)]
  | succ d ih =>
    intro i hd hi
    have hlt : i < L.length := by omega
    refine Ev.step (fun k => ?_) (ih (i + 1) (by omega) (by omega))
    simp only [intrusionlaw05_same.l0]
    rw [if_pos (by omega), if_pos (by omega), if_pos (by omega), if_pos (by omega), wrap_succ i (by omega)]
    simp
theorem same_ev (L : List Sn) (hl : L.length < 8796093022208) : Ev (fun k => intrusionlaw05_same.f k L L) true := by
  have h := ev_same0 L hl L.length 0 (by omega) (by omega)
  refine Ev.congr (fun k => ?_) h
  unfold intrusionlaw05_same.f
  rw [if_pos rfl]
  rfl
theorem awake_ev : Ev (fun k => intrusionlaw05_awake.f k) true := by
  obtain ⟨r1, e1, c1, _⟩ := normal_spec [(⟨5, 7⟩ : Sn), ⟨1, 2⟩, ⟨3, 3⟩, ⟨9, 8⟩] (by decide)
  obtain ⟨r2, e2, c2, _⟩ := compl_spec [(⟨3, 5⟩ : Sn)] 0 9 (by decide)
  obtain ⟨r3, e3, c3, _⟩ := minus_spec [(⟨0, 9⟩ : Sn)] [(⟨3, 3⟩ : Sn)] (by decide) (by decide)
  have h1 : r1 = [(⟨1, 3⟩ : Sn), ⟨5, 7⟩] := c1.uniq ⟨by simp [CanFrom, sp], by simp, fun n => by
    simp only [sm_cons, sm_nil, or_false]
    omega⟩
  have h2 : r2 = [(⟨0, 2⟩ : Sn), ⟨6, 9⟩] := c2.uniq ⟨by simp [CanFrom, sp], by simp, fun n => by
    unfold ComplP
    simp only [sm_cons, sm_nil, or_false]
    omega⟩
  have h3 : r3 = [(⟨0, 2⟩ : Sn), ⟨4, 9⟩] := c3.uniq ⟨by simp [CanFrom, sp], by simp, fun n => by
    unfold MinusP
    simp only [sm_cons, sm_nil, or_false]
    omega⟩
  subst h1 h2 h3
  have hn : Can (SM [(⟨0, 2⟩ : Sn), ⟨4, 9⟩]) [(⟨0, 2⟩ : Sn), ⟨4, 9⟩] := ⟨by simp [CanFrom, sp], by simp, fun n => Iff.rfl⟩
  obtain ⟨r4, e4, c4, _⟩ := count_spec [(⟨0, 2⟩ : Sn), ⟨4, 9⟩] (by decide)
  have h4 : r4 = [(⟨0, 2⟩ : Sn), ⟨4, 9⟩] := e4.uniq ⟨by simp [CanFrom, sp], by simp, fun n => by
    simp only [sm_cons, sm_nil, or_false]
    omega⟩
  subst h4
  have e5 := (valid_ev [(⟨0, 2⟩ : Sn), ⟨4, 9⟩] (by decide) (by simp)).1
  rw [can_ok hn] at e5
  have k1 : inB [(⟨0, 2⟩ : Sn), ⟨4, 9⟩] 4 = true := by unfold inB; simp [sm_cons, sm_nil]
  have k2 : inB [(⟨0, 2⟩ : Sn), ⟨4, 9⟩] 3 = false := by unfold inB; simp [sm_cons, sm_nil]
  unfold intrusionlaw05_awake.f
  refine Ev.bind e1 (Ev.bind e2 (Ev.bind e3 (Ev.bind (same_ev _ (by decide)) ?_)))
  simp only [if_true]
  refine Ev.bind (same_ev _ (by decide)) ?_
  simp only [if_true]
  refine Ev.bind c4 ?_
  rw [show total [(⟨0, 2⟩ : Sn), ⟨4, 9⟩] = 9 from rfl]
  simp only [if_true]
  refine Ev.bind e5 ?_
  simp only [if_true, contains_eq, k1, k2, Option.bind_some]
  exact Ev.now _
end Go.Proofs.Ytcgfpffgiimgmaa.Q
end

section
set_option linter.unusedVariables false
set_option linter.unusedSimpArgs false
namespace Go.Proofs.Ytcgfpffgiimgmaa.Pure
open Go.RowKit Go.Proofs.Ytcgfpffgiimgmaa.Q Go.Proofs.YtcgfpffgiimgmaaW.PrintWords Go.Proofs.YtcgfpffgiimgmaaW.PrintLast Go.Proofs.YtcgfpffgiimgmaaW.PrintMore
theorem IntervalComplements : ∀ (l0 : List (Sn)) (a1 : Int) (a2 : Int), l0.length ≤ maxLen → (∀ x ∈ l0, q52 x) → (Lit.int .i64 a1).wf = true → (Lit.int .i64 a2).wf = true → ∃ k, intrusionlaw05_IntervalComplements.f k l0 a1 a2 = some true := by
  intro l0 a1 a2 hm hq w1 w2
  refine Ev.rounds (g := fun k => intrusionlaw05_IntervalComplements.f k l0 a1 a2) ?_
  unfold intrusionlaw05_IntervalComplements.f intrusionlaw05_large.f
  simp only [Option.bind_some]
  by_cases h : (l0.length : Int) > 60
  · simp only [h, decide_true, if_true]
    exact Ev.bind awake_ev (Ev.now _)
  · simp only [h, decide_false, Bool.false_eq_true, if_false]
    obtain ⟨r, r1, r2, r3⟩ := compl_spec l0 a1 a2 (by omega)
    obtain ⟨q, q1, q2, q3⟩ := rcompl_spec l0 a1 a2 (i64_bd w2).1 (by omega)
    have e1 := q2.uniq r2
    subst e1
    refine Ev.bind r1 (Ev.bind q1 (Ev.bind (same_ev _ (by omega)) ?_))
    simp only [if_true]
    exact Ev.bind awake_ev (Ev.now _)
end Go.Proofs.Ytcgfpffgiimgmaa.Pure
end

section
namespace Go.Proofs.Ytcgfpffgiimgmaa.intervalComplements
open Go.ChangeShapes Go.WideShapes Go.ChangeAt Go.RowKit Go.Proofs.YtcgfpffgiimgmaaW.PrintWords Go.Proofs.Ytcgfpffgiimgmaa.Read Go.Proofs.Ytcgfpffgiimgmaa.Q
open Go.ChangeMaps (open_string shut_string)
set_option linter.unusedVariables false
theorem own : ownKnob Try.prog.godebug = none := by kernel_rfl
theorem laidOut : laidOutB Try.prog = true := by kernel_rfl
set_option maxRecDepth 100000 in
theorem lifted (os : Os) (started : os.Started) (H : Type) (enc : TypeId × Value → H) :
    ReturnsInHanded {} Try.checked os 4 .any (Rows.intervalComplementsSpec.pre6 enc Try.prog Try.f4 Rows.intervalComplementsRow.domain false) (Rows.intervalComplementsSpec.post enc Try.prog Try.f4 false true false false) := by
  refine returnsInHanded_of_change_sized (C := Try.checked) own started (by kernel_rfl) Try.func4
    (ChangeSpec.witness6 (enc := enc) (C := Try.checked) false ⟨#[], #[.slice none 0 0, .int .i64 0, .int .i64 0], []⟩ 8 (by kernel_rfl) (by kernel_rfl) (by kernel_rfl) (by kernel_rfl)) ?_
  intro W base args ds gs before hval0 hW hcnd hsz0 _
  have hsz : (DataW.weightsEach Try.prog (Try.f4.params.toList ++ Rows.intervalComplementsSpec.plain.varTypes Try.prog) (ds ++ gs)).all (· ≤ reachBytes) = true := hsz0
  have hval : ∀ (j : Nat) t v, Try.f4.params[j]? = some t → args[j]? = some v → Value.okWide Try.prog W .any base t v := hval0
  have hW' := hW
  obtain ⟨p, q, hA0, hV, rfl, hfz, hnd⟩ := hW
  have hA : DataW.TrodAll enc Try.prog W 0 (fun _ => true) true Try.f4.params.toList args.toList ds p := hA0
  rw [Try.params4] at hA hval hsz
  obtain ⟨v0, vs0, d0, ds0, p0, q0, hargs, rfl, rfl, h0, r0⟩ := trodAll_cons hA
  obtain ⟨v1, vs1, d1, ds1, p1, q1, rfl, rfl, rfl, h1, r1⟩ := trodAll_cons r0
  obtain ⟨v2, vs2, d2, ds2, p2, q2, rfl, rfl, rfl, h2, r2⟩ := trodAll_cons r1
  obtain ⟨rfl, rfl, rfl⟩ := trodAll_nil r2
  obtain rfl : args = #[v0, v1, v2] := by cases args; simp_all
  obtain ⟨rfl, rfl⟩ := trodVars_none hV
  obtain ⟨a0, len0, cap0, rfl⟩ := okWide_slice Try.underlying22 (hval 0 22 v0 rfl rfl)
  have k0_ := h0
  have lt0 : ∀ x ∈ p0, x.block < W.heap.size := by obtain ⟨m, hm⟩ := k0_; exact DataW.trod_lt m _ _ _ hm
  obtain ⟨fuel0, hf0⟩ := h0
  obtain ⟨l0, ⟨A0, c0, hcs0, hle0, hC0⟩, hm0, hq0⟩ := (reads_slice Try.underlying22 (by kernel_rfl) (reads_k52 W) : Reads Try.prog W (Kd.slice 52 k52) _ 22) H enc fuel0 _ _ hf0
  simp [Value.cells] at hcs0
  obtain ⟨rfl, rfl, rfl⟩ := hcs0
  obtain ⟨a1, rfl, rfl, rfl, w1⟩ := open_int Try.underlying3 (hval 1 3 v1 rfl rfl) h1
  obtain ⟨a2, rfl, rfl, rfl, w2⟩ := open_int Try.underlying3 (hval 2 3 v2 rfl rfl) h2
  clear hA0 hval0 hsz0 hsz
  obtain ⟨k, hk⟩ := Pure.IntervalComplements l0 a1 a2 hm0 hq0 w1 w2
  refine (intrusionlaw05_IntervalComplements.calls k _ _ l0 a1 a2 true W hC0 hle0 hk).mono fun e W' he => ?_
  obtain ⟨rfl, bel⟩ := he
  exact ⟨_, rfl, _, _, _, [], _, [], hW', trodAll_mk1 (shut_bool Try.underlying4 _), (trodAll_cons_mk (Below.trod laidOut (by kernel_rfl) (of_decide_eq_true (by kernel_rfl)) k0_ bel lt0) (trodAll_cons_mk (shut_int Try.underlying3 w1) (trodAll_cons_mk (shut_int Try.underlying3 w2) trodAll_mk0))), rfl, bel.frame _, fun h => by cases h⟩
theorem over : Rows.intervalComplementsRow.holds Try.pinned (OpenSpec.ofChange Rows.intervalComplementsSpec) :=
  OpenClaim.holds_of_wide 4 Try.f4 rfl rfl rfl rfl rfl rfl rfl ⟨rfl, rfl, rfl, rfl, rfl⟩ rfl rfl rfl rfl rfl (by kernel_rfl) Try.func4 (by kernel_rfl)
    (of_decide_eq_true (by kernel_rfl)) (by unfold Func.isWrapper; first | (rw [if_pos (by decide +kernel)]; kernel_rfl) | (rw [if_neg (by decide +kernel)]; exact ⟨rfl, rfl⟩))
    (fun os started H enc _ => lifted os started H enc)
theorem proved : Rows.IntervalComplementsSaid := over
#print axioms proved
end Go.Proofs.Ytcgfpffgiimgmaa.intervalComplements
namespace Go.Proofs.Ytcgfpffgiimgmaa
theorem intervalComplements_holds : Rows.IntervalComplementsSaid := intervalComplements.proved
end Go.Proofs.Ytcgfpffgiimgmaa
end
