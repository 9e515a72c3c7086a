/- The law AddrsetAlgebra answers true for every input and leaves its arguments as they were. No condition. (Part 4 of 5: the kit's printed words and walks, hand-made contracts and plain laws, joined in build order, without what the theorem does not reach.) -/
import Derived.Shelf.Abstract
import Derived.Laws.EntriesVeiled
import Derived.Deep.Slices
import Derived.ChangeArms
import Derived.WideShapes
import Derived.DataElems
import Derived.Test.YtcgfpffgiimgmaaGAddrsetAlgebra3
section
namespace Go.Proofs.Ytcgfpffgiimgmaa.Q
open Go.RowKit Go.Proofs.YtcgfpffgiimgmaaW.PrintWords Go.Proofs.YtcgfpffgiimgmaaW.PrintLast Go.Proofs.YtcgfpffgiimgmaaW.PrintMore
attribute [local go_sem] max2_int min2_int max_two min_two max_three min_three max_four min_four
set_option linter.unusedVariables false
set_option linter.unusedSimpArgs false
mutual
def addrset_without.j0 : Nat → Bool → Bool → Int → Int → Bool → Int → Int → Bool → Int → Int → Bool → Int → Int → Option ((List (S66)))
  | 0, _, _, _, _, _, _, _, _, _, _, _, _, _ => none
  | k + 1, x32, x779000, x779001, x779002, x779003, x779004, x779005, x780000, x780001, x780002, x780003, x780004, x780005 => if x32 = true then (some (([(⟨(⟨x779000, x779001, x779002⟩ : S36), (⟨x779003, x779004, x779005⟩ : S36)⟩ : S66)] : List (S66)))) else ((address_Compare.f x779000 x779001 x779002 x780000 x780001 x780002).bind fun t785 => (if t785 < 0 then ((address_Previous.f x780000 x780001 x780002).bind fun bt786 => (if ([] : List (S66)).length < 2932031007402 then (addrset_without.j1 k (([] : List (S66)) ++ [(⟨(⟨x779000, x779001, x779002⟩ : S36), (⟨bt786.1, bt786.2.1, bt786.2.2.1⟩ : S36)⟩ : S66)]) x779000 x779001 x779002 x779003 x779004 x779005 x780000 x780001 x780002 x780003 x780004 x780005) else (none))) else (addrset_without.j1 k ([] : List (S66)) x779000 x779001 x779002 x779003 x779004 x779005 x780000 x780001 x780002 x780003 x780004 x780005)))
def addrset_without.j1 : Nat → List (S66) → Bool → Int → Int → Bool → Int → Int → Bool → Int → Int → Bool → Int → Int → Option ((List (S66)))
  | 0, _, _, _, _, _, _, _, _, _, _, _, _, _ => none
  | k + 1, x5, x779000, x779001, x779002, x779003, x779004, x779005, x780000, x780001, x780002, x780003, x780004, x780005 => (address_Compare.f x780003 x780004 x780005 x779003 x779004 x779005).bind fun t794 => (if t794 < 0 then ((address_Next.f x780003 x780004 x780005).bind fun bt795 => (if x5.length < 2932031007402 then (some (x5 ++ [(⟨(⟨bt795.1, bt795.2.1, bt795.2.2.1⟩ : S36), (⟨x779003, x779004, x779005⟩ : S36)⟩ : S66)])) else (none))) else (some x5))
end
def addrset_without.f (k : Nat) (a0_0 : Bool) (a0_1 : Int) (a0_2 : Int) (a0_3 : Bool) (a0_4 : Int) (a0_5 : Int) (a1_0 : Bool) (a1_1 : Int) (a1_2 : Int) (a1_3 : Bool) (a1_4 : Int) (a1_5 : Int) : Option ((List (S66))) := if (a0_0 != a1_0) = true then (addrset_without.j0 k true a0_0 a0_1 a0_2 a0_3 a0_4 a0_5 a1_0 a1_1 a1_2 a1_3 a1_4 a1_5) else ((address_Compare.f a1_3 a1_4 a1_5 a0_0 a0_1 a0_2).bind fun t780 => (if t780 < 0 then (addrset_without.j0 k true a0_0 a0_1 a0_2 a0_3 a0_4 a0_5 a1_0 a1_1 a1_2 a1_3 a1_4 a1_5) else ((address_Compare.f a0_3 a0_4 a0_5 a1_0 a1_1 a1_2).bind fun t781 => (addrset_without.j0 k (decide (t781 < 0)) a0_0 a0_1 a0_2 a0_3 a0_4 a0_5 a1_0 a1_1 a1_2 a1_3 a1_4 a1_5))))
theorem addrset_without.mono_l : ∀ k, (∀ y0 y1 y2 y3 y4 y5 y6 y7 y8 y9 y10 y11 y12, LeO (addrset_without.j0 k y0 y1 y2 y3 y4 y5 y6 y7 y8 y9 y10 y11 y12) (addrset_without.j0 (k + 1) y0 y1 y2 y3 y4 y5 y6 y7 y8 y9 y10 y11 y12)) ∧ (∀ y0 y1 y2 y3 y4 y5 y6 y7 y8 y9 y10 y11 y12, LeO (addrset_without.j1 k y0 y1 y2 y3 y4 y5 y6 y7 y8 y9 y10 y11 y12) (addrset_without.j1 (k + 1) y0 y1 y2 y3 y4 y5 y6 y7 y8 y9 y10 y11 y12))
  | 0 => ⟨fun _ _ _ _ _ _ _ _ _ _ _ _ _ r h => by simp [addrset_without.j0] at h, fun _ _ _ _ _ _ _ _ _ _ _ _ _ r h => by simp [addrset_without.j1] at h⟩
  | k + 1 => by
    obtain ⟨ih0, ih1⟩ := addrset_without.mono_l k
    refine ⟨?_, ?_⟩
    · intro y0 y1 y2 y3 y4 y5 y6 y7 y8 y9 y10 y11 y12
      unfold addrset_without.j0
      repeat' first
      | (with_reducible exact ih0 _ _ _ _ _ _ _ _ _ _ _ _ _)
      | (with_reducible exact ih1 _ _ _ _ _ _ _ _ _ _ _ _ _)
      | (with_reducible exact LeO.refl _)
      | (with_reducible exact LeO.none _)
      | (with_reducible refine LeO.ite ?_ ?_)
      | (with_reducible refine LeO.bind ?_ (fun _ => ?_))
      | exact ih0 _ _ _ _ _ _ _ _ _ _ _ _ _
      | exact ih1 _ _ _ _ _ _ _ _ _ _ _ _ _
      | exact LeO.none _
      | refine LeO.ite ?_ ?_
      | refine LeO.bind ?_ (fun _ => ?_)
    · intro y0 y1 y2 y3 y4 y5 y6 y7 y8 y9 y10 y11 y12
      unfold addrset_without.j1
      repeat' first
      | (with_reducible exact ih0 _ _ _ _ _ _ _ _ _ _ _ _ _)
      | (with_reducible exact ih1 _ _ _ _ _ _ _ _ _ _ _ _ _)
      | (with_reducible exact LeO.refl _)
      | (with_reducible exact LeO.none _)
      | (with_reducible refine LeO.ite ?_ ?_)
      | (with_reducible refine LeO.bind ?_ (fun _ => ?_))
      | exact ih0 _ _ _ _ _ _ _ _ _ _ _ _ _
      | exact ih1 _ _ _ _ _ _ _ _ _ _ _ _ _
      | exact LeO.none _
      | refine LeO.ite ?_ ?_
      | refine LeO.bind ?_ (fun _ => ?_)
theorem addrset_without.mono : ∀ a0 a1 a2 a3 a4 a5 a6 a7 a8 a9 a10 a11 k, LeO (addrset_without.f k a0 a1 a2 a3 a4 a5 a6 a7 a8 a9 a10 a11) (addrset_without.f (k + 1) a0 a1 a2 a3 a4 a5 a6 a7 a8 a9 a10 a11) := by
  intro a0 a1 a2 a3 a4 a5 a6 a7 a8 a9 a10 a11 k
  obtain ⟨ih0, ih1⟩ := addrset_without.mono_l k
  unfold addrset_without.f
  repeat' first
      | (with_reducible exact ih0 _ _ _ _ _ _ _ _ _ _ _ _ _)
      | (with_reducible exact ih1 _ _ _ _ _ _ _ _ _ _ _ _ _)
      | (with_reducible exact LeO.refl _)
      | (with_reducible exact LeO.none _)
      | (with_reducible refine LeO.ite ?_ ?_)
      | (with_reducible refine LeO.bind ?_ (fun _ => ?_))
      | exact ih0 _ _ _ _ _ _ _ _ _ _ _ _ _
      | exact ih1 _ _ _ _ _ _ _ _ _ _ _ _ _
      | exact LeO.none _
      | refine LeO.ite ?_ ?_
      | refine LeO.bind ?_ (fun _ => ?_)
set_option maxHeartbeats 8000000 in
set_option maxRecDepth 100000 in
theorem addrset_without.calls (k : Nat) (a0_0 : Bool) (a0_1 : Int) (a0_2 : Int) (a0_3 : Bool) (a0_4 : Int) (a0_5 : Int) (a1_0 : Bool) (a1_1 : Int) (a1_2 : Int) (a1_3 : Bool) (a1_4 : Int) (a1_5 : Int) (r : List (S66)) (w : World) (h : addrset_without.f k a0_0 a0_1 a0_2 a0_3 a0_4 a0_5 a1_0 a1_1 a1_2 a1_3 a1_4 a1_5 = some r) :
 Calls Try.prog 96 #[.agg #[.bool a0_0, .int .u64 a0_1, .int .u64 a0_2, .bool a0_3, .int .u64 a0_4, .int .u64 a0_5], .agg #[.bool a1_0, .int .u64 a1_1, .int .u64 a1_2, .bool a1_3, .int .u64 a1_4, .int .u64 a1_5]] w fun e w' => ∃ v0_ : Value, e = .returned (v0_) ∧ Kd.R k66 66 w' w.heap.size (fun _ => True) v0_ r ∧ Below w.heap.size w w' := by
 have hu66 := Try.underlying66
 have hu36 := Try.underlying36
 have HB := Aside0.mk (Below.refl w.heap.size w)
 have H : (if (a0_0 != a1_0) = true then (addrset_without.j0 k true a0_0 a0_1 a0_2 a0_3 a0_4 a0_5 a1_0 a1_1 a1_2 a1_3 a1_4 a1_5) else ((address_Compare.f a1_3 a1_4 a1_5 a0_0 a0_1 a0_2).bind fun t780 => (if t780 < 0 then (addrset_without.j0 k true a0_0 a0_1 a0_2 a0_3 a0_4 a0_5 a1_0 a1_1 a1_2 a1_3 a1_4 a1_5) else ((address_Compare.f a0_3 a0_4 a0_5 a1_0 a1_1 a1_2).bind fun t781 => (addrset_without.j0 k (decide (t781 < 0)) a0_0 a0_1 a0_2 a0_3 a0_4 a0_5 a1_0 a1_1 a1_2 a1_3 a1_4 a1_5))))) = some r := h
 clear h
 have HC3 := Aside0.mk H
 clear H
 go_enter Try.func96, Try.ntmps96
 go_upto_region 1 with (first | ((with_reducible refine gate_dst (N := 2) rfl ?_); refine zx 2 #[.bool a0_0, .int .u64 a0_1, .int .u64 a0_2, .bool a0_3, .int .u64 a0_4, .int .u64 a0_5] 66 ?_; intro gb778 hg w4 hbox hb; have BK778 := Aside0.mk (hbox); have GW778 := Aside0.mk ((by rw [hg]; exact (below_size (zB HB)) : w.heap.size ≤ gb778)); have GE778 := Aside0.mk ((by rw [hg]; exact (below_size (zB HB)) : w.heap.size ≤ gb778)); replace HB := Aside0.mk (below_step (zB HB) hb); clear hb hbox hg) | ((with_reducible refine gate_dst (N := 3) rfl ?_); refine zx 3 #[.bool a1_0, .int .u64 a1_1, .int .u64 a1_2, .bool a1_3, .int .u64 a1_4, .int .u64 a1_5] 66 ?_; intro gb779 hg w5 hbox hb; have BK779 := Aside0.mk (hbox); have GW779 := Aside0.mk ((by rw [hg]; exact (below_size (zB HB)) : w.heap.size ≤ gb779)); have GE779 := Aside0.mk ((by rw [hg]; exact (below_size (zB HB)) : w.heap.size ≤ gb779)); replace HB := Aside0.mk (below_step (zB HB) hb); have NB778_779 := Aside0.mk ((by rw [hg]; exact Nat.ne_of_lt (blk_lt (g := gb778) (o := .cells #[.bool a0_0, .int .u64 a0_1, .int .u64 a0_2, .bool a0_3, .int .u64 a0_4, .int .u64 a0_5] 66 (0, 0)) (zK BK778)) : gb778 ≠ gb779)); have NB779_778 := Aside0.mk ((by rw [hg]; exact Nat.ne_of_gt (blk_lt (g := gb778) (o := .cells #[.bool a0_0, .int .u64 a0_1, .int .u64 a0_2, .bool a0_3, .int .u64 a0_4, .int .u64 a0_5] 66 (0, 0)) (zK BK778)) : gb779 ≠ gb778)); replace BK778 := Aside0.mk (blk_below (g := gb778) (o := .cells #[.bool a0_0, .int .u64 a0_1, .int .u64 a0_2, .bool a0_3, .int .u64 a0_4, .int .u64 a0_5] 66 (0, 0)) (zK BK778) hb); clear hb hbox hg))
 (try simp only [Act.put, List.setIfInBounds_toArray, List.set_cons_zero, List.set_cons_succ])
 go_cut [32] (fun v32 wc => ∃ (kq : Nat) (x32_2 : Bool), v32 = .bool x32_2 ∧ Aside0 (addrset_without.j0 kq x32_2 a0_0 a0_1 a0_2 a0_3 a0_4 a0_5 a1_0 a1_1 a1_2 a1_3 a1_4 a1_5 = some r) ∧ Aside0 (kq ≤ k) ∧ Aside0 (wc.heap[gb778]? = some (.cells #[.bool a0_0, .int .u64 a0_1, .int .u64 a0_2, .bool a0_3, .int .u64 a0_4, .int .u64 a0_5] 66 (0, 0))) ∧ Aside0 (wc.heap[gb779]? = some (.cells #[.bool a1_0, .int .u64 a1_1, .int .u64 a1_2, .bool a1_3, .int .u64 a1_4, .int .u64 a1_5] 66 (0, 0))) ∧ Aside0 (Below w.heap.size w wc))
 case first =>
  have H := HC3.out
  clear HC3
  by_cases c6 : (a0_0 != a1_0) = true
  · rw [if_pos c6] at H
    have c6b0 : (a0_0 != a1_0) = true := c6
    (try (have c6b1 : decide (a0_0 = a1_0) = false := by first | (simpa using c6) | exact decide_eq_true (Decidable.not_not.1 (fun hn => c6 (bne_iff_ne.2 hn))) | exact beq_iff_eq.2 (Decidable.not_not.1 (fun hn => c6 (bne_iff_ne.2 hn))) | exact decide_eq_false (bne_iff_ne.1 c6) | exact beq_eq_false_iff_ne.2 (bne_iff_ne.1 c6) | exact bne_iff_ne.1 c6))
    (try (have c6b2 : (a0_0 == a1_0) = false := by first | (simpa using c6) | exact decide_eq_true (Decidable.not_not.1 (fun hn => c6 (bne_iff_ne.2 hn))) | exact beq_iff_eq.2 (Decidable.not_not.1 (fun hn => c6 (bne_iff_ne.2 hn))) | exact decide_eq_false (bne_iff_ne.1 c6) | exact beq_eq_false_iff_ne.2 (bne_iff_ne.1 c6) | exact bne_iff_ne.1 c6))
    (try (have c6b3 : ¬ (a0_0 = a1_0) := by first | (simpa using c6) | exact decide_eq_true (Decidable.not_not.1 (fun hn => c6 (bne_iff_ne.2 hn))) | exact beq_iff_eq.2 (Decidable.not_not.1 (fun hn => c6 (bne_iff_ne.2 hn))) | exact decide_eq_false (bne_iff_ne.1 c6) | exact beq_eq_false_iff_ne.2 (bne_iff_ne.1 c6) | exact bne_iff_ne.1 c6))
    clear c6
    (first | rw [c6b0] | (simp only [i64_w, i32_w]; rw [c6b0]) | skip)
    have H' := Aside0.mk H
    clear H
    have hnb7 := NB778_779.out
    have hnc7 := NB779_778.out
    obtain ⟨hcz8_0, hcz8_1, hcz8_2, hcz8_3, hcz8_4, hcz8_5⟩ := zc6 BK778
    obtain ⟨hfz8_0, hfz8_1, hfz8_2, hfz8_3, hfz8_4, hfz8_5⟩ := zf6 BK778
    obtain ⟨hcz9_0, hcz9_1, hcz9_2, hcz9_3, hcz9_4, hcz9_5⟩ := zc6 BK779
    obtain ⟨hfz9_0, hfz9_1, hfz9_2, hfz9_3, hfz9_4, hfz9_5⟩ := zf6 BK779
    go_wp2
    go_meet
    case rel => exact ⟨_, (true), (by first | rfl | (simp; done) | (simp [*]; done)), H', ⟨by first | omega | exact Nat.le_refl _⟩, ⟨zK BK778⟩, ⟨zK BK779⟩, ⟨zB HB⟩⟩
  · rw [if_neg c6] at H
    have c6b0 : (a0_0 != a1_0) = false := by simpa using c6
    (try (have c6b1 : decide (a0_0 = a1_0) = true := by first | (simpa using c6) | exact decide_eq_true (Decidable.not_not.1 (fun hn => c6 (bne_iff_ne.2 hn))) | exact beq_iff_eq.2 (Decidable.not_not.1 (fun hn => c6 (bne_iff_ne.2 hn))) | exact decide_eq_false (bne_iff_ne.1 c6) | exact beq_eq_false_iff_ne.2 (bne_iff_ne.1 c6) | exact bne_iff_ne.1 c6))
    (try (have c6b2 : (a0_0 == a1_0) = true := by first | (simpa using c6) | exact decide_eq_true (Decidable.not_not.1 (fun hn => c6 (bne_iff_ne.2 hn))) | exact beq_iff_eq.2 (Decidable.not_not.1 (fun hn => c6 (bne_iff_ne.2 hn))) | exact decide_eq_false (bne_iff_ne.1 c6) | exact beq_eq_false_iff_ne.2 (bne_iff_ne.1 c6) | exact bne_iff_ne.1 c6))
    clear c6
    (first | rw [c6b0] | (simp only [i64_w, i32_w]; rw [c6b0]) | skip)
    replace H := Option.bind_eq_some_iff.mp H
    obtain ⟨t780, A100, H⟩ := H
    try dsimp only at H
    have A10 := Aside0.mk A100
    clear A100
    by_cases c11 : t780 < 0
    · rw [if_pos c11] at H
      have c11b0 : decide (t780 < 0) = true := decide_eq_true c11
      clear c11
      have H' := Aside0.mk H
      clear H
      have hnb12 := NB778_779.out
      have hnc12 := NB779_778.out
      obtain ⟨hcz13_0, hcz13_1, hcz13_2, hcz13_3, hcz13_4, hcz13_5⟩ := zc6 BK778
      obtain ⟨hfz13_0, hfz13_1, hfz13_2, hfz13_3, hfz13_4, hfz13_5⟩ := zf6 BK778
      obtain ⟨hcz14_0, hcz14_1, hcz14_2, hcz14_3, hcz14_4, hcz14_5⟩ := zc6 BK779
      obtain ⟨hfz14_0, hfz14_1, hfz14_2, hfz14_3, hfz14_4, hfz14_5⟩ := zf6 BK779
      go_wp2_with (first | (go_at_call 75; (with_reducible refine (address_Compare.calls a1_3 a1_4 a1_5 a0_0 a0_1 a0_2 t780 _ A10.out).mono ?_); rintro e w15 ⟨rfl, hb⟩; replace BK778 := Aside0.mk (blk_below (g := gb778) (o := .cells #[.bool a0_0, .int .u64 a0_1, .int .u64 a0_2, .bool a0_3, .int .u64 a0_4, .int .u64 a0_5] 66 (0, 0)) (zK BK778) hb); replace BK779 := Aside0.mk (blk_below (g := gb779) (o := .cells #[.bool a1_0, .int .u64 a1_1, .int .u64 a1_2, .bool a1_3, .int .u64 a1_4, .int .u64 a1_5] 66 (0, 0)) (zK BK779) hb); replace HB := Aside0.mk (below_step (zB HB) hb); (try clear hb)))
      go_meet
      case rel => exact ⟨_, (true), (by first | rfl | (simp; done) | (simp [*]; done)), H', ⟨by first | omega | exact Nat.le_refl _⟩, ⟨zK BK778⟩, ⟨zK BK779⟩, ⟨zB HB⟩⟩
    · rw [if_neg c11] at H
      have c11b0 : decide (t780 < 0) = false := decide_eq_false c11
      clear c11
      replace H := Option.bind_eq_some_iff.mp H
      obtain ⟨t781, A160, H⟩ := H
      try dsimp only at H
      have A16 := Aside0.mk A160
      clear A160
      have H' := Aside0.mk H
      clear H
      have hnb17 := NB778_779.out
      have hnc17 := NB779_778.out
      obtain ⟨hcz18_0, hcz18_1, hcz18_2, hcz18_3, hcz18_4, hcz18_5⟩ := zc6 BK778
      obtain ⟨hfz18_0, hfz18_1, hfz18_2, hfz18_3, hfz18_4, hfz18_5⟩ := zf6 BK778
      obtain ⟨hcz19_0, hcz19_1, hcz19_2, hcz19_3, hcz19_4, hcz19_5⟩ := zc6 BK779
      obtain ⟨hfz19_0, hfz19_1, hfz19_2, hfz19_3, hfz19_4, hfz19_5⟩ := zf6 BK779
      go_wp2_with (first | (go_at_call 75; (with_reducible refine (address_Compare.calls a1_3 a1_4 a1_5 a0_0 a0_1 a0_2 t780 _ A10.out).mono ?_); rintro e w20 ⟨rfl, hb⟩; replace BK778 := Aside0.mk (blk_below (g := gb778) (o := .cells #[.bool a0_0, .int .u64 a0_1, .int .u64 a0_2, .bool a0_3, .int .u64 a0_4, .int .u64 a0_5] 66 (0, 0)) (zK BK778) hb); replace BK779 := Aside0.mk (blk_below (g := gb779) (o := .cells #[.bool a1_0, .int .u64 a1_1, .int .u64 a1_2, .bool a1_3, .int .u64 a1_4, .int .u64 a1_5] 66 (0, 0)) (zK BK779) hb); replace HB := Aside0.mk (below_step (zB HB) hb); (try clear hb); obtain ⟨hcz21_0, hcz21_1, hcz21_2, hcz21_3, hcz21_4, hcz21_5⟩ := zc6 BK778; obtain ⟨hfz21_0, hfz21_1, hfz21_2, hfz21_3, hfz21_4, hfz21_5⟩ := zf6 BK778; obtain ⟨hcz22_0, hcz22_1, hcz22_2, hcz22_3, hcz22_4, hcz22_5⟩ := zc6 BK779; obtain ⟨hfz22_0, hfz22_1, hfz22_2, hfz22_3, hfz22_4, hfz22_5⟩ := zf6 BK779) | (go_at_call 75; (with_reducible refine (address_Compare.calls a0_3 a0_4 a0_5 a1_0 a1_1 a1_2 t781 _ A16.out).mono ?_); rintro e w23 ⟨rfl, hb⟩; replace BK778 := Aside0.mk (blk_below (g := gb778) (o := .cells #[.bool a0_0, .int .u64 a0_1, .int .u64 a0_2, .bool a0_3, .int .u64 a0_4, .int .u64 a0_5] 66 (0, 0)) (zK BK778) hb); replace BK779 := Aside0.mk (blk_below (g := gb779) (o := .cells #[.bool a1_0, .int .u64 a1_1, .int .u64 a1_2, .bool a1_3, .int .u64 a1_4, .int .u64 a1_5] 66 (0, 0)) (zK BK779) hb); replace HB := Aside0.mk (below_step (zB HB) hb); (try clear hb)))
      go_meet
      case rel => exact ⟨_, (decide (t781 < 0)), (by first | rfl | (simp; done) | (simp [*]; done)), H', ⟨by first | omega | exact Nat.le_refl _⟩, ⟨zK BK778⟩, ⟨zK BK779⟩, ⟨zB HB⟩⟩
 case rest =>
  clear HC3
  try clear c1
  try clear p2
  try clear c6
  try clear c6b0
  try clear c6b1
  try clear c6b2
  try clear c7
  try clear c9
  try clear c11
  try clear c11b0
  try clear c12
  try clear c17
  try clear hcz13_0
  try clear hcz13_1
  try clear hcz13_2
  try clear hcz13_3
  try clear hcz13_4
  try clear hcz13_5
  try clear hcz14_0
  try clear hcz14_1
  try clear hcz14_2
  try clear hcz14_3
  try clear hcz14_4
  try clear hcz14_5
  try clear hcz18_0
  try clear hcz18_1
  try clear hcz18_2
  try clear hcz18_3
  try clear hcz18_4
  try clear hcz18_5
  try clear hcz19_0
  try clear hcz19_1
  try clear hcz19_2
  try clear hcz19_3
  try clear hcz19_4
  try clear hcz19_5
  try clear hcz21_0
  try clear hcz21_1
  try clear hcz21_2
  try clear hcz21_3
  try clear hcz21_4
  try clear hcz21_5
  try clear hcz22_0
  try clear hcz22_1
  try clear hcz22_2
  try clear hcz22_3
  try clear hcz22_4
  try clear hcz22_5
  try clear hcz8_0
  try clear hcz8_1
  try clear hcz8_2
  try clear hcz8_3
  try clear hcz8_4
  try clear hcz8_5
  try clear hcz9_0
  try clear hcz9_1
  try clear hcz9_2
  try clear hcz9_3
  try clear hcz9_4
  try clear hcz9_5
  try clear hfz13_0
  try clear hfz13_1
  try clear hfz13_2
  try clear hfz13_3
  try clear hfz13_4
  try clear hfz13_5
  try clear hfz14_0
  try clear hfz14_1
  try clear hfz14_2
  try clear hfz14_3
  try clear hfz14_4
  try clear hfz14_5
  try clear hfz18_0
  try clear hfz18_1
  try clear hfz18_2
  try clear hfz18_3
  try clear hfz18_4
  try clear hfz18_5
  try clear hfz19_0
  try clear hfz19_1
  try clear hfz19_2
  try clear hfz19_3
  try clear hfz19_4
  try clear hfz19_5
  try clear hfz21_0
  try clear hfz21_1
  try clear hfz21_2
  try clear hfz21_3
  try clear hfz21_4
  try clear hfz21_5
  try clear hfz22_0
  try clear hfz22_1
  try clear hfz22_2
  try clear hfz22_3
  try clear hfz22_4
  try clear hfz22_5
  try clear hfz8_0
  try clear hfz8_1
  try clear hfz8_2
  try clear hfz8_3
  try clear hfz8_4
  try clear hfz8_5
  try clear hfz9_0
  try clear hfz9_1
  try clear hfz9_2
  try clear hfz9_3
  try clear hfz9_4
  try clear hfz9_5
  obtain ⟨kq, x32_2, rfl, HA, HJ2, BK778, BK779, HB⟩ := hcut
  cases kq with
  | zero => exact absurd HA.out (by simp [addrset_without.j0])
  | succ kj2 =>
   have H := HA.out
   clear HA
   simp only [addrset_without.j0] at H
   by_cases c24 : x32_2 = true
   · subst c24
     rw [if_pos rfl] at H
     obtain ⟨y782, hy782⟩ : ∃ y_ : List (S66), y_ = (([(⟨(⟨a0_0, a0_1, a0_2⟩ : S36), (⟨a0_3, a0_4, a0_5⟩ : S36)⟩ : S66)] : List (S66))) := ⟨_, rfl⟩
     replace H : (some y782) = some r := by first | (rw [hy782]; with_reducible exact H) | (have H2_ := (Option.bind_some _ _).symm.trans H; rw [hy782]; with_reducible exact H2_) | (have H2_ := (Option.bind_some _ _).symm.trans H; with_reducible exact H2_) | with_reducible exact H | (rw [hy782]; exact H) | exact H
     have Ny782 := Aside0.mk hy782
     clear hy782
     obtain rfl := Option.some.inj H
     have hnb25 := NB778_779.out
     have hnc25 := NB779_778.out
     obtain ⟨hcz26_0, hcz26_1, hcz26_2, hcz26_3, hcz26_4, hcz26_5⟩ := zc6 BK778
     obtain ⟨hfz26_0, hfz26_1, hfz26_2, hfz26_3, hfz26_4, hfz26_5⟩ := zf6 BK778
     go_wp2_with (first | ((with_reducible refine gate_dst (N := 34) rfl ?_); refine Kd.R_lit k66 _ 66 ?hg (N := 34) ?hd (xs := ([(⟨(⟨a0_0, a0_1, a0_2⟩ : S36), (⟨a0_3, a0_4, a0_5⟩ : S36)⟩ : S66)] : List (S66))) (inner := [.bool a0_0, .int .u64 a0_1, .int .u64 a0_2, .bool a0_3, .int .u64 a0_4, .int .u64 a0_5]) (ok := fun _ => True) (okp := fun _ => True) ?hr ?hp (fun _ hk => hk) trivial (Below.refl _ _) (Nat.le_refl _) (by simp) ?_; (case hd => rfl); (case hg => rfl); (case hr => first | (go_simp; done) | (go_simp; rfl)); (case hp => exact (Reps.c6 (show Kd.M k66 _ _ _ (⟨(⟨a0_0, a0_1, a0_2⟩ : S36), (⟨a0_3, a0_4, a0_5⟩ : S36)⟩ : S66) [.bool a0_0, .int .u64 a0_1, .int .u64 a0_2, .bool a0_3, .int .u64 a0_4, .int .u64 a0_5] from (k66_mkM _ _ _ (⟨(⟨a0_0, a0_1, a0_2⟩ : S36), (⟨a0_3, a0_4, a0_5⟩ : S36)⟩ : S66) )) (Reps.none _ _))); intro v783 w27 ho28 hb hg_ hnew_; clear hg_ hnew_; (first | rw [← Ny782.out] at ho28 | (simp only [Int.reduceToNat] at ho28; rw [← Ny782.out] at ho28)); have HO784 := Aside0.mk (Kd.R_lower (Kd.R_newB (Kd.R_newB ho28 (g := gb778) (o := .cells #[.bool a0_0, .int .u64 a0_1, .int .u64 a0_2, .bool a0_3, .int .u64 a0_4, .int .u64 a0_5] 66 (0, 0)) (zK BK778)) (g := gb779) (o := .cells #[.bool a1_0, .int .u64 a1_1, .int .u64 a1_2, .bool a1_3, .int .u64 a1_4, .int .u64 a1_5] 66 (0, 0)) (zK BK779)) (below_size (zB HB))); replace BK778 := Aside0.mk (blk_below (g := gb778) (o := .cells #[.bool a0_0, .int .u64 a0_1, .int .u64 a0_2, .bool a0_3, .int .u64 a0_4, .int .u64 a0_5] 66 (0, 0)) (zK BK778) hb); replace BK779 := Aside0.mk (blk_below (g := gb779) (o := .cells #[.bool a1_0, .int .u64 a1_1, .int .u64 a1_2, .bool a1_3, .int .u64 a1_4, .int .u64 a1_5] 66 (0, 0)) (zK BK779) hb); replace HB := Aside0.mk (below_step (zB HB) hb); clear hb ho28))
     go_ret
     exact ⟨_, by first | rfl | (simp [errW_none, errW_some] <;> rfl) | (simp [*, errW_none, errW_some] <;> rfl), by (with_reducible repeat (first | apply Kd.R_alloc | apply Kd.R_drewN | apply Kd.R_drew)); exact Kd.R_mono HO784.out (fun _ hk => trivial), by repeat (first | (with_reducible first | exact HB.out | apply below_alloc | apply pw_below_drewN | apply below_drew1 | refine below_set ?_ GE778.out | refine below_set ?_ GE779.out) | exact HB.out)⟩
   · replace c24 := Bool.eq_false_iff.mpr c24
     subst c24
     rw [if_neg zF] at H
     replace H := Option.bind_eq_some_iff.mp H
     obtain ⟨t785, A290, H⟩ := H
     try dsimp only at H
     have A29 := Aside0.mk A290
     clear A290
     have HC30 := Aside0.mk H
     clear H
     have hnb31 := NB778_779.out
     have hnc31 := NB779_778.out
     obtain ⟨hcz32_0, hcz32_1, hcz32_2, hcz32_3, hcz32_4, hcz32_5⟩ := zc6 BK778
     obtain ⟨hfz32_0, hfz32_1, hfz32_2, hfz32_3, hfz32_4, hfz32_5⟩ := zf6 BK778
     obtain ⟨hcz33_0, hcz33_1, hcz33_2, hcz33_3, hcz33_4, hcz33_5⟩ := zc6 BK779
     obtain ⟨hfz33_0, hfz33_1, hfz33_2, hfz33_3, hfz33_4, hfz33_5⟩ := zf6 BK779
     go_upto_if 40 with (first | ((with_reducible refine gate_callee (f := 75) rfl ?_); refine goesL_ (some 39) rfl rfl Try.func75 (by kernel_rfl) rfl #[.agg #[.bool a0_0, .int .u64 a0_1, .int .u64 a0_2], .agg #[.bool a1_0, .int .u64 a1_1, .int .u64 a1_2]] rfl (by (try simp only [List.map_toArray, List.map_cons, List.map_nil]); first | done | rfl | (simp only [List.length_drop, List.length_take]; rfl)) ?_; (with_reducible refine (address_Compare.calls a0_0 a0_1 a0_2 a1_0 a1_1 a1_2 t785 _ A29.out).mono ?_); rintro e w34 ⟨rfl, hb⟩; refine ⟨_, rfl, ?_⟩; replace BK778 := Aside0.mk (blk_below (g := gb778) (o := .cells #[.bool a0_0, .int .u64 a0_1, .int .u64 a0_2, .bool a0_3, .int .u64 a0_4, .int .u64 a0_5] 66 (0, 0)) (zK BK778) hb); replace BK779 := Aside0.mk (blk_below (g := gb779) (o := .cells #[.bool a1_0, .int .u64 a1_1, .int .u64 a1_2, .bool a1_3, .int .u64 a1_4, .int .u64 a1_5] 66 (0, 0)) (zK BK779) hb); replace HB := Aside0.mk (below_step (zB HB) hb); (try clear hb)))
     (try simp only [Act.put, List.setIfInBounds_toArray, List.set_cons_zero, List.set_cons_succ])
     go_cut [5] (fun v5 wc => ∃ (kq : Nat) (x5_29 : List (S66)), Aside0 (addrset_without.j1 kq x5_29 a0_0 a0_1 a0_2 a0_3 a0_4 a0_5 a1_0 a1_1 a1_2 a1_3 a1_4 a1_5 = some r) ∧ Aside0 (kq ≤ kj2) ∧ Aside0 (Kd.R k66 66 wc w.heap.size (fun k_ => k_ ≠ gb778 ∧ k_ ≠ gb779) v5 x5_29) ∧ Aside0 (wc.heap[gb778]? = some (.cells #[.bool a0_0, .int .u64 a0_1, .int .u64 a0_2, .bool a0_3, .int .u64 a0_4, .int .u64 a0_5] 66 (0, 0))) ∧ Aside0 (wc.heap[gb779]? = some (.cells #[.bool a1_0, .int .u64 a1_1, .int .u64 a1_2, .bool a1_3, .int .u64 a1_4, .int .u64 a1_5] 66 (0, 0))) ∧ Aside0 (Below w.heap.size w wc))
     case first =>
      have H := HC30.out
      clear HC30
      by_cases c35 : t785 < 0
      · rw [if_pos c35] at H
        have c35b0 : decide (t785 < 0) = true := decide_eq_true c35
        clear c35
        (first | rw [c35b0] | (simp only [i64_w, i32_w]; rw [c35b0]) | skip)
        replace H := Option.bind_eq_some_iff.mp H
        obtain ⟨⟨t786, t787, t788, t789⟩, A360, H⟩ := H
        replace H : (if ([] : List (S66)).length < 2932031007402 then (addrset_without.j1 kj2 (([] : List (S66)) ++ [(⟨(⟨a0_0, a0_1, a0_2⟩ : S36), (⟨t786, t787, t788⟩ : S36)⟩ : S66)]) a0_0 a0_1 a0_2 a0_3 a0_4 a0_5 a1_0 a1_1 a1_2 a1_3 a1_4 a1_5) else (none)) = some r := H
        have A36 := Aside0.mk A360
        clear A360
        by_cases c37 : ([] : List (S66)).length < 2932031007402
        · rw [if_pos c37] at H
          have LMc37 := Aside0.mk c37
          clear c37
          obtain ⟨y791, hy791⟩ : ∃ y_ : List (S66), y_ = (([] : List (S66)) ++ [(⟨(⟨a0_0, a0_1, a0_2⟩ : S36), (⟨t786, t787, t788⟩ : S36)⟩ : S66)]) := ⟨_, rfl⟩
          replace H : (addrset_without.j1 kj2 y791 a0_0 a0_1 a0_2 a0_3 a0_4 a0_5 a1_0 a1_1 a1_2 a1_3 a1_4 a1_5) = some r := by first | (rw [hy791]; with_reducible exact H) | (have H2_ := (Option.bind_some _ _).symm.trans H; rw [hy791]; with_reducible exact H2_) | (have H2_ := (Option.bind_some _ _).symm.trans H; with_reducible exact H2_) | with_reducible exact H | (rw [hy791]; exact H) | exact H
          have Ny791 := Aside0.mk hy791
          clear hy791
          have H' := Aside0.mk H
          clear H
          have hnb38 := NB779_778.out
          have hnc38 := NB778_779.out
          obtain ⟨hcz39_0, hcz39_1, hcz39_2, hcz39_3, hcz39_4, hcz39_5⟩ := zc6 BK779
          obtain ⟨hfz39_0, hfz39_1, hfz39_2, hfz39_3, hfz39_4, hfz39_5⟩ := zf6 BK779
          go_wp2_with (first | ((with_reducible refine gate_callee (f := 115) rfl ?_); refine goesL_ (some 44) rfl rfl Try.func115 (by kernel_rfl) rfl #[.agg #[.bool a1_0, .int .u64 a1_1, .int .u64 a1_2]] rfl (by (try simp only [List.map_toArray, List.map_cons, List.map_nil]); first | done | rfl | (simp only [List.length_drop, List.length_take]; rfl)) ?_; (with_reducible refine (address_Previous.calls a1_0 a1_1 a1_2 t786 t787 t788 t789 _ A36.out).mono ?_); rintro e w40 ⟨rfl, hb⟩; refine ⟨_, rfl, ?_⟩; replace BK778 := Aside0.mk (blk_below (g := gb778) (o := .cells #[.bool a0_0, .int .u64 a0_1, .int .u64 a0_2, .bool a0_3, .int .u64 a0_4, .int .u64 a0_5] 66 (0, 0)) (zK BK778) hb); replace BK779 := Aside0.mk (blk_below (g := gb779) (o := .cells #[.bool a1_0, .int .u64 a1_1, .int .u64 a1_2, .bool a1_3, .int .u64 a1_4, .int .u64 a1_5] 66 (0, 0)) (zK BK779) hb); replace HB := Aside0.mk (below_step (zB HB) hb); (try clear hb)) | ((with_reducible refine gate_dst (N := 6) rfl ?_); refine zx 6 #[.bool false, .int .u64 0, .int .u64 0] 36 ?_; intro gb790 hg w41 hbox hb; have BK790 := Aside0.mk (hbox); have GW790 := Aside0.mk ((by rw [hg]; exact (below_size (zB HB)) : w.heap.size ≤ gb790)); have GE790 := Aside0.mk ((by rw [hg]; exact (below_size (zB HB)) : w.heap.size ≤ gb790)); replace HB := Aside0.mk (below_step (zB HB) hb); have NB778_790 := Aside0.mk ((by rw [hg]; exact Nat.ne_of_lt (blk_lt (g := gb778) (o := .cells #[.bool a0_0, .int .u64 a0_1, .int .u64 a0_2, .bool a0_3, .int .u64 a0_4, .int .u64 a0_5] 66 (0, 0)) (zK BK778)) : gb778 ≠ gb790)); have NB790_778 := Aside0.mk ((by rw [hg]; exact Nat.ne_of_gt (blk_lt (g := gb778) (o := .cells #[.bool a0_0, .int .u64 a0_1, .int .u64 a0_2, .bool a0_3, .int .u64 a0_4, .int .u64 a0_5] 66 (0, 0)) (zK BK778)) : gb790 ≠ gb778)); replace BK778 := Aside0.mk (blk_below (g := gb778) (o := .cells #[.bool a0_0, .int .u64 a0_1, .int .u64 a0_2, .bool a0_3, .int .u64 a0_4, .int .u64 a0_5] 66 (0, 0)) (zK BK778) hb); have NB779_790 := Aside0.mk ((by rw [hg]; exact Nat.ne_of_lt (blk_lt (g := gb779) (o := .cells #[.bool a1_0, .int .u64 a1_1, .int .u64 a1_2, .bool a1_3, .int .u64 a1_4, .int .u64 a1_5] 66 (0, 0)) (zK BK779)) : gb779 ≠ gb790)); have NB790_779 := Aside0.mk ((by rw [hg]; exact Nat.ne_of_gt (blk_lt (g := gb779) (o := .cells #[.bool a1_0, .int .u64 a1_1, .int .u64 a1_2, .bool a1_3, .int .u64 a1_4, .int .u64 a1_5] 66 (0, 0)) (zK BK779)) : gb790 ≠ gb779)); replace BK779 := Aside0.mk (blk_below (g := gb779) (o := .cells #[.bool a1_0, .int .u64 a1_1, .int .u64 a1_2, .bool a1_3, .int .u64 a1_4, .int .u64 a1_5] 66 (0, 0)) (zK BK779) hb); clear hb hbox hg; have hnb42 := NB790_778.out; have hnc42 := NB778_790.out; have hnb43 := NB790_779.out; have hnc43 := NB779_790.out; obtain ⟨hcz44_0, hcz44_1, hcz44_2⟩ := zc3 BK790; obtain ⟨hfz44_0, hfz44_1, hfz44_2⟩ := zf3 BK790; obtain ⟨hcz45_0, hcz45_1, hcz45_2, hcz45_3, hcz45_4, hcz45_5⟩ := zc6 BK778; obtain ⟨hfz45_0, hfz45_1, hfz45_2, hfz45_3, hfz45_4, hfz45_5⟩ := zf6 BK778) | ((with_reducible refine gate_builtin (b := .append) (xs := #[.tmp 47, .tmp 52]) rfl ?_); at_builtin; refine Kd.R_append k66 (w0 := w) w.heap.size rfl (.tmp 47) (.tmp 52) 33 66 (.agg #[(.bool false), (.int .u64 0), (.int .u64 0), (.bool false), (.int .u64 0), (.int .u64 0)]) 48 rfl Try.underlying33 info66 rfl (by decide) (by omega) (.slice none 0 0) ([] : List (S66)) (⟨(⟨a0_0, a0_1, a0_2⟩ : S36), (⟨t786, t787, t788⟩ : S36)⟩ : S66) [.bool a0_0, .int .u64 a0_1, .int .u64 a0_2, .bool t786, .int .u64 t787, .int .u64 t788] (fun k_ => k_ ≠ gb778 ∧ k_ ≠ gb779) (fun _ => False) rfl (by first | (go_simp; done) | (go_simp; rfl)) ?aP (fun _ hk => hk.elim) ?aF ?aO ?aB ?aS ?aL ?_; (case aP => exact k66_mkM _ _ _ (⟨(⟨a0_0, a0_1, a0_2⟩ : S36), (⟨t786, t787, t788⟩ : S36)⟩ : S66)); (case aB => exact (zB HB)); (case aF => exact (fun k_ hk => ⟨Kd.freshB (g := gb778) (o := .cells #[.bool a0_0, .int .u64 a0_1, .int .u64 a0_2, .bool a0_3, .int .u64 a0_4, .int .u64 a0_5] 66 (0, 0)) (by refine zL ?_; refine blk_far ?_ NB778_790.out _; refine zL ?_; refine blk_far ?_ NB778_790.out _; refine zL ?_; refine blk_far ?_ NB778_790.out _; refine zL ?_; exact BK778.out) k_ hk, Kd.freshB (g := gb779) (o := .cells #[.bool a1_0, .int .u64 a1_1, .int .u64 a1_2, .bool a1_3, .int .u64 a1_4, .int .u64 a1_5] 66 (0, 0)) (by refine zL ?_; refine blk_far ?_ NB779_790.out _; refine zL ?_; refine blk_far ?_ NB779_790.out _; refine zL ?_; refine blk_far ?_ NB779_790.out _; refine zL ?_; exact BK779.out) k_ hk⟩)); (case aO => exact ((Kd.R_nil _ _ _ _ (fun k_ => k_ ≠ gb778 ∧ k_ ≠ gb779)))); (case aS => exact (below_size (zB HB))); (case aL => have := LMc37.out; omega); intro v792 w46 ho hb hg hat; rw [← Ny791.out] at ho; replace BK778 := Aside0.mk (blk_grown (g := gb778) (o := .cells #[.bool a0_0, .int .u64 a0_1, .int .u64 a0_2, .bool a0_3, .int .u64 a0_4, .int .u64 a0_5] 66 (0, 0)) (by refine zL ?_; refine blk_far ?_ NB778_790.out _; refine zL ?_; refine blk_far ?_ NB778_790.out _; refine zL ?_; refine blk_far ?_ NB778_790.out _; refine zL ?_; exact BK778.out) hg (by simp [Value.ownBlock])); replace BK779 := Aside0.mk (blk_grown (g := gb779) (o := .cells #[.bool a1_0, .int .u64 a1_1, .int .u64 a1_2, .bool a1_3, .int .u64 a1_4, .int .u64 a1_5] 66 (0, 0)) (by refine zL ?_; refine blk_far ?_ NB779_790.out _; refine zL ?_; refine blk_far ?_ NB779_790.out _; refine zL ?_; refine blk_far ?_ NB779_790.out _; refine zL ?_; exact BK779.out) hg (by simp [Value.ownBlock])); replace BK790 := Aside0.mk (blk_grown (g := gb790) (o := .cells #[.bool t786, .int .u64 t787, .int .u64 t788] 36 (0, 0)) (by refine zL ?_; refine blk_put (cs := #[.bool t786, .int .u64 t787, .int .u64 0]) ?_ 2 _ rfl; refine zL ?_; refine blk_put (cs := #[.bool t786, .int .u64 0, .int .u64 0]) ?_ 1 _ rfl; refine zL ?_; refine blk_put (cs := #[.bool false, .int .u64 0, .int .u64 0]) ?_ 0 _ rfl; refine zL ?_; exact BK790.out) hg (by simp [Value.ownBlock])); replace HB := Aside0.mk (hb); have HO793 := Aside0.mk (ho); clear ho hb hg hat))
          go_meet
          case rel => exact ⟨_, (y791), H', ⟨by have := HJ2.out; first | omega | exact Nat.le_refl _⟩, ⟨zR HO793⟩, ⟨zK BK778⟩, ⟨zK BK779⟩, ⟨zB HB⟩⟩
        · rw [if_neg c37] at H
          exact absurd H (by simp)
      · rw [if_neg c35] at H
        have c35b0 : decide (t785 < 0) = false := decide_eq_false c35
        clear c35
        (first | rw [c35b0] | (simp only [i64_w, i32_w]; rw [c35b0]) | skip)
        have H' := Aside0.mk H
        clear H
        go_wp2
        go_meet
        case rel => exact ⟨_, (([] : List (S66))), H', ⟨by have := HJ2.out; first | omega | exact Nat.le_refl _⟩, ⟨by first | exact Kd.R_nil _ _ _ _ _ | exact Kd.N_nil _ _ _ _ _ | exact Kd.V_nil _ _ _ _ _ | exact Kd.Q_nil _ _ _ _ _ | exact Kd.S_nil _ _ _ _ _⟩, ⟨zK BK778⟩, ⟨zK BK779⟩, ⟨zB HB⟩⟩
     case rest =>
      clear HC30
      try clear c1
      try clear c2
      try clear p2
      try clear c3
      try clear c4
      try clear c6
      try clear c6b0
      try clear c6b1
      try clear c6b2
      try clear c7
      try clear c9
      try clear c11
      try clear c11b0
      try clear c12
      try clear c17
      try clear c24
      try clear c25
      try clear c31
      try clear c35
      try clear c35b0
      try clear c37
      try clear c38
      try clear c42
      try clear c43
      try clear hcz13_0
      try clear hcz13_1
      try clear hcz13_2
      try clear hcz13_3
      try clear hcz13_4
      try clear hcz13_5
      try clear hcz14_0
      try clear hcz14_1
      try clear hcz14_2
      try clear hcz14_3
      try clear hcz14_4
      try clear hcz14_5
      try clear hcz18_0
      try clear hcz18_1
      try clear hcz18_2
      try clear hcz18_3
      try clear hcz18_4
      try clear hcz18_5
      try clear hcz19_0
      try clear hcz19_1
      try clear hcz19_2
      try clear hcz19_3
      try clear hcz19_4
      try clear hcz19_5
      try clear hcz21_0
      try clear hcz21_1
      try clear hcz21_2
      try clear hcz21_3
      try clear hcz21_4
      try clear hcz21_5
      try clear hcz22_0
      try clear hcz22_1
      try clear hcz22_2
      try clear hcz22_3
      try clear hcz22_4
      try clear hcz22_5
      try clear hcz26_0
      try clear hcz26_1
      try clear hcz26_2
      try clear hcz26_3
      try clear hcz26_4
      try clear hcz26_5
      try clear hcz32_0
      try clear hcz32_1
      try clear hcz32_2
      try clear hcz32_3
      try clear hcz32_4
      try clear hcz32_5
      try clear hcz33_0
      try clear hcz33_1
      try clear hcz33_2
      try clear hcz33_3
      try clear hcz33_4
      try clear hcz33_5
      try clear hcz39_0
      try clear hcz39_1
      try clear hcz39_2
      try clear hcz39_3
      try clear hcz39_4
      try clear hcz39_5
      try clear hcz44_0
      try clear hcz44_1
      try clear hcz44_2
      try clear hcz45_0
      try clear hcz45_1
      try clear hcz45_2
      try clear hcz45_3
      try clear hcz45_4
      try clear hcz45_5
      try clear hcz8_0
      try clear hcz8_1
      try clear hcz8_2
      try clear hcz8_3
      try clear hcz8_4
      try clear hcz8_5
      try clear hcz9_0
      try clear hcz9_1
      try clear hcz9_2
      try clear hcz9_3
      try clear hcz9_4
      try clear hcz9_5
      try clear hfz13_0
      try clear hfz13_1
      try clear hfz13_2
      try clear hfz13_3
      try clear hfz13_4
      try clear hfz13_5
      try clear hfz14_0
      try clear hfz14_1
      try clear hfz14_2
      try clear hfz14_3
      try clear hfz14_4
      try clear hfz14_5
      try clear hfz18_0
      try clear hfz18_1
      try clear hfz18_2
      try clear hfz18_3
      try clear hfz18_4
      try clear hfz18_5
      try clear hfz19_0
      try clear hfz19_1
      try clear hfz19_2
      try clear hfz19_3
      try clear hfz19_4
      try clear hfz19_5
      try clear hfz21_0
      try clear hfz21_1
      try clear hfz21_2
      try clear hfz21_3
      try clear hfz21_4
      try clear hfz21_5
      try clear hfz22_0
      try clear hfz22_1
      try clear hfz22_2
      try clear hfz22_3
      try clear hfz22_4
      try clear hfz22_5
      try clear hfz26_0
      try clear hfz26_1
      try clear hfz26_2
      try clear hfz26_3
      try clear hfz26_4
      try clear hfz26_5
      try clear hfz32_0
      try clear hfz32_1
      try clear hfz32_2
      try clear hfz32_3
      try clear hfz32_4
      try clear hfz32_5
      try clear hfz33_0
      try clear hfz33_1
      try clear hfz33_2
      try clear hfz33_3
      try clear hfz33_4
      try clear hfz33_5
      try clear hfz39_0
      try clear hfz39_1
      try clear hfz39_2
      try clear hfz39_3
      try clear hfz39_4
      try clear hfz39_5
      try clear hfz44_0
      try clear hfz44_1
      try clear hfz44_2
      try clear hfz45_0
      try clear hfz45_1
      try clear hfz45_2
      try clear hfz45_3
      try clear hfz45_4
      try clear hfz45_5
      try clear hfz8_0
      try clear hfz8_1
      try clear hfz8_2
      try clear hfz8_3
      try clear hfz8_4
      try clear hfz8_5
      try clear hfz9_0
      try clear hfz9_1
      try clear hfz9_2
      try clear hfz9_3
      try clear hfz9_4
      try clear hfz9_5
      try clear p2
      obtain ⟨kq, x5_29, HA, HJ29, HO_5, BK778, BK779, HB⟩ := hcut
      cases kq with
      | zero => exact absurd HA.out (by simp [addrset_without.j1])
      | succ kj29 =>
       have H := HA.out
       clear HA
       simp only [addrset_without.j1] at H
       replace H := Option.bind_eq_some_iff.mp H
       obtain ⟨t794, A470, H⟩ := H
       try dsimp only at H
       have A47 := Aside0.mk A470
       clear A470
       by_cases c48 : t794 < 0
       · rw [if_pos c48] at H
         have c48b0 : decide (t794 < 0) = true := decide_eq_true c48
         clear c48
         replace H := Option.bind_eq_some_iff.mp H
         obtain ⟨⟨t795, t796, t797, t798⟩, A490, H⟩ := H
         replace H : (if x5_29.length < 2932031007402 then (some (x5_29 ++ [(⟨(⟨t795, t796, t797⟩ : S36), (⟨a0_3, a0_4, a0_5⟩ : S36)⟩ : S66)])) else (none)) = some r := H
         have A49 := Aside0.mk A490
         clear A490
         by_cases c50 : x5_29.length < 2932031007402
         · rw [if_pos c50] at H
           have LMc50 := Aside0.mk c50
           clear c50
           obtain ⟨y800, hy800⟩ : ∃ y_ : List (S66), y_ = (x5_29 ++ [(⟨(⟨t795, t796, t797⟩ : S36), (⟨a0_3, a0_4, a0_5⟩ : S36)⟩ : S66)]) := ⟨_, rfl⟩
           replace H : (some y800) = some r := by first | (rw [hy800]; with_reducible exact H) | (have H2_ := (Option.bind_some _ _).symm.trans H; rw [hy800]; with_reducible exact H2_) | (have H2_ := (Option.bind_some _ _).symm.trans H; with_reducible exact H2_) | with_reducible exact H | (rw [hy800]; exact H) | exact H
           have Ny800 := Aside0.mk hy800
           clear hy800
           obtain rfl := Option.some.inj H
           have hnb51 := NB779_778.out
           have hnc51 := NB778_779.out
           obtain ⟨hcz52_0, hcz52_1, hcz52_2, hcz52_3, hcz52_4, hcz52_5⟩ := zc6 BK779
           obtain ⟨hfz52_0, hfz52_1, hfz52_2, hfz52_3, hfz52_4, hfz52_5⟩ := zf6 BK779
           obtain ⟨hcz53_0, hcz53_1, hcz53_2, hcz53_3, hcz53_4, hcz53_5⟩ := zc6 BK778
           obtain ⟨hfz53_0, hfz53_1, hfz53_2, hfz53_3, hfz53_4, hfz53_5⟩ := zf6 BK778
           go_wp2_with (first | ((with_reducible refine gate_callee (f := 75) rfl ?_); refine goesL_ (some 58) rfl rfl Try.func75 (by kernel_rfl) rfl #[.agg #[.bool a1_3, .int .u64 a1_4, .int .u64 a1_5], .agg #[.bool a0_3, .int .u64 a0_4, .int .u64 a0_5]] rfl (by (try simp only [List.map_toArray, List.map_cons, List.map_nil]); first | done | rfl | (simp only [List.length_drop, List.length_take]; rfl)) ?_; (with_reducible refine (address_Compare.calls a1_3 a1_4 a1_5 a0_3 a0_4 a0_5 t794 _ A47.out).mono ?_); rintro e w54 ⟨rfl, hb⟩; refine ⟨_, rfl, ?_⟩; replace HO_5 := Aside0.mk (Kd.R_below (zR HO_5) hb); replace BK778 := Aside0.mk (blk_below (g := gb778) (o := .cells #[.bool a0_0, .int .u64 a0_1, .int .u64 a0_2, .bool a0_3, .int .u64 a0_4, .int .u64 a0_5] 66 (0, 0)) (zK BK778) hb); replace BK779 := Aside0.mk (blk_below (g := gb779) (o := .cells #[.bool a1_0, .int .u64 a1_1, .int .u64 a1_2, .bool a1_3, .int .u64 a1_4, .int .u64 a1_5] 66 (0, 0)) (zK BK779) hb); replace HB := Aside0.mk (below_step (zB HB) hb); (try clear hb); obtain ⟨hcz55_0, hcz55_1, hcz55_2, hcz55_3, hcz55_4, hcz55_5⟩ := zc6 BK779; obtain ⟨hfz55_0, hfz55_1, hfz55_2, hfz55_3, hfz55_4, hfz55_5⟩ := zf6 BK779) | ((with_reducible refine gate_callee (f := 88) rfl ?_); refine goesL_ (some 63) rfl rfl Try.func88 (by kernel_rfl) rfl #[.agg #[.bool a1_3, .int .u64 a1_4, .int .u64 a1_5]] rfl (by (try simp only [List.map_toArray, List.map_cons, List.map_nil]); first | done | rfl | (simp only [List.length_drop, List.length_take]; rfl)) ?_; (with_reducible refine (address_Next.calls a1_3 a1_4 a1_5 t795 t796 t797 t798 _ A49.out).mono ?_); rintro e w56 ⟨rfl, hb⟩; refine ⟨_, rfl, ?_⟩; replace HO_5 := Aside0.mk (Kd.R_below (zR HO_5) hb); replace BK778 := Aside0.mk (blk_below (g := gb778) (o := .cells #[.bool a0_0, .int .u64 a0_1, .int .u64 a0_2, .bool a0_3, .int .u64 a0_4, .int .u64 a0_5] 66 (0, 0)) (zK BK778) hb); replace BK779 := Aside0.mk (blk_below (g := gb779) (o := .cells #[.bool a1_0, .int .u64 a1_1, .int .u64 a1_2, .bool a1_3, .int .u64 a1_4, .int .u64 a1_5] 66 (0, 0)) (zK BK779) hb); replace HB := Aside0.mk (below_step (zB HB) hb); (try clear hb)) | ((with_reducible refine gate_dst (N := 8) rfl ?_); refine zx 8 #[.bool false, .int .u64 0, .int .u64 0] 36 ?_; intro gb799 hg w57 hbox hb; replace HO_5 := Aside0.mk (Kd.R_below (zR HO_5) hb); have BK799 := Aside0.mk (hbox); have GW799 := Aside0.mk ((by rw [hg]; exact (below_size (zB HB)) : w.heap.size ≤ gb799)); have GE799 := Aside0.mk ((by rw [hg]; exact (below_size (zB HB)) : w.heap.size ≤ gb799)); replace HB := Aside0.mk (below_step (zB HB) hb); have NB778_799 := Aside0.mk ((by rw [hg]; exact Nat.ne_of_lt (blk_lt (g := gb778) (o := .cells #[.bool a0_0, .int .u64 a0_1, .int .u64 a0_2, .bool a0_3, .int .u64 a0_4, .int .u64 a0_5] 66 (0, 0)) (zK BK778)) : gb778 ≠ gb799)); have NB799_778 := Aside0.mk ((by rw [hg]; exact Nat.ne_of_gt (blk_lt (g := gb778) (o := .cells #[.bool a0_0, .int .u64 a0_1, .int .u64 a0_2, .bool a0_3, .int .u64 a0_4, .int .u64 a0_5] 66 (0, 0)) (zK BK778)) : gb799 ≠ gb778)); replace BK778 := Aside0.mk (blk_below (g := gb778) (o := .cells #[.bool a0_0, .int .u64 a0_1, .int .u64 a0_2, .bool a0_3, .int .u64 a0_4, .int .u64 a0_5] 66 (0, 0)) (zK BK778) hb); have NB779_799 := Aside0.mk ((by rw [hg]; exact Nat.ne_of_lt (blk_lt (g := gb779) (o := .cells #[.bool a1_0, .int .u64 a1_1, .int .u64 a1_2, .bool a1_3, .int .u64 a1_4, .int .u64 a1_5] 66 (0, 0)) (zK BK779)) : gb779 ≠ gb799)); have NB799_779 := Aside0.mk ((by rw [hg]; exact Nat.ne_of_gt (blk_lt (g := gb779) (o := .cells #[.bool a1_0, .int .u64 a1_1, .int .u64 a1_2, .bool a1_3, .int .u64 a1_4, .int .u64 a1_5] 66 (0, 0)) (zK BK779)) : gb799 ≠ gb779)); replace BK779 := Aside0.mk (blk_below (g := gb779) (o := .cells #[.bool a1_0, .int .u64 a1_1, .int .u64 a1_2, .bool a1_3, .int .u64 a1_4, .int .u64 a1_5] 66 (0, 0)) (zK BK779) hb); clear hb hbox hg; have hnb58 := NB799_778.out; have hnc58 := NB778_799.out; have hnb59 := NB799_779.out; have hnc59 := NB779_799.out; obtain ⟨hcz60_0, hcz60_1, hcz60_2⟩ := zc3 BK799; obtain ⟨hfz60_0, hfz60_1, hfz60_2⟩ := zf3 BK799; obtain ⟨hcz61_0, hcz61_1, hcz61_2, hcz61_3, hcz61_4, hcz61_5⟩ := zc6 BK778; obtain ⟨hfz61_0, hfz61_1, hfz61_2, hfz61_3, hfz61_4, hfz61_5⟩ := zf6 BK778) | ((with_reducible refine gate_builtin (b := .append) (xs := #[.tmp 66, .tmp 71]) rfl ?_); at_builtin; refine Kd.R_append k66 (w0 := w) w.heap.size rfl (.tmp 66) (.tmp 71) 33 66 (.agg #[(.bool false), (.int .u64 0), (.int .u64 0), (.bool false), (.int .u64 0), (.int .u64 0)]) 48 rfl Try.underlying33 info66 rfl (by decide) (by omega) u5 x5_29 (⟨(⟨t795, t796, t797⟩ : S36), (⟨a0_3, a0_4, a0_5⟩ : S36)⟩ : S66) [.bool t795, .int .u64 t796, .int .u64 t797, .bool a0_3, .int .u64 a0_4, .int .u64 a0_5] (fun k_ => k_ ≠ gb778 ∧ k_ ≠ gb779) (fun _ => False) rfl (by first | (go_simp; done) | (go_simp; rfl)) ?aP (fun _ hk => hk.elim) ?aF ?aO ?aB ?aS ?aL ?_; (case aP => exact k66_mkM _ _ _ (⟨(⟨t795, t796, t797⟩ : S36), (⟨a0_3, a0_4, a0_5⟩ : S36)⟩ : S66)); (case aB => exact (zB HB)); (case aF => exact (fun k_ hk => ⟨Kd.freshB (g := gb778) (o := .cells #[.bool a0_0, .int .u64 a0_1, .int .u64 a0_2, .bool a0_3, .int .u64 a0_4, .int .u64 a0_5] 66 (0, 0)) (by refine zL ?_; refine blk_far ?_ NB778_799.out _; refine zL ?_; refine blk_far ?_ NB778_799.out _; refine zL ?_; refine blk_far ?_ NB778_799.out _; refine zL ?_; exact BK778.out) k_ hk, Kd.freshB (g := gb779) (o := .cells #[.bool a1_0, .int .u64 a1_1, .int .u64 a1_2, .bool a1_3, .int .u64 a1_4, .int .u64 a1_5] 66 (0, 0)) (by refine zL ?_; refine blk_far ?_ NB779_799.out _; refine zL ?_; refine blk_far ?_ NB779_799.out _; refine zL ?_; refine blk_far ?_ NB779_799.out _; refine zL ?_; exact BK779.out) k_ hk⟩)); (case aO => exact (by (with_reducible repeat (first | apply Kd.R_alloc | apply Kd.R_drewN | apply Kd.R_drew)); exact Kd.R_mono (Kd.R_far (p := ⟨gb799, 2, none⟩) (Kd.R_far (p := ⟨gb799, 1, none⟩) (Kd.R_far (p := ⟨gb799, 0, none⟩) (Kd.R_types HO_5.out BK799.out (by decide)) (fun _ hk => hk.2) (.bool t795)) (fun _ hk => hk.2) (.int .u64 t796)) (fun _ hk => hk.2) (.int .u64 t797)) (fun _ hk => ⟨hk.1.1, hk.1.2⟩))); (case aS => exact (below_size (zB HB))); (case aL => have := LMc50.out; omega); intro v801 w62 ho hb hg hat; rw [← Ny800.out] at ho; replace BK778 := Aside0.mk (blk_grown (g := gb778) (o := .cells #[.bool a0_0, .int .u64 a0_1, .int .u64 a0_2, .bool a0_3, .int .u64 a0_4, .int .u64 a0_5] 66 (0, 0)) (by refine zL ?_; refine blk_far ?_ NB778_799.out _; refine zL ?_; refine blk_far ?_ NB778_799.out _; refine zL ?_; refine blk_far ?_ NB778_799.out _; refine zL ?_; exact BK778.out) hg (Kd.R_away HO_5.out (fun _ hk => hk.1))); replace BK779 := Aside0.mk (blk_grown (g := gb779) (o := .cells #[.bool a1_0, .int .u64 a1_1, .int .u64 a1_2, .bool a1_3, .int .u64 a1_4, .int .u64 a1_5] 66 (0, 0)) (by refine zL ?_; refine blk_far ?_ NB779_799.out _; refine zL ?_; refine blk_far ?_ NB779_799.out _; refine zL ?_; refine blk_far ?_ NB779_799.out _; refine zL ?_; exact BK779.out) hg (Kd.R_away HO_5.out (fun _ hk => hk.2))); replace BK799 := Aside0.mk (blk_grown (g := gb799) (o := .cells #[.bool t795, .int .u64 t796, .int .u64 t797] 36 (0, 0)) (by refine zL ?_; refine blk_put (cs := #[.bool t795, .int .u64 t796, .int .u64 0]) ?_ 2 _ rfl; refine zL ?_; refine blk_put (cs := #[.bool t795, .int .u64 0, .int .u64 0]) ?_ 1 _ rfl; refine zL ?_; refine blk_put (cs := #[.bool false, .int .u64 0, .int .u64 0]) ?_ 0 _ rfl; refine zL ?_; exact BK799.out) hg (Kd.R_ne HO_5.out BK799.out (by decide))); replace HB := Aside0.mk (hb); have HO802 := Aside0.mk (ho); clear HO_5; clear ho hb hg hat))
           go_ret
           exact ⟨_, by first | rfl | (simp [errW_none, errW_some] <;> rfl) | (simp [*, errW_none, errW_some] <;> rfl), by (with_reducible repeat (first | apply Kd.R_alloc | apply Kd.R_drewN | apply Kd.R_drew)); exact Kd.R_mono HO802.out (fun _ hk => trivial), by repeat (first | (with_reducible first | exact HB.out | apply below_alloc | apply pw_below_drewN | apply below_drew1 | refine below_set ?_ GE778.out | refine below_set ?_ GE779.out | refine below_set ?_ GE799.out) | exact HB.out)⟩
         · rw [if_neg c50] at H
           exact absurd H (by simp)
       · rw [if_neg c48] at H
         have c48b0 : decide (t794 < 0) = false := decide_eq_false c48
         clear c48
         obtain rfl := Option.some.inj H
         have hnb63 := NB779_778.out
         have hnc63 := NB778_779.out
         obtain ⟨hcz64_0, hcz64_1, hcz64_2, hcz64_3, hcz64_4, hcz64_5⟩ := zc6 BK779
         obtain ⟨hfz64_0, hfz64_1, hfz64_2, hfz64_3, hfz64_4, hfz64_5⟩ := zf6 BK779
         obtain ⟨hcz65_0, hcz65_1, hcz65_2, hcz65_3, hcz65_4, hcz65_5⟩ := zc6 BK778
         obtain ⟨hfz65_0, hfz65_1, hfz65_2, hfz65_3, hfz65_4, hfz65_5⟩ := zf6 BK778
         go_wp2_with (first | ((with_reducible refine gate_callee (f := 75) rfl ?_); refine goesL_ (some 58) rfl rfl Try.func75 (by kernel_rfl) rfl #[.agg #[.bool a1_3, .int .u64 a1_4, .int .u64 a1_5], .agg #[.bool a0_3, .int .u64 a0_4, .int .u64 a0_5]] rfl (by (try simp only [List.map_toArray, List.map_cons, List.map_nil]); first | done | rfl | (simp only [List.length_drop, List.length_take]; rfl)) ?_; (with_reducible refine (address_Compare.calls a1_3 a1_4 a1_5 a0_3 a0_4 a0_5 t794 _ A47.out).mono ?_); rintro e w66 ⟨rfl, hb⟩; refine ⟨_, rfl, ?_⟩; replace HO_5 := Aside0.mk (Kd.R_below (zR HO_5) hb); replace BK778 := Aside0.mk (blk_below (g := gb778) (o := .cells #[.bool a0_0, .int .u64 a0_1, .int .u64 a0_2, .bool a0_3, .int .u64 a0_4, .int .u64 a0_5] 66 (0, 0)) (zK BK778) hb); replace BK779 := Aside0.mk (blk_below (g := gb779) (o := .cells #[.bool a1_0, .int .u64 a1_1, .int .u64 a1_2, .bool a1_3, .int .u64 a1_4, .int .u64 a1_5] 66 (0, 0)) (zK BK779) hb); replace HB := Aside0.mk (below_step (zB HB) hb); (try clear hb)))
         go_ret
         exact ⟨_, by first | rfl | (simp [errW_none, errW_some] <;> rfl) | (simp [*, errW_none, errW_some] <;> rfl), by (with_reducible repeat (first | apply Kd.R_alloc | apply Kd.R_drewN | apply Kd.R_drew)); exact Kd.R_mono HO_5.out (fun _ hk => trivial), by repeat (first | (with_reducible first | exact HB.out | apply below_alloc | apply pw_below_drewN | apply below_drew1 | refine below_set ?_ GE778.out | refine below_set ?_ GE779.out) | exact HB.out)⟩
end Go.Proofs.Ytcgfpffgiimgmaa.Q
end

section
namespace Go.Proofs.Ytcgfpffgiimgmaa.Q
open Go.RowKit Go.Proofs.YtcgfpffgiimgmaaW.PrintWords Go.Proofs.YtcgfpffgiimgmaaW.PrintLast Go.Proofs.YtcgfpffgiimgmaaW.PrintMore
attribute [local go_sem] max2_int min2_int max_two min_two max_three min_three max_four min_four
set_option linter.unusedVariables false
set_option linter.unusedSimpArgs false
mutual
def addrset_Minus.l0 : Nat → List (S66) → List (S66) → Int → Int → Option ((List (S66)))
  | 0, _, _, _, _ => none
  | k + 1, x5, x14, x15, x16 => if x16 < x15 then (if 0 ≤ x16 then (if x16 < (x14.length : Int) then (addrset_Minus.l1 k ([] : List (S66)) x14 x15 x16 x5 (x5.length : Int) 0 ((rd_T66 x14 x16).f0.f0) ((rd_T66 x14 x16).f0.f1) ((rd_T66 x14 x16).f0.f2) ((rd_T66 x14 x16).f1.f0) ((rd_T66 x14 x16).f1.f1) ((rd_T66 x14 x16).f1.f2)) else (none)) else (none)) else ((addrset_Normal.f k x5).bind fun t809 => (some t809))
def addrset_Minus.l1 : Nat → List (S66) → List (S66) → Int → Int → List (S66) → Int → Int → Bool → Int → Int → Bool → Int → Int → Option ((List (S66)))
  | 0, _, _, _, _, _, _, _, _, _, _, _, _, _ => none
  | k + 1, x8, x14, x15, x16, x20, x21, x22, x814000, x814001, x814002, x814003, x814004, x814005 => if x22 < x21 then (if 0 ≤ x22 then (if x22 < (x20.length : Int) then ((addrset_without.f k ((rd_T66 x20 x22).f0.f0) ((rd_T66 x20 x22).f0.f1) ((rd_T66 x20 x22).f0.f2) ((rd_T66 x20 x22).f1.f0) ((rd_T66 x20 x22).f1.f1) ((rd_T66 x20 x22).f1.f2) x814000 x814001 x814002 x814003 x814004 x814005).bind fun t816 => (if x8.length + t816.length < 2932031007402 then (addrset_Minus.l1 k (x8 ++ t816) x14 x15 x16 x20 x21 (wrap64 (x22 + 1)) x814000 x814001 x814002 x814003 x814004 x814005) else (none))) else (none)) else (none)) else (addrset_Minus.l0 k x8 x14 x15 (wrap64 (x16 + 1)))
end
def addrset_Minus.f (k : Nat) (l0 : List (S66)) (l1 : List (S66)) : Option ((List (S66))) := (addrset_Normal.f k l0).bind fun t803 => ((addrset_Normal.f k l1).bind fun t806 => (addrset_Minus.l0 k t803 t806 (t806.length : Int) 0))
theorem addrset_Minus.mono_l : ∀ k, (∀ y0 y1 y2 y3, LeO (addrset_Minus.l0 k y0 y1 y2 y3) (addrset_Minus.l0 (k + 1) y0 y1 y2 y3)) ∧ (∀ y0 y1 y2 y3 y4 y5 y6 y7 y8 y9 y10 y11 y12, LeO (addrset_Minus.l1 k y0 y1 y2 y3 y4 y5 y6 y7 y8 y9 y10 y11 y12) (addrset_Minus.l1 (k + 1) y0 y1 y2 y3 y4 y5 y6 y7 y8 y9 y10 y11 y12))
  | 0 => ⟨fun _ _ _ _ r h => by simp [addrset_Minus.l0] at h, fun _ _ _ _ _ _ _ _ _ _ _ _ _ r h => by simp [addrset_Minus.l1] at h⟩
  | k + 1 => by
    obtain ⟨ih0, ih1⟩ := addrset_Minus.mono_l k
    refine ⟨?_, ?_⟩
    · intro y0 y1 y2 y3
      unfold addrset_Minus.l0
      repeat' first
      | (with_reducible exact ih0 _ _ _ _)
      | (with_reducible exact ih1 _ _ _ _ _ _ _ _ _ _ _ _ _)
      | (with_reducible exact addrset_Normal.mono _ _)
      | (with_reducible exact addrset_without.mono _ _ _ _ _ _ _ _ _ _ _ _ _)
      | (with_reducible exact LeO.refl _)
      | (with_reducible exact LeO.none _)
      | (with_reducible refine LeO.ite ?_ ?_)
      | (with_reducible refine LeO.bind ?_ (fun _ => ?_))
      | exact ih0 _ _ _ _
      | exact ih1 _ _ _ _ _ _ _ _ _ _ _ _ _
      | exact addrset_Normal.mono _ _
      | exact addrset_without.mono _ _ _ _ _ _ _ _ _ _ _ _ _
      | exact LeO.none _
      | refine LeO.ite ?_ ?_
      | refine LeO.bind ?_ (fun _ => ?_)
    · intro y0 y1 y2 y3 y4 y5 y6 y7 y8 y9 y10 y11 y12
      unfold addrset_Minus.l1
      repeat' first
      | (with_reducible exact ih0 _ _ _ _)
      | (with_reducible exact ih1 _ _ _ _ _ _ _ _ _ _ _ _ _)
      | (with_reducible exact addrset_Normal.mono _ _)
      | (with_reducible exact addrset_without.mono _ _ _ _ _ _ _ _ _ _ _ _ _)
      | (with_reducible exact LeO.refl _)
      | (with_reducible exact LeO.none _)
      | (with_reducible refine LeO.ite ?_ ?_)
      | (with_reducible refine LeO.bind ?_ (fun _ => ?_))
      | exact ih0 _ _ _ _
      | exact ih1 _ _ _ _ _ _ _ _ _ _ _ _ _
      | exact addrset_Normal.mono _ _
      | exact addrset_without.mono _ _ _ _ _ _ _ _ _ _ _ _ _
      | exact LeO.none _
      | refine LeO.ite ?_ ?_
      | refine LeO.bind ?_ (fun _ => ?_)
theorem addrset_Minus.mono : ∀ a0 a1 k, LeO (addrset_Minus.f k a0 a1) (addrset_Minus.f (k + 1) a0 a1) := by
  intro a0 a1 k
  obtain ⟨ih0, ih1⟩ := addrset_Minus.mono_l k
  unfold addrset_Minus.f
  repeat' first
      | (with_reducible exact ih0 _ _ _ _)
      | (with_reducible exact ih1 _ _ _ _ _ _ _ _ _ _ _ _ _)
      | (with_reducible exact addrset_Normal.mono _ _)
      | (with_reducible exact addrset_without.mono _ _ _ _ _ _ _ _ _ _ _ _ _)
      | (with_reducible exact LeO.refl _)
      | (with_reducible exact LeO.none _)
      | (with_reducible refine LeO.ite ?_ ?_)
      | (with_reducible refine LeO.bind ?_ (fun _ => ?_))
      | exact ih0 _ _ _ _
      | exact ih1 _ _ _ _ _ _ _ _ _ _ _ _ _
      | exact addrset_Normal.mono _ _
      | exact addrset_without.mono _ _ _ _ _ _ _ _ _ _ _ _ _
      | exact LeO.none _
      | refine LeO.ite ?_ ?_
      | refine LeO.bind ?_ (fun _ => ?_)
set_option maxHeartbeats 8000000 in
set_option maxRecDepth 100000 in
theorem addrset_Minus.calls (k : Nat) (A0 : Option Addr) (c0 : Nat) (l0 : List (S66)) (A1 : Option Addr) (c1 : Nat) (l1 : List (S66)) (r : List (S66)) (w : World) (hr0 : Kd.C k66 w A0 l0.length l0) (hc0 : l0.length ≤ c0) (hr1 : Kd.C k66 w A1 l1.length l1) (hc1 : l1.length ≤ c1) (h : addrset_Minus.f k l0 l1 = some r) :
 Calls Try.prog 56 #[.slice A0 l0.length c0, .slice A1 l1.length c1] w fun e w' => ∃ v0_ : Value, e = .returned (v0_) ∧ Kd.R k66 66 w' w.heap.size (fun _ => True) v0_ r ∧ Below w.heap.size w w' := by
 have hu66 := Try.underlying66
 have HR0 := Aside0.mk hr0
 have HC0 := Aside0.mk hc0
 clear hr0 hc0
 have HR1 := Aside0.mk hr1
 have HC1 := Aside0.mk hc1
 clear hr1 hc1
 have HB := Aside0.mk (Below.refl w.heap.size w)
 have H : ((addrset_Normal.f k l0).bind fun t803 => ((addrset_Normal.f k l1).bind fun t806 => (addrset_Minus.l0 k t803 t806 (t806.length : Int) 0))) = some r := h
 clear h
 replace H := Option.bind_eq_some_iff.mp H
 obtain ⟨t803, A30, H⟩ := H
 try dsimp only at H
 have A3 := Aside0.mk A30
 clear A30
 replace H := Option.bind_eq_some_iff.mp H
 obtain ⟨t806, A40, H⟩ := H
 try dsimp only at H
 have A4 := Aside0.mk A40
 clear A40
 have H' := Aside0.mk H
 clear H
 go_enter Try.func56, Try.ntmps56
 go_wp2_with (first | ((with_reducible refine gate_callee (f := 38) rfl ?_); refine goesL_ (some 12) rfl rfl Try.func38 (by kernel_rfl) rfl #[.slice A0 l0.length c0] rfl (by (try simp only [List.map_toArray, List.map_cons, List.map_nil]); first | done | rfl | (simp only [List.length_drop, List.length_take]; rfl)) ?_; (with_reducible refine (addrset_Normal.calls k _ _ l0 t803 _ ?side1 ?side2 A3.out).mono ?_); (case side1 => repeat (first | exact HR0.out | (with_reducible refine Kd.C_alloc ?_ _) | (with_reducible refine Kd.C_drewN ?_ _) | (with_reducible refine Kd.C_drew ?_))); (case side2 => exact HC0.out); rintro e w5 ⟨v804, rfl, ho0, hb⟩; refine ⟨_, rfl, ?_⟩; have HO805 := Aside0.mk (Kd.R_lower ho0 (below_size (zB HB))); replace HB := Aside0.mk (below_step (zB HB) hb); (try clear hb); (try clear ho0)) | ((with_reducible refine gate_callee (f := 38) rfl ?_); refine goesL_ (some 14) rfl rfl Try.func38 (by kernel_rfl) rfl #[.slice A1 l1.length c1] rfl (by (try simp only [List.map_toArray, List.map_cons, List.map_nil]); first | done | rfl | (simp only [List.length_drop, List.length_take]; rfl)) ?_; (with_reducible refine (addrset_Normal.calls k _ _ l1 t806 _ ?side1 ?side2 A4.out).mono ?_); (case side1 => repeat (first | exact (Kd.C_below HR1.out HB.out) | (with_reducible refine Kd.C_alloc ?_ _) | (with_reducible refine Kd.C_drewN ?_ _) | (with_reducible refine Kd.C_drew ?_))); (case side2 => exact HC1.out); rintro e w6 ⟨v807, rfl, ho0, hb⟩; refine ⟨_, rfl, ?_⟩; have HO808 := Aside0.mk (Kd.R_lower (Kd.R_new' ho0 (Kd.R_lt (zR HO805))) (below_size (zB HB))); replace HO805 := Aside0.mk (Kd.R_elder' (zR HO805) (Kd.R_base ho0) hb); replace HB := Aside0.mk (below_step (zB HB) hb); (try clear hb); (try clear ho0); obtain ⟨Ao7, co7, eo7⟩ := Kd.R_slice HO808.out; subst eo7))
 go_loopg [5, 16] k (fun kq v5 v16 w' => ∃ (x5_1 : List (S66)) (x16_1 : Int), v16 = .int .i64 x16_1 ∧ Aside0 (addrset_Minus.l0 kq x5_1 t806 (t806.length : Int) x16_1 = some r) ∧ Aside0 (kq ≤ k) ∧ Aside0 (Kd.R k66 66 w' w.heap.size (fun k_ => some k_ ≠ ((.slice Ao7 t806.length co7) : Value).ownBlock) v5 x5_1) ∧ Aside0 (Kd.R k66 66 w' w.heap.size (fun k_ => some k_ ≠ (v5 : Value).ownBlock) (.slice Ao7 t806.length co7) t806) ∧ Aside0 (Below w.heap.size w w'))
 case atStart => exact ⟨(t803), (0), (by first | rfl | (simp; done) | (simp [*]; done)), H', ⟨Nat.le_refl _⟩, ⟨by (with_reducible repeat (first | apply Kd.R_alloc | apply Kd.R_drewN | apply Kd.R_drew)); exact Kd.R_mono HO805.out (fun _ hk => hk.2)⟩, ⟨by (with_reducible repeat (first | apply Kd.R_alloc | apply Kd.R_drewN | apply Kd.R_drew)); exact Kd.R_mono HO808.out (fun _ hk => hk.2)⟩, ⟨zB HB⟩⟩
 case round =>
  clear H'
  try clear c1
  try clear p2
  try clear c3
  try clear c5
  obtain ⟨x5_1, x16_1, rfl, HA, HK1, HO_5, HO_14, HB⟩ := hrel
  cases gk with
  | zero => exact absurd HA.out (by simp [addrset_Minus.l0])
  | succ k1 =>
   have H := HA.out
   clear HA
   simp only [addrset_Minus.l0] at H
   by_cases c8 : x16_1 < (t806.length : Int)
   · rw [if_pos c8] at H
     have c8b0 : decide (x16_1 < (t806.length : Int)) = true := decide_eq_true c8
     clear c8
     by_cases c9 : 0 ≤ x16_1
     · rw [if_pos c9] at H
       have c9b0 : decide (0 ≤ x16_1) = true := decide_eq_true c9
       clear c9
       by_cases c10 : x16_1 < (t806.length : Int)
       · rw [if_pos c10] at H
         have c10b0 : decide (x16_1 < (t806.length : Int)) = true := decide_eq_true c10
         clear c10
         have H' := Aside0.mk H
         clear H
         have p812 : 0 ≤ (x16_1 : Int) := za
         have q812 : x16_1 < (t806.length : Int) := za
         (try (obtain ⟨Ax_, cx_, ex_⟩ := Kd.R_slice HO_14.out; subst ex_))
         obtain ⟨ad812, e812, hx812_0, hx812_1, hx812_2, hx812_3, hx812_4, hx812_5⟩ := at_T66 (Kd.R_reads' HO_14.out).2.2 x16_1 p812 q812
         cases e812
         replace p812 := eq_true p812
         replace q812 := eq_true q812
         go_wp2_with (first | ((with_reducible refine gate_dst (N := 7) rfl ?_); refine zx 7 #[.bool false, .int .u64 0, .int .u64 0, .bool false, .int .u64 0, .int .u64 0] 66 ?_; intro gb813 hg w11 hbox hb; replace HO_5 := Aside0.mk (Kd.R_below (Kd.R_elderB (zR HO_5) gb813 (Nat.le_of_eq hg.symm)) hb); replace HO_14 := Aside0.mk (Kd.R_below (Kd.R_elderB (zR HO_14) gb813 (Nat.le_of_eq hg.symm)) hb); have BK813 := Aside0.mk (hbox); have GW813 := Aside0.mk ((by rw [hg]; exact (below_size (zB HB)) : w.heap.size ≤ gb813)); have GE813 := Aside0.mk ((by rw [hg]; exact (below_size (zB HB)) : w.heap.size ≤ gb813)); replace HB := Aside0.mk (below_step (zB HB) hb); clear hb hbox hg; obtain ⟨hcz12_0, hcz12_1, hcz12_2, hcz12_3, hcz12_4, hcz12_5⟩ := zc6 BK813; obtain ⟨hfz12_0, hfz12_1, hfz12_2, hfz12_3, hfz12_4, hfz12_5⟩ := zf6 BK813; obtain ⟨Ao13, co13, eo13⟩ := Kd.R_slice HO_5.out; subst eo13))
         go_loopg [8, 22] k1 (fun kq v8 v22 w' => ∃ (x8_2 : List (S66)) (x22_2 : Int), v22 = .int .i64 x22_2 ∧ Aside0 (addrset_Minus.l1 kq x8_2 t806 (t806.length : Int) x16_1 x5_1 (x5_1.length : Int) x22_2 ((rd_T66 t806 x16_1).f0.f0) ((rd_T66 t806 x16_1).f0.f1) ((rd_T66 t806 x16_1).f0.f2) ((rd_T66 t806 x16_1).f1.f0) ((rd_T66 t806 x16_1).f1.f1) ((rd_T66 t806 x16_1).f1.f2) = some r) ∧ Aside0 (kq ≤ k1) ∧ Aside0 (Kd.R k66 66 w' w.heap.size (fun k_ => some k_ ≠ ((.slice (some ad812) t806.length co7) : Value).ownBlock ∧ some k_ ≠ ((.slice Ao13 x5_1.length co13) : Value).ownBlock ∧ k_ ≠ gb813) v8 x8_2) ∧ Aside0 (Kd.R k66 66 w' w.heap.size (fun k_ => some k_ ≠ (v8 : Value).ownBlock ∧ some k_ ≠ ((.slice Ao13 x5_1.length co13) : Value).ownBlock ∧ k_ ≠ gb813) (.slice (some ad812) t806.length co7) t806) ∧ Aside0 (Kd.R k66 66 w' w.heap.size (fun k_ => some k_ ≠ (v8 : Value).ownBlock ∧ some k_ ≠ ((.slice (some ad812) t806.length co7) : Value).ownBlock ∧ k_ ≠ gb813) (.slice Ao13 x5_1.length co13) x5_1) ∧ Aside0 (w'.heap[gb813]? = some (.cells #[.bool ((rd_T66 t806 x16_1).f0.f0), .int .u64 ((rd_T66 t806 x16_1).f0.f1), .int .u64 ((rd_T66 t806 x16_1).f0.f2), .bool ((rd_T66 t806 x16_1).f1.f0), .int .u64 ((rd_T66 t806 x16_1).f1.f1), .int .u64 ((rd_T66 t806 x16_1).f1.f2)] 66 (0, 0))) ∧ Aside0 (Below w.heap.size w w'))
         case atStart => exact ⟨(([] : List (S66))), (0), (by first | rfl | (simp; done) | (simp [*]; done)), H', ⟨Nat.le_refl _⟩, ⟨by first | exact Kd.R_nil _ _ _ _ _ | exact Kd.N_nil _ _ _ _ _ | exact Kd.V_nil _ _ _ _ _ | exact Kd.Q_nil _ _ _ _ _ | exact Kd.S_nil _ _ _ _ _⟩, ⟨by (with_reducible repeat (first | apply Kd.R_alloc | apply Kd.R_drewN | apply Kd.R_drew)); exact Kd.R_mono (Kd.R_far (p := ⟨gb813, 5, none⟩) (Kd.R_far (p := ⟨gb813, 4, none⟩) (Kd.R_far (p := ⟨gb813, 3, none⟩) (Kd.R_far (p := ⟨gb813, 2, none⟩) (Kd.R_far (p := ⟨gb813, 1, none⟩) (Kd.R_far (p := ⟨gb813, 0, none⟩) (Kd.R_mono HO_14.out (fun k_ hk => (⟨hk, hk.2⟩ : _ ∧ k_ ≠ gb813))) (fun _ hk => hk.2) (.bool ((rd_T66 t806 x16_1).f0.f0))) (fun _ hk => hk.2) (.int .u64 ((rd_T66 t806 x16_1).f0.f1))) (fun _ hk => hk.2) (.int .u64 ((rd_T66 t806 x16_1).f0.f2))) (fun _ hk => hk.2) (.bool ((rd_T66 t806 x16_1).f1.f0))) (fun _ hk => hk.2) (.int .u64 ((rd_T66 t806 x16_1).f1.f1))) (fun _ hk => hk.2) (.int .u64 ((rd_T66 t806 x16_1).f1.f2))) (fun _ hk => ⟨(by simp [Value.ownBlock]), ⟨hk.1.1, hk.1.2⟩⟩)⟩, ⟨by (with_reducible repeat (first | apply Kd.R_alloc | apply Kd.R_drewN | apply Kd.R_drew)); exact Kd.R_mono (Kd.R_far (p := ⟨gb813, 5, none⟩) (Kd.R_far (p := ⟨gb813, 4, none⟩) (Kd.R_far (p := ⟨gb813, 3, none⟩) (Kd.R_far (p := ⟨gb813, 2, none⟩) (Kd.R_far (p := ⟨gb813, 1, none⟩) (Kd.R_far (p := ⟨gb813, 0, none⟩) (Kd.R_mono HO_5.out (fun k_ hk => (⟨hk, hk.2⟩ : _ ∧ k_ ≠ gb813))) (fun _ hk => hk.2) (.bool ((rd_T66 t806 x16_1).f0.f0))) (fun _ hk => hk.2) (.int .u64 ((rd_T66 t806 x16_1).f0.f1))) (fun _ hk => hk.2) (.int .u64 ((rd_T66 t806 x16_1).f0.f2))) (fun _ hk => hk.2) (.bool ((rd_T66 t806 x16_1).f1.f0))) (fun _ hk => hk.2) (.int .u64 ((rd_T66 t806 x16_1).f1.f1))) (fun _ hk => hk.2) (.int .u64 ((rd_T66 t806 x16_1).f1.f2))) (fun _ hk => ⟨(by simp [Value.ownBlock]), ⟨hk.1.1, hk.1.2⟩⟩)⟩, ⟨by refine zL ?_; refine blk_put (cs := #[.bool ((rd_T66 t806 x16_1).f0.f0), .int .u64 ((rd_T66 t806 x16_1).f0.f1), .int .u64 ((rd_T66 t806 x16_1).f0.f2), .bool ((rd_T66 t806 x16_1).f1.f0), .int .u64 ((rd_T66 t806 x16_1).f1.f1), .int .u64 0]) ?_ 5 _ rfl; refine zL ?_; refine blk_put (cs := #[.bool ((rd_T66 t806 x16_1).f0.f0), .int .u64 ((rd_T66 t806 x16_1).f0.f1), .int .u64 ((rd_T66 t806 x16_1).f0.f2), .bool ((rd_T66 t806 x16_1).f1.f0), .int .u64 0, .int .u64 0]) ?_ 4 _ rfl; refine zL ?_; refine blk_put (cs := #[.bool ((rd_T66 t806 x16_1).f0.f0), .int .u64 ((rd_T66 t806 x16_1).f0.f1), .int .u64 ((rd_T66 t806 x16_1).f0.f2), .bool false, .int .u64 0, .int .u64 0]) ?_ 3 _ rfl; refine zL ?_; refine blk_put (cs := #[.bool ((rd_T66 t806 x16_1).f0.f0), .int .u64 ((rd_T66 t806 x16_1).f0.f1), .int .u64 0, .bool false, .int .u64 0, .int .u64 0]) ?_ 2 _ rfl; refine zL ?_; refine blk_put (cs := #[.bool ((rd_T66 t806 x16_1).f0.f0), .int .u64 0, .int .u64 0, .bool false, .int .u64 0, .int .u64 0]) ?_ 1 _ rfl; refine zL ?_; refine blk_put (cs := #[.bool false, .int .u64 0, .int .u64 0, .bool false, .int .u64 0, .int .u64 0]) ?_ 0 _ rfl; refine zL ?_; exact BK813.out⟩, ⟨zB HB⟩⟩
         case round =>
          clear H'
          try clear c1
          try clear p2
          try clear c3
          try clear c5
          try clear c8
          try clear c8b0
          try clear p8
          try clear q8
          try clear hx8
          try clear c9
          try clear c9b0
          try clear c10
          try clear c10b0
          try clear hcz12_0
          try clear hcz12_1
          try clear hcz12_2
          try clear hcz12_3
          try clear hcz12_4
          try clear hcz12_5
          try clear hfz12_0
          try clear hfz12_1
          try clear hfz12_2
          try clear hfz12_3
          try clear hfz12_4
          try clear hfz12_5
          try clear hx812_0
          try clear hx812_1
          try clear hx812_2
          try clear hx812_3
          try clear hx812_4
          try clear hx812_5
          try clear p2
          try clear p812
          try clear q812
          obtain ⟨x8_2, x22_2, rfl, HA, HK2, HO_8, HO_14, HO_20, BK813, HB⟩ := hrel
          cases gk with
          | zero => exact absurd HA.out (by simp [addrset_Minus.l1])
          | succ k2 =>
           have H := HA.out
           clear HA
           simp only [addrset_Minus.l1] at H
           by_cases c14 : x22_2 < (x5_1.length : Int)
           · rw [if_pos c14] at H
             have c14b0 : decide (x22_2 < (x5_1.length : Int)) = true := decide_eq_true c14
             clear c14
             by_cases c15 : 0 ≤ x22_2
             · rw [if_pos c15] at H
               have c15b0 : decide (0 ≤ x22_2) = true := decide_eq_true c15
               clear c15
               by_cases c16 : x22_2 < (x5_1.length : Int)
               · rw [if_pos c16] at H
                 have c16b0 : decide (x22_2 < (x5_1.length : Int)) = true := decide_eq_true c16
                 clear c16
                 replace H := Option.bind_eq_some_iff.mp H
                 obtain ⟨t816, A170, H⟩ := H
                 try dsimp only at H
                 have A17 := Aside0.mk A170
                 clear A170
                 by_cases c18 : x8_2.length + t816.length < 2932031007402
                 · rw [if_pos c18] at H
                   have LMc18 := Aside0.mk c18
                   clear c18
                   obtain ⟨y819, hy819⟩ : ∃ y_ : List (S66), y_ = (x8_2 ++ t816) := ⟨_, rfl⟩
                   replace H : (addrset_Minus.l1 k2 y819 t806 (t806.length : Int) x16_1 x5_1 (x5_1.length : Int) (wrap64 (x22_2 + 1)) ((rd_T66 t806 x16_1).f0.f0) ((rd_T66 t806 x16_1).f0.f1) ((rd_T66 t806 x16_1).f0.f2) ((rd_T66 t806 x16_1).f1.f0) ((rd_T66 t806 x16_1).f1.f1) ((rd_T66 t806 x16_1).f1.f2)) = some r := by first | (rw [hy819]; with_reducible exact H) | (have H2_ := (Option.bind_some _ _).symm.trans H; rw [hy819]; with_reducible exact H2_) | (have H2_ := (Option.bind_some _ _).symm.trans H; with_reducible exact H2_) | with_reducible exact H | (rw [hy819]; exact H) | exact H
                   have Ny819 := Aside0.mk hy819
                   clear hy819
                   have H' := Aside0.mk H
                   clear H
                   have p814 : 0 ≤ (x22_2 : Int) := za
                   have q814 : x22_2 < (x5_1.length : Int) := za
                   (try (obtain ⟨Ax_, cx_, ex_⟩ := Kd.R_slice HO_20.out; subst ex_))
                   obtain ⟨ad814, e814, hx814_0, hx814_1, hx814_2, hx814_3, hx814_4, hx814_5⟩ := at_T66 (Kd.R_reads' HO_20.out).2.2 x22_2 p814 q814
                   cases e814
                   replace p814 := eq_true p814
                   replace q814 := eq_true q814
                   go_wp2_with (first | ((with_reducible refine gate_dst (N := 10) rfl ?_); refine zx 10 #[.bool false, .int .u64 0, .int .u64 0, .bool false, .int .u64 0, .int .u64 0] 66 ?_; intro gb815 hg w19 hbox hb; replace HO_8 := Aside0.mk (Kd.R_below (Kd.R_elderB (zR HO_8) gb815 (Nat.le_of_eq hg.symm)) hb); replace HO_14 := Aside0.mk (Kd.R_below (Kd.R_elderB (zR HO_14) gb815 (Nat.le_of_eq hg.symm)) hb); replace HO_20 := Aside0.mk (Kd.R_below (Kd.R_elderB (zR HO_20) gb815 (Nat.le_of_eq hg.symm)) hb); have BK815 := Aside0.mk (hbox); have GW815 := Aside0.mk ((by rw [hg]; exact (below_size (zB HB)) : w.heap.size ≤ gb815)); have GE815 := Aside0.mk ((by rw [hg]; exact (below_size (zB HB)) : w.heap.size ≤ gb815)); replace HB := Aside0.mk (below_step (zB HB) hb); have NB813_815 := Aside0.mk ((by rw [hg]; exact Nat.ne_of_lt (blk_lt (g := gb813) (o := .cells #[.bool ((rd_T66 t806 x16_1).f0.f0), .int .u64 ((rd_T66 t806 x16_1).f0.f1), .int .u64 ((rd_T66 t806 x16_1).f0.f2), .bool ((rd_T66 t806 x16_1).f1.f0), .int .u64 ((rd_T66 t806 x16_1).f1.f1), .int .u64 ((rd_T66 t806 x16_1).f1.f2)] 66 (0, 0)) (zK BK813)) : gb813 ≠ gb815)); have NB815_813 := Aside0.mk ((by rw [hg]; exact Nat.ne_of_gt (blk_lt (g := gb813) (o := .cells #[.bool ((rd_T66 t806 x16_1).f0.f0), .int .u64 ((rd_T66 t806 x16_1).f0.f1), .int .u64 ((rd_T66 t806 x16_1).f0.f2), .bool ((rd_T66 t806 x16_1).f1.f0), .int .u64 ((rd_T66 t806 x16_1).f1.f1), .int .u64 ((rd_T66 t806 x16_1).f1.f2)] 66 (0, 0)) (zK BK813)) : gb815 ≠ gb813)); replace BK813 := Aside0.mk (blk_below (g := gb813) (o := .cells #[.bool ((rd_T66 t806 x16_1).f0.f0), .int .u64 ((rd_T66 t806 x16_1).f0.f1), .int .u64 ((rd_T66 t806 x16_1).f0.f2), .bool ((rd_T66 t806 x16_1).f1.f0), .int .u64 ((rd_T66 t806 x16_1).f1.f1), .int .u64 ((rd_T66 t806 x16_1).f1.f2)] 66 (0, 0)) (zK BK813) hb); clear hb hbox hg; have hnb20 := NB815_813.out; have hnc20 := NB813_815.out; obtain ⟨hcz21_0, hcz21_1, hcz21_2, hcz21_3, hcz21_4, hcz21_5⟩ := zc6 BK815; obtain ⟨hfz21_0, hfz21_1, hfz21_2, hfz21_3, hfz21_4, hfz21_5⟩ := zf6 BK815; obtain ⟨hcz22_0, hcz22_1, hcz22_2, hcz22_3, hcz22_4, hcz22_5⟩ := zc6 BK813; obtain ⟨hfz22_0, hfz22_1, hfz22_2, hfz22_3, hfz22_4, hfz22_5⟩ := zf6 BK813) | ((with_reducible refine gate_callee (f := 96) rfl ?_); refine goesL_ (some 29) rfl rfl Try.func96 (by kernel_rfl) rfl #[.agg #[.bool ((rd_T66 x5_1 x22_2).f0.f0), .int .u64 ((rd_T66 x5_1 x22_2).f0.f1), .int .u64 ((rd_T66 x5_1 x22_2).f0.f2), .bool ((rd_T66 x5_1 x22_2).f1.f0), .int .u64 ((rd_T66 x5_1 x22_2).f1.f1), .int .u64 ((rd_T66 x5_1 x22_2).f1.f2)], .agg #[.bool ((rd_T66 t806 x16_1).f0.f0), .int .u64 ((rd_T66 t806 x16_1).f0.f1), .int .u64 ((rd_T66 t806 x16_1).f0.f2), .bool ((rd_T66 t806 x16_1).f1.f0), .int .u64 ((rd_T66 t806 x16_1).f1.f1), .int .u64 ((rd_T66 t806 x16_1).f1.f2)]] rfl (by (try simp only [List.map_toArray, List.map_cons, List.map_nil]); first | done | rfl | (simp only [List.length_drop, List.length_take]; rfl)) ?_; (with_reducible refine (addrset_without.calls k2 ((rd_T66 x5_1 x22_2).f0.f0) ((rd_T66 x5_1 x22_2).f0.f1) ((rd_T66 x5_1 x22_2).f0.f2) ((rd_T66 x5_1 x22_2).f1.f0) ((rd_T66 x5_1 x22_2).f1.f1) ((rd_T66 x5_1 x22_2).f1.f2) ((rd_T66 t806 x16_1).f0.f0) ((rd_T66 t806 x16_1).f0.f1) ((rd_T66 t806 x16_1).f0.f2) ((rd_T66 t806 x16_1).f1.f0) ((rd_T66 t806 x16_1).f1.f1) ((rd_T66 t806 x16_1).f1.f2) t816 _ A17.out).mono ?_); rintro e w23 ⟨v817, rfl, ho0, hb⟩; refine ⟨_, rfl, ?_⟩; have HO818 := Aside0.mk (Kd.R_lower (Kd.R_newB (Kd.R_newB (Kd.R_new' (Kd.R_new' (Kd.R_new' ho0 (Kd.R_lt (zQ (Kd.R_mono (Kd.R_far (p := ⟨gb815, 5, none⟩) (Kd.R_far (p := ⟨gb815, 4, none⟩) (Kd.R_far (p := ⟨gb815, 3, none⟩) (Kd.R_far (p := ⟨gb815, 2, none⟩) (Kd.R_far (p := ⟨gb815, 1, none⟩) (Kd.R_far (p := ⟨gb815, 0, none⟩) (Kd.R_mono HO_8.out (fun k_ hk => (⟨hk, hk.2⟩ : _ ∧ k_ ≠ gb815))) (fun _ hk => hk.2) (.bool ((rd_T66 x5_1 x22_2).f0.f0))) (fun _ hk => hk.2) (.int .u64 ((rd_T66 x5_1 x22_2).f0.f1))) (fun _ hk => hk.2) (.int .u64 ((rd_T66 x5_1 x22_2).f0.f2))) (fun _ hk => hk.2) (.bool ((rd_T66 x5_1 x22_2).f1.f0))) (fun _ hk => hk.2) (.int .u64 ((rd_T66 x5_1 x22_2).f1.f1))) (fun _ hk => hk.2) (.int .u64 ((rd_T66 x5_1 x22_2).f1.f2))) (fun _ h_ => h_.1))))) (Kd.R_lt (zQ (Kd.R_mono (Kd.R_far (p := ⟨gb815, 5, none⟩) (Kd.R_far (p := ⟨gb815, 4, none⟩) (Kd.R_far (p := ⟨gb815, 3, none⟩) (Kd.R_far (p := ⟨gb815, 2, none⟩) (Kd.R_far (p := ⟨gb815, 1, none⟩) (Kd.R_far (p := ⟨gb815, 0, none⟩) (Kd.R_mono HO_14.out (fun k_ hk => (⟨hk, hk.2⟩ : _ ∧ k_ ≠ gb815))) (fun _ hk => hk.2) (.bool ((rd_T66 x5_1 x22_2).f0.f0))) (fun _ hk => hk.2) (.int .u64 ((rd_T66 x5_1 x22_2).f0.f1))) (fun _ hk => hk.2) (.int .u64 ((rd_T66 x5_1 x22_2).f0.f2))) (fun _ hk => hk.2) (.bool ((rd_T66 x5_1 x22_2).f1.f0))) (fun _ hk => hk.2) (.int .u64 ((rd_T66 x5_1 x22_2).f1.f1))) (fun _ hk => hk.2) (.int .u64 ((rd_T66 x5_1 x22_2).f1.f2))) (fun _ h_ => h_.1))))) (Kd.R_lt (zQ (Kd.R_mono (Kd.R_far (p := ⟨gb815, 5, none⟩) (Kd.R_far (p := ⟨gb815, 4, none⟩) (Kd.R_far (p := ⟨gb815, 3, none⟩) (Kd.R_far (p := ⟨gb815, 2, none⟩) (Kd.R_far (p := ⟨gb815, 1, none⟩) (Kd.R_far (p := ⟨gb815, 0, none⟩) (Kd.R_mono HO_20.out (fun k_ hk => (⟨hk, hk.2⟩ : _ ∧ k_ ≠ gb815))) (fun _ hk => hk.2) (.bool ((rd_T66 x5_1 x22_2).f0.f0))) (fun _ hk => hk.2) (.int .u64 ((rd_T66 x5_1 x22_2).f0.f1))) (fun _ hk => hk.2) (.int .u64 ((rd_T66 x5_1 x22_2).f0.f2))) (fun _ hk => hk.2) (.bool ((rd_T66 x5_1 x22_2).f1.f0))) (fun _ hk => hk.2) (.int .u64 ((rd_T66 x5_1 x22_2).f1.f1))) (fun _ hk => hk.2) (.int .u64 ((rd_T66 x5_1 x22_2).f1.f2))) (fun _ h_ => h_.1))))) (g := gb813) (o := .cells #[.bool ((rd_T66 t806 x16_1).f0.f0), .int .u64 ((rd_T66 t806 x16_1).f0.f1), .int .u64 ((rd_T66 t806 x16_1).f0.f2), .bool ((rd_T66 t806 x16_1).f1.f0), .int .u64 ((rd_T66 t806 x16_1).f1.f1), .int .u64 ((rd_T66 t806 x16_1).f1.f2)] 66 (0, 0)) (by refine zL ?_; refine blk_far ?_ NB813_815.out _; refine zL ?_; refine blk_far ?_ NB813_815.out _; refine zL ?_; refine blk_far ?_ NB813_815.out _; refine zL ?_; refine blk_far ?_ NB813_815.out _; refine zL ?_; refine blk_far ?_ NB813_815.out _; refine zL ?_; refine blk_far ?_ NB813_815.out _; refine zL ?_; exact BK813.out)) (g := gb815) (o := .cells #[.bool ((rd_T66 x5_1 x22_2).f0.f0), .int .u64 ((rd_T66 x5_1 x22_2).f0.f1), .int .u64 ((rd_T66 x5_1 x22_2).f0.f2), .bool ((rd_T66 x5_1 x22_2).f1.f0), .int .u64 ((rd_T66 x5_1 x22_2).f1.f1), .int .u64 ((rd_T66 x5_1 x22_2).f1.f2)] 66 (0, 0)) (by refine zL ?_; refine blk_put (cs := #[.bool ((rd_T66 x5_1 x22_2).f0.f0), .int .u64 ((rd_T66 x5_1 x22_2).f0.f1), .int .u64 ((rd_T66 x5_1 x22_2).f0.f2), .bool ((rd_T66 x5_1 x22_2).f1.f0), .int .u64 ((rd_T66 x5_1 x22_2).f1.f1), .int .u64 0]) ?_ 5 _ rfl; refine zL ?_; refine blk_put (cs := #[.bool ((rd_T66 x5_1 x22_2).f0.f0), .int .u64 ((rd_T66 x5_1 x22_2).f0.f1), .int .u64 ((rd_T66 x5_1 x22_2).f0.f2), .bool ((rd_T66 x5_1 x22_2).f1.f0), .int .u64 0, .int .u64 0]) ?_ 4 _ rfl; refine zL ?_; refine blk_put (cs := #[.bool ((rd_T66 x5_1 x22_2).f0.f0), .int .u64 ((rd_T66 x5_1 x22_2).f0.f1), .int .u64 ((rd_T66 x5_1 x22_2).f0.f2), .bool false, .int .u64 0, .int .u64 0]) ?_ 3 _ rfl; refine zL ?_; refine blk_put (cs := #[.bool ((rd_T66 x5_1 x22_2).f0.f0), .int .u64 ((rd_T66 x5_1 x22_2).f0.f1), .int .u64 0, .bool false, .int .u64 0, .int .u64 0]) ?_ 2 _ rfl; refine zL ?_; refine blk_put (cs := #[.bool ((rd_T66 x5_1 x22_2).f0.f0), .int .u64 0, .int .u64 0, .bool false, .int .u64 0, .int .u64 0]) ?_ 1 _ rfl; refine zL ?_; refine blk_put (cs := #[.bool false, .int .u64 0, .int .u64 0, .bool false, .int .u64 0, .int .u64 0]) ?_ 0 _ rfl; refine zL ?_; exact BK815.out)) (below_size (zB HB))); replace HO_8 := Aside0.mk (Kd.R_elder' (zQ (Kd.R_mono (Kd.R_far (p := ⟨gb815, 5, none⟩) (Kd.R_far (p := ⟨gb815, 4, none⟩) (Kd.R_far (p := ⟨gb815, 3, none⟩) (Kd.R_far (p := ⟨gb815, 2, none⟩) (Kd.R_far (p := ⟨gb815, 1, none⟩) (Kd.R_far (p := ⟨gb815, 0, none⟩) (Kd.R_mono HO_8.out (fun k_ hk => (⟨hk, hk.2⟩ : _ ∧ k_ ≠ gb815))) (fun _ hk => hk.2) (.bool ((rd_T66 x5_1 x22_2).f0.f0))) (fun _ hk => hk.2) (.int .u64 ((rd_T66 x5_1 x22_2).f0.f1))) (fun _ hk => hk.2) (.int .u64 ((rd_T66 x5_1 x22_2).f0.f2))) (fun _ hk => hk.2) (.bool ((rd_T66 x5_1 x22_2).f1.f0))) (fun _ hk => hk.2) (.int .u64 ((rd_T66 x5_1 x22_2).f1.f1))) (fun _ hk => hk.2) (.int .u64 ((rd_T66 x5_1 x22_2).f1.f2))) (fun _ h_ => h_.1))) (Kd.R_base ho0) hb); replace HO_14 := Aside0.mk (Kd.R_elder' (zQ (Kd.R_mono (Kd.R_far (p := ⟨gb815, 5, none⟩) (Kd.R_far (p := ⟨gb815, 4, none⟩) (Kd.R_far (p := ⟨gb815, 3, none⟩) (Kd.R_far (p := ⟨gb815, 2, none⟩) (Kd.R_far (p := ⟨gb815, 1, none⟩) (Kd.R_far (p := ⟨gb815, 0, none⟩) (Kd.R_mono HO_14.out (fun k_ hk => (⟨hk, hk.2⟩ : _ ∧ k_ ≠ gb815))) (fun _ hk => hk.2) (.bool ((rd_T66 x5_1 x22_2).f0.f0))) (fun _ hk => hk.2) (.int .u64 ((rd_T66 x5_1 x22_2).f0.f1))) (fun _ hk => hk.2) (.int .u64 ((rd_T66 x5_1 x22_2).f0.f2))) (fun _ hk => hk.2) (.bool ((rd_T66 x5_1 x22_2).f1.f0))) (fun _ hk => hk.2) (.int .u64 ((rd_T66 x5_1 x22_2).f1.f1))) (fun _ hk => hk.2) (.int .u64 ((rd_T66 x5_1 x22_2).f1.f2))) (fun _ h_ => h_.1))) (Kd.R_base ho0) hb); replace HO_20 := Aside0.mk (Kd.R_elder' (zQ (Kd.R_mono (Kd.R_far (p := ⟨gb815, 5, none⟩) (Kd.R_far (p := ⟨gb815, 4, none⟩) (Kd.R_far (p := ⟨gb815, 3, none⟩) (Kd.R_far (p := ⟨gb815, 2, none⟩) (Kd.R_far (p := ⟨gb815, 1, none⟩) (Kd.R_far (p := ⟨gb815, 0, none⟩) (Kd.R_mono HO_20.out (fun k_ hk => (⟨hk, hk.2⟩ : _ ∧ k_ ≠ gb815))) (fun _ hk => hk.2) (.bool ((rd_T66 x5_1 x22_2).f0.f0))) (fun _ hk => hk.2) (.int .u64 ((rd_T66 x5_1 x22_2).f0.f1))) (fun _ hk => hk.2) (.int .u64 ((rd_T66 x5_1 x22_2).f0.f2))) (fun _ hk => hk.2) (.bool ((rd_T66 x5_1 x22_2).f1.f0))) (fun _ hk => hk.2) (.int .u64 ((rd_T66 x5_1 x22_2).f1.f1))) (fun _ hk => hk.2) (.int .u64 ((rd_T66 x5_1 x22_2).f1.f2))) (fun _ h_ => h_.1))) (Kd.R_base ho0) hb); replace BK813 := Aside0.mk (blk_below (g := gb813) (o := .cells #[.bool ((rd_T66 t806 x16_1).f0.f0), .int .u64 ((rd_T66 t806 x16_1).f0.f1), .int .u64 ((rd_T66 t806 x16_1).f0.f2), .bool ((rd_T66 t806 x16_1).f1.f0), .int .u64 ((rd_T66 t806 x16_1).f1.f1), .int .u64 ((rd_T66 t806 x16_1).f1.f2)] 66 (0, 0)) (by refine zL ?_; refine blk_far ?_ NB813_815.out _; refine zL ?_; refine blk_far ?_ NB813_815.out _; refine zL ?_; refine blk_far ?_ NB813_815.out _; refine zL ?_; refine blk_far ?_ NB813_815.out _; refine zL ?_; refine blk_far ?_ NB813_815.out _; refine zL ?_; refine blk_far ?_ NB813_815.out _; refine zL ?_; exact BK813.out) hb); replace BK815 := Aside0.mk (blk_below (g := gb815) (o := .cells #[.bool ((rd_T66 x5_1 x22_2).f0.f0), .int .u64 ((rd_T66 x5_1 x22_2).f0.f1), .int .u64 ((rd_T66 x5_1 x22_2).f0.f2), .bool ((rd_T66 x5_1 x22_2).f1.f0), .int .u64 ((rd_T66 x5_1 x22_2).f1.f1), .int .u64 ((rd_T66 x5_1 x22_2).f1.f2)] 66 (0, 0)) (by refine zL ?_; refine blk_put (cs := #[.bool ((rd_T66 x5_1 x22_2).f0.f0), .int .u64 ((rd_T66 x5_1 x22_2).f0.f1), .int .u64 ((rd_T66 x5_1 x22_2).f0.f2), .bool ((rd_T66 x5_1 x22_2).f1.f0), .int .u64 ((rd_T66 x5_1 x22_2).f1.f1), .int .u64 0]) ?_ 5 _ rfl; refine zL ?_; refine blk_put (cs := #[.bool ((rd_T66 x5_1 x22_2).f0.f0), .int .u64 ((rd_T66 x5_1 x22_2).f0.f1), .int .u64 ((rd_T66 x5_1 x22_2).f0.f2), .bool ((rd_T66 x5_1 x22_2).f1.f0), .int .u64 0, .int .u64 0]) ?_ 4 _ rfl; refine zL ?_; refine blk_put (cs := #[.bool ((rd_T66 x5_1 x22_2).f0.f0), .int .u64 ((rd_T66 x5_1 x22_2).f0.f1), .int .u64 ((rd_T66 x5_1 x22_2).f0.f2), .bool false, .int .u64 0, .int .u64 0]) ?_ 3 _ rfl; refine zL ?_; refine blk_put (cs := #[.bool ((rd_T66 x5_1 x22_2).f0.f0), .int .u64 ((rd_T66 x5_1 x22_2).f0.f1), .int .u64 0, .bool false, .int .u64 0, .int .u64 0]) ?_ 2 _ rfl; refine zL ?_; refine blk_put (cs := #[.bool ((rd_T66 x5_1 x22_2).f0.f0), .int .u64 0, .int .u64 0, .bool false, .int .u64 0, .int .u64 0]) ?_ 1 _ rfl; refine zL ?_; refine blk_put (cs := #[.bool false, .int .u64 0, .int .u64 0, .bool false, .int .u64 0, .int .u64 0]) ?_ 0 _ rfl; refine zL ?_; exact BK815.out) hb); replace HB := Aside0.mk (below_step (zB HB) hb); (try clear hb); (try clear ho0); obtain ⟨Ao25, co25, eo25⟩ := Kd.R_slice HO818.out; subst eo25) | ((with_reducible refine gate_builtin (b := .append) (xs := #[.tmp 26, .tmp 29]) rfl ?_); at_builtin; refine Kd.R_append_rows k66 (w0 := w) w.heap.size rfl (.tmp 26) (.tmp 29) 33 66 (.agg #[(.bool false), (.int .u64 0), (.int .u64 0), (.bool false), (.int .u64 0), (.int .u64 0)]) 48 rfl Try.underlying33 info66 rfl (by decide) (by omega) u8 x8_2 t816 _ _ _ (fun k_ => some k_ ≠ (.slice (some ad812) t806.length co7 : Value).ownBlock ∧ some k_ ≠ (.slice (some ad814) x5_1.length co13 : Value).ownBlock ∧ some k_ ≠ (.slice Ao25 t816.length co25 : Value).ownBlock ∧ k_ ≠ gb813 ∧ k_ ≠ gb815) (fun _ => False) rfl rfl ?aO ?aR (fun _ _ h => h) (fun _ h => h.elim) ?aF ?aB ?aS ?aL ?_; (case aR => repeat (first | exact (Kd.R_reads' HO818.out).2.2 | (with_reducible refine Kd.C_alloc ?_ _) | (with_reducible refine Kd.C_drewN ?_ _) | (with_reducible refine Kd.C_drew ?_))); (case aB => exact (zB HB)); (case aF => exact (fun k_ hk => ⟨Kd.fresh' (Kd.R_lt (zR HO_14)) k_ hk, Kd.fresh' (Kd.R_lt (zR HO_20)) k_ hk, Kd.fresh' (Kd.R_lt (zR HO818)) k_ hk, Kd.freshB (g := gb813) (o := .cells #[.bool ((rd_T66 t806 x16_1).f0.f0), .int .u64 ((rd_T66 t806 x16_1).f0.f1), .int .u64 ((rd_T66 t806 x16_1).f0.f2), .bool ((rd_T66 t806 x16_1).f1.f0), .int .u64 ((rd_T66 t806 x16_1).f1.f1), .int .u64 ((rd_T66 t806 x16_1).f1.f2)] 66 (0, 0)) (zK BK813) k_ hk, Kd.freshB (g := gb815) (o := .cells #[.bool ((rd_T66 x5_1 x22_2).f0.f0), .int .u64 ((rd_T66 x5_1 x22_2).f0.f1), .int .u64 ((rd_T66 x5_1 x22_2).f0.f2), .bool ((rd_T66 x5_1 x22_2).f1.f0), .int .u64 ((rd_T66 x5_1 x22_2).f1.f1), .int .u64 ((rd_T66 x5_1 x22_2).f1.f2)] 66 (0, 0)) (zK BK815) k_ hk⟩)); (case aO => exact (by (with_reducible repeat (first | apply Kd.R_alloc | apply Kd.R_drewN | apply Kd.R_drew)); exact Kd.R_mono HO_8.out (fun _ hk => ⟨hk.1.1.1, ⟨hk.1.1.2.1, ⟨hk.2, ⟨hk.1.1.2.2, hk.1.2⟩⟩⟩⟩))); (case aS => exact (below_size (zB HB))); (case aL => have := LMc18.out; omega); intro v820 w24 ho hb hg hat; rw [← Ny819.out] at ho; replace HO_14 := Aside0.mk (Kd.R_after (ok := (fun k_ => some k_ ≠ (.slice (some ad814) x5_1.length co13 : Value).ownBlock ∧ some k_ ≠ (.slice Ao25 t816.length co25 : Value).ownBlock ∧ k_ ≠ gb813 ∧ k_ ≠ gb815)) (by (with_reducible repeat (first | apply Kd.R_alloc | apply Kd.R_drewN | apply Kd.R_drew)); exact Kd.R_mono HO_14.out (fun _ hk => ⟨⟨hk.1.1.2.1, ⟨hk.2, ⟨hk.1.1.2.2, hk.1.2⟩⟩⟩, hk.1.1.1⟩)) hg hat); replace HO_20 := Aside0.mk (Kd.R_after (ok := (fun k_ => some k_ ≠ (.slice (some ad812) t806.length co7 : Value).ownBlock ∧ some k_ ≠ (.slice Ao25 t816.length co25 : Value).ownBlock ∧ k_ ≠ gb813 ∧ k_ ≠ gb815)) (by (with_reducible repeat (first | apply Kd.R_alloc | apply Kd.R_drewN | apply Kd.R_drew)); exact Kd.R_mono HO_20.out (fun _ hk => ⟨⟨hk.1.1.2.1, ⟨hk.2, ⟨hk.1.1.2.2, hk.1.2⟩⟩⟩, hk.1.1.1⟩)) hg hat); replace BK813 := Aside0.mk (blk_grown (g := gb813) (o := .cells #[.bool ((rd_T66 t806 x16_1).f0.f0), .int .u64 ((rd_T66 t806 x16_1).f0.f1), .int .u64 ((rd_T66 t806 x16_1).f0.f2), .bool ((rd_T66 t806 x16_1).f1.f0), .int .u64 ((rd_T66 t806 x16_1).f1.f1), .int .u64 ((rd_T66 t806 x16_1).f1.f2)] 66 (0, 0)) (zK BK813) hg (Kd.R_away HO_8.out (fun _ hk => hk.1.1.2.2))); replace BK815 := Aside0.mk (blk_grown (g := gb815) (o := .cells #[.bool ((rd_T66 x5_1 x22_2).f0.f0), .int .u64 ((rd_T66 x5_1 x22_2).f0.f1), .int .u64 ((rd_T66 x5_1 x22_2).f0.f2), .bool ((rd_T66 x5_1 x22_2).f1.f0), .int .u64 ((rd_T66 x5_1 x22_2).f1.f1), .int .u64 ((rd_T66 x5_1 x22_2).f1.f2)] 66 (0, 0)) (zK BK815) hg (Kd.R_away HO_8.out (fun _ hk => hk.1.2))); replace HO818 := Aside0.mk (Kd.R_after (ok := (fun k_ => some k_ ≠ (.slice (some ad812) t806.length co7 : Value).ownBlock ∧ some k_ ≠ (.slice (some ad814) x5_1.length co13 : Value).ownBlock ∧ k_ ≠ gb813 ∧ k_ ≠ gb815)) (by (with_reducible repeat (first | apply Kd.R_alloc | apply Kd.R_drewN | apply Kd.R_drew)); exact Kd.R_mono HO818.out (fun _ hk => ⟨⟨hk.1.1.1.2, ⟨hk.1.1.2, ⟨hk.1.2, hk.2⟩⟩⟩, hk.1.1.1.1.2⟩)) hg hat); replace HB := Aside0.mk (hb); have HO821 := Aside0.mk (ho); clear HO_8; clear ho hb hg hat))
                   go_roundg k2
                   case measure => have := HK1.out; have := HK2.out; omega
                   case rel => exact ⟨(y819), (wrap64 (x22_2 + 1)), (by first | rfl | (simp; done) | (simp [*]; done)), H', ⟨by have := HK1.out; have := HK2.out; omega⟩, ⟨by (with_reducible repeat (first | apply Kd.R_alloc | apply Kd.R_drewN | apply Kd.R_drew)); exact Kd.R_mono HO821.out (fun _ hk => ⟨hk.1, ⟨hk.2.1, hk.2.2.2.1⟩⟩)⟩, ⟨by (with_reducible repeat (first | apply Kd.R_alloc | apply Kd.R_drewN | apply Kd.R_drew)); exact Kd.R_mono HO_14.out (fun _ hk => ⟨hk.2, ⟨hk.1.1, hk.1.2.2.1⟩⟩)⟩, ⟨by (with_reducible repeat (first | apply Kd.R_alloc | apply Kd.R_drewN | apply Kd.R_drew)); exact Kd.R_mono HO_20.out (fun _ hk => ⟨hk.2, ⟨hk.1.1, hk.1.2.2.1⟩⟩)⟩, ⟨zK BK813⟩, ⟨zB HB⟩⟩
                 · rw [if_neg c18] at H
                   exact absurd H (by simp)
               · rw [if_neg c16] at H
                 exact absurd H (by simp)
             · rw [if_neg c15] at H
               exact absurd H (by simp)
           · rw [if_neg c14] at H
             have c14b0 : decide (x22_2 < (x5_1.length : Int)) = false := decide_eq_false c14
             clear c14
             have H' := Aside0.mk H
             clear H
             go_wp2
             go_roundg k2
             case measure => have := HK1.out; have := HK2.out; omega
             case rel => exact ⟨(x8_2), (wrap64 (x16_1 + 1)), (by first | rfl | (simp; done) | (simp [*]; done)), H', ⟨by have := HK1.out; have := HK2.out; omega⟩, ⟨by (with_reducible repeat (first | apply Kd.R_alloc | apply Kd.R_drewN | apply Kd.R_drew)); exact Kd.R_mono HO_8.out (fun _ hk => hk.1)⟩, ⟨by (with_reducible repeat (first | apply Kd.R_alloc | apply Kd.R_drewN | apply Kd.R_drew)); exact Kd.R_mono HO_14.out (fun _ hk => hk.1)⟩, ⟨zB HB⟩⟩
       · rw [if_neg c10] at H
         exact absurd H (by simp)
     · rw [if_neg c9] at H
       exact absurd H (by simp)
   · rw [if_neg c8] at H
     have c8b0 : decide (x16_1 < (t806.length : Int)) = false := decide_eq_false c8
     clear c8
     replace H := Option.bind_eq_some_iff.mp H
     obtain ⟨t809, A260, H⟩ := H
     try dsimp only at H
     have A26 := Aside0.mk A260
     clear A260
     obtain rfl := Option.some.inj H
     obtain ⟨Ao27, co27, eo27⟩ := Kd.R_slice HO_5.out
     subst eo27
     go_wp2_with (first | ((with_reducible refine gate_callee (f := 38) rfl ?_); refine goesL_ (some 35) rfl rfl Try.func38 (by kernel_rfl) rfl #[.slice Ao27 x5_1.length co27] rfl (by (try simp only [List.map_toArray, List.map_cons, List.map_nil]); first | done | rfl | (simp only [List.length_drop, List.length_take]; rfl)) ?_; (with_reducible refine (addrset_Normal.calls k1 _ _ x5_1 t809 _ ?side1 ?side2 A26.out).mono ?_); (case side1 => repeat (first | exact (Kd.R_reads' HO_5.out).2.2 | (with_reducible refine Kd.C_alloc ?_ _) | (with_reducible refine Kd.C_drewN ?_ _) | (with_reducible refine Kd.C_drew ?_))); (case side2 => exact (Kd.R_reads' HO_5.out).2.1); rintro e w28 ⟨v810, rfl, ho0, hb⟩; refine ⟨_, rfl, ?_⟩; have HO811 := Aside0.mk (Kd.R_lower (Kd.R_new' (Kd.R_new' ho0 (Kd.R_lt (zR HO_5))) (Kd.R_lt (zR HO_14))) (below_size (zB HB))); replace HO_5 := Aside0.mk (Kd.R_elder' (zR HO_5) (Kd.R_base ho0) hb); replace HO_14 := Aside0.mk (Kd.R_elder' (zR HO_14) (Kd.R_base ho0) hb); replace HB := Aside0.mk (below_step (zB HB) hb); (try clear hb); (try clear ho0)))
     go_ret
     exact ⟨_, by first | rfl | (simp [errW_none, errW_some] <;> rfl) | (simp [*, errW_none, errW_some] <;> rfl), by (with_reducible repeat (first | apply Kd.R_alloc | apply Kd.R_drewN | apply Kd.R_drew)); exact Kd.R_mono HO811.out (fun _ hk => trivial), by repeat (first | (with_reducible first | exact HB.out | apply below_alloc | apply pw_below_drewN | apply below_drew1) | exact HB.out)⟩
end Go.Proofs.Ytcgfpffgiimgmaa.Q
end

section
set_option linter.unusedVariables false
set_option linter.unusedSimpArgs false
namespace Go.Proofs.Ytcgfpffgiimgmaa.Q
open Go.RowKit Go.Proofs.YtcgfpffgiimgmaaW.PrintWords Go.Proofs.YtcgfpffgiimgmaaW.PrintLast Go.Proofs.YtcgfpffgiimgmaaW.PrintMore
def grow_Range.f (a1 : Int) : Option (List S66) := if 0 ≤ a1 ∧ a1 ≤ 2932031007402 then some [] else none
set_option maxHeartbeats 1000000 in
theorem grow_Range.pos (a1 : Int) (w : World) (h0 : 0 < a1) (h1 : a1 ≤ 2932031007402) :
    Calls Try.prog 114 #[.slice none 0 0, .int .i64 a1] w fun e w' => ∃ v0_ : Value, e = .returned (v0_) ∧ Kd.R k66 66 w' w.heap.size (fun _ => True) v0_ [] ∧ Below w.heap.size w w' := by
  have hb0 : decide (a1 < 0) = false := by simp; omega
  have hb1 : decide (0 < a1) = true := by simp; omega
  have hu := Try.underlying33
  go_enter Try.func114, Try.ntmps114
  go_wp2_with (at_builtin; refine Kd.R_append_zeros k66 w.heap.size rfl (.tmp 20) (.tmp 21) 33 3 66 (.agg #[.bool false, .int .u64 0, .int .u64 0, .bool false, .int .u64 0, .int .u64 0]) 48 rfl Try.underlying33 Try.underlying3 info66 rfl (by decide) (by decide) _ ([] : List S66) z66 a1 (fun _ => True) rfl rfl (k66_mkM _ _ _ z66) (fun _ _ => trivial) (Kd.R_nil _ _ _ _ _) (by omega) (Below.refl _ _) (Nat.le_refl _) (by simp; omega) ?_; intro v1 w1 ho hb hg hat; obtain ⟨g, cap, rfl, _⟩ := Kd.R_form ho (by simp; omega); have HO := Aside0.mk ho; have HB := Aside0.mk hb; clear ho hb hg hat)
  go_ret
  have h2 := Kd.R_take (m := 0) HO.out (Nat.zero_le _)
  exact ⟨_, rfl, by simpa using h2, HB.out⟩
set_option maxHeartbeats 1000000 in
theorem grow_Range.calls (a1 : Int) (r : List S66) (w : World) (h : grow_Range.f a1 = some r) :
    Calls Try.prog 114 #[.slice none 0 0, .int .i64 a1] w fun e w' => ∃ v0_ : Value, e = .returned (v0_) ∧ Kd.R k66 66 w' w.heap.size (fun _ => True) v0_ r ∧ Below w.heap.size w w' := by
  unfold grow_Range.f at h
  by_cases hc : 0 ≤ a1 ∧ a1 ≤ 2932031007402
  · rw [if_pos hc] at h
    injection h with h
    subst h
    by_cases hz : a1 = 0
    · subst hz
      clear hc
      go_enter Try.func114, Try.ntmps114
      go_wp2
      go_ret
      exact ⟨_, rfl, Kd.R_nil _ _ _ _ _, Below.refl _ _⟩
    · exact grow_Range.pos a1 w (by omega) hc.2
  · rw [if_neg hc] at h
    cases h
end Go.Proofs.Ytcgfpffgiimgmaa.Q
end

section
namespace Go.Proofs.Ytcgfpffgiimgmaa.Q
open Go.RowKit Go.Proofs.YtcgfpffgiimgmaaW.PrintWords Go.Proofs.YtcgfpffgiimgmaaW.PrintLast Go.Proofs.YtcgfpffgiimgmaaW.PrintMore
attribute [local go_sem] max2_int min2_int max_two min_two max_three min_three max_four min_four
set_option linter.unusedVariables false
set_option linter.unusedSimpArgs false
mutual
def slices_Concat_Range.l0 : Nat → List (List (S66)) → Int → List (List (S66)) → Int → Int → Option ((List (S66)))
  | 0, _, _, _, _, _ => none
  | k + 1, x0, x3, x9, x10, x11 => if x11 < x10 then (if 0 ≤ x11 then (if x11 < (x9.length : Int) then (if (wrap64 (x3 + ((rd_L7 x9 x11).length : Int))) < 0 then (none) else (slices_Concat_Range.l0 k x0 (wrap64 (x3 + ((rd_L7 x9 x11).length : Int))) x9 x10 (wrap64 (x11 + 1)))) else (none)) else (none)) else ((grow_Range.f x3).bind fun t922 => (slices_Concat_Range.l1 k t922 x0 (x0.length : Int) 0))
def slices_Concat_Range.l1 : Nat → List (S66) → List (List (S66)) → Int → Int → Option ((List (S66)))
  | 0, _, _, _, _ => none
  | k + 1, x6, x25, x26, x27 => if x27 < x26 then (if 0 ≤ x27 then (if x27 < (x25.length : Int) then (if x6.length + (rd_L7 x25 x27).length < 2932031007402 then (slices_Concat_Range.l1 k (x6 ++ (rd_L7 x25 x27)) x25 x26 (wrap64 (x27 + 1))) else (none)) else (none)) else (none)) else (some x6)
end
def slices_Concat_Range.f (k : Nat) (l0 : List (List (S66))) : Option ((List (S66))) := slices_Concat_Range.l0 k l0 0 l0 (l0.length : Int) 0
theorem slices_Concat_Range.mono_l : ∀ k, (∀ y0 y1 y2 y3 y4, LeO (slices_Concat_Range.l0 k y0 y1 y2 y3 y4) (slices_Concat_Range.l0 (k + 1) y0 y1 y2 y3 y4)) ∧ (∀ y0 y1 y2 y3, LeO (slices_Concat_Range.l1 k y0 y1 y2 y3) (slices_Concat_Range.l1 (k + 1) y0 y1 y2 y3))
  | 0 => ⟨fun _ _ _ _ _ r h => by simp [slices_Concat_Range.l0] at h, fun _ _ _ _ r h => by simp [slices_Concat_Range.l1] at h⟩
  | k + 1 => by
    obtain ⟨ih0, ih1⟩ := slices_Concat_Range.mono_l k
    refine ⟨?_, ?_⟩
    · intro y0 y1 y2 y3 y4
      unfold slices_Concat_Range.l0
      repeat' first
      | (with_reducible exact ih0 _ _ _ _ _)
      | (with_reducible exact ih1 _ _ _ _)
      | (with_reducible exact LeO.refl _)
      | (with_reducible exact LeO.none _)
      | (with_reducible refine LeO.ite ?_ ?_)
      | (with_reducible refine LeO.bind ?_ (fun _ => ?_))
      | exact ih0 _ _ _ _ _
      | exact ih1 _ _ _ _
      | exact LeO.none _
      | refine LeO.ite ?_ ?_
      | refine LeO.bind ?_ (fun _ => ?_)
    · intro y0 y1 y2 y3
      unfold slices_Concat_Range.l1
      repeat' first
      | (with_reducible exact ih0 _ _ _ _ _)
      | (with_reducible exact ih1 _ _ _ _)
      | (with_reducible exact LeO.refl _)
      | (with_reducible exact LeO.none _)
      | (with_reducible refine LeO.ite ?_ ?_)
      | (with_reducible refine LeO.bind ?_ (fun _ => ?_))
      | exact ih0 _ _ _ _ _
      | exact ih1 _ _ _ _
      | exact LeO.none _
      | refine LeO.ite ?_ ?_
      | refine LeO.bind ?_ (fun _ => ?_)
theorem slices_Concat_Range.mono : ∀ a0 k, LeO (slices_Concat_Range.f k a0) (slices_Concat_Range.f (k + 1) a0) := by
  intro a0 k
  obtain ⟨ih0, ih1⟩ := slices_Concat_Range.mono_l k
  unfold slices_Concat_Range.f
  repeat' first
      | (with_reducible exact ih0 _ _ _ _ _)
      | (with_reducible exact ih1 _ _ _ _)
      | (with_reducible exact LeO.refl _)
      | (with_reducible exact LeO.none _)
      | (with_reducible refine LeO.ite ?_ ?_)
      | (with_reducible refine LeO.bind ?_ (fun _ => ?_))
      | exact ih0 _ _ _ _ _
      | exact ih1 _ _ _ _
      | exact LeO.none _
      | refine LeO.ite ?_ ?_
      | refine LeO.bind ?_ (fun _ => ?_)
set_option maxHeartbeats 8000000 in
set_option maxRecDepth 100000 in
theorem slices_Concat_Range.calls (k : Nat) (A0 : Option Addr) (c0 : Nat) (l0 : List (List (S66))) (r : List (S66)) (w : World) (hr0 : Kd.C (Kd.slice 66 k66) w A0 l0.length l0) (hc0 : l0.length ≤ c0) (h : slices_Concat_Range.f k l0 = some r) :
 Calls Try.prog 94 #[.slice A0 l0.length c0] w fun e w' => ∃ v0_ : Value, e = .returned (v0_) ∧ Kd.R k66 66 w' w.heap.size (fun _ => True) v0_ r ∧ Below w.heap.size w w' := by
 have HR0 := Aside0.mk hr0
 have HC0 := Aside0.mk hc0
 clear hr0 hc0
 have HB := Aside0.mk (Below.refl w.heap.size w)
 have H : (slices_Concat_Range.l0 k l0 0 l0 (l0.length : Int) 0) = some r := h
 clear h
 have H' := Aside0.mk H
 clear H
 go_enter Try.func94, Try.ntmps94
 go_wp2
 go_loopg [3, 11] k (fun kq v3 v11 w' => ∃ (x3_1 : Int) (x11_1 : Int), v3 = .int .i64 x3_1 ∧ v11 = .int .i64 x11_1 ∧ Aside0 (slices_Concat_Range.l0 kq l0 x3_1 l0 (l0.length : Int) x11_1 = some r) ∧ Aside0 (kq ≤ k) ∧ Aside0 (Below w.heap.size w w'))
 case atStart => exact ⟨(0), (0), (by first | rfl | (simp; done) | (simp [*]; done)), (by first | rfl | (simp; done) | (simp [*]; done)), H', ⟨Nat.le_refl _⟩, ⟨zB HB⟩⟩
 case round =>
  clear H'
  obtain ⟨x3_1, x11_1, rfl, rfl, HA, HK1, HB⟩ := hrel
  cases gk with
  | zero => exact absurd HA.out (by simp [slices_Concat_Range.l0])
  | succ k1 =>
   have H := HA.out
   clear HA
   simp only [slices_Concat_Range.l0] at H
   by_cases c2 : x11_1 < (l0.length : Int)
   · rw [if_pos c2] at H
     have c2b0 : decide (x11_1 < (l0.length : Int)) = true := decide_eq_true c2
     clear c2
     by_cases c3 : 0 ≤ x11_1
     · rw [if_pos c3] at H
       have c3b0 : decide (0 ≤ x11_1) = true := decide_eq_true c3
       clear c3
       by_cases c4 : x11_1 < (l0.length : Int)
       · rw [if_pos c4] at H
         have c4b0 : decide (x11_1 < (l0.length : Int)) = true := decide_eq_true c4
         clear c4
         by_cases c5 : (wrap64 (x3_1 + ((rd_L7 l0 x11_1).length : Int))) < 0
         · rw [if_pos c5] at H
           exact absurd H (by simp)
         · rw [if_neg c5] at H
           have c5b0 : decide ((wrap64 (x3_1 + ((rd_L7 l0 x11_1).length : Int))) < 0) = false := decide_eq_false c5
           clear c5
           have H' := Aside0.mk H
           clear H
           have p921 : 0 ≤ (x11_1 : Int) := za
           have q921 : x11_1 < (l0.length : Int) := za
           obtain ⟨ad921, A921_0, c921_0, e921, hx921_0, hl921_0, hi921_0⟩ := at_L7 HR0.out x11_1 p921 q921
           cases e921
           replace hx921_0 := zh HB hx921_0
           have HR921_0 := Aside0.mk hi921_0
           have HC921_0 := Aside0.mk hl921_0
           clear hi921_0 hl921_0
           replace p921 := eq_true p921
           replace q921 := eq_true q921
           go_wp2
           go_roundg k1
           case measure => have := HK1.out; omega
           case rel => exact ⟨(wrap64 (x3_1 + ((rd_L7 l0 x11_1).length : Int))), (wrap64 (x11_1 + 1)), (by first | rfl | (simp; done) | (simp [*]; done)), (by first | rfl | (simp; done) | (simp [*]; done)), H', ⟨by have := HK1.out; omega⟩, ⟨zB HB⟩⟩
       · rw [if_neg c4] at H
         exact absurd H (by simp)
     · rw [if_neg c3] at H
       exact absurd H (by simp)
   · rw [if_neg c2] at H
     have c2b0 : decide (x11_1 < (l0.length : Int)) = false := decide_eq_false c2
     clear c2
     replace H := Option.bind_eq_some_iff.mp H
     obtain ⟨t922, A60, H⟩ := H
     try dsimp only at H
     have A6 := Aside0.mk A60
     clear A60
     have H' := Aside0.mk H
     clear H
     go_wp2_with (first | ((with_reducible refine gate_callee (f := 114) rfl ?_); refine goesL_ (some 24) rfl rfl Try.func114 (by kernel_rfl) rfl #[.slice none 0 0, .int .i64 x3_1] rfl (by (try simp only [List.map_toArray, List.map_cons, List.map_nil]); first | done | rfl | (simp only [List.length_drop, List.length_take]; rfl)) ?_; (with_reducible refine (grow_Range.calls  x3_1 t922 _ A6.out).mono ?_); rintro e w7 ⟨v923, rfl, ho0, hb⟩; refine ⟨_, rfl, ?_⟩; have HO924 := Aside0.mk (Kd.R_lower ho0 (below_size (zB HB))); replace HB := Aside0.mk (below_step (zB HB) hb); (try clear hb); (try clear ho0)))
     go_loopg [6, 27] k1 (fun kq v6 v27 w' => ∃ (x6_2 : List (S66)) (x27_2 : Int), v27 = .int .i64 x27_2 ∧ Aside0 (slices_Concat_Range.l1 kq x6_2 l0 (l0.length : Int) x27_2 = some r) ∧ Aside0 (kq ≤ k1) ∧ Aside0 (Kd.R k66 66 w' w.heap.size (fun _ => True) v6 x6_2) ∧ Aside0 (Below w.heap.size w w'))
     case atStart => exact ⟨(t922), (0), (by first | rfl | (simp; done) | (simp [*]; done)), H', ⟨Nat.le_refl _⟩, ⟨zR HO924⟩, ⟨zB HB⟩⟩
     case round =>
      clear H'
      try clear c1
      try clear c2
      try clear c2b0
      try clear p2
      try clear c3
      try clear c3b0
      try clear c4
      try clear c4b0
      try clear c5
      try clear c5b0
      try clear p6
      try clear hx921_0
      try clear p921
      try clear q921
      obtain ⟨x6_2, x27_2, rfl, HA, HK2, HO_6, HB⟩ := hrel
      cases gk with
      | zero => exact absurd HA.out (by simp [slices_Concat_Range.l1])
      | succ k2 =>
       have H := HA.out
       clear HA
       simp only [slices_Concat_Range.l1] at H
       by_cases c8 : x27_2 < (l0.length : Int)
       · rw [if_pos c8] at H
         have c8b0 : decide (x27_2 < (l0.length : Int)) = true := decide_eq_true c8
         clear c8
         by_cases c9 : 0 ≤ x27_2
         · rw [if_pos c9] at H
           have c9b0 : decide (0 ≤ x27_2) = true := decide_eq_true c9
           clear c9
           by_cases c10 : x27_2 < (l0.length : Int)
           · rw [if_pos c10] at H
             have c10b0 : decide (x27_2 < (l0.length : Int)) = true := decide_eq_true c10
             clear c10
             by_cases c11 : x6_2.length + (rd_L7 l0 x27_2).length < 2932031007402
             · rw [if_pos c11] at H
               have LMc11 := Aside0.mk c11
               clear c11
               obtain ⟨y926, hy926⟩ : ∃ y_ : List (S66), y_ = (x6_2 ++ (rd_L7 l0 x27_2)) := ⟨_, rfl⟩
               replace H : (slices_Concat_Range.l1 k2 y926 l0 (l0.length : Int) (wrap64 (x27_2 + 1))) = some r := by first | (rw [hy926]; with_reducible exact H) | (have H2_ := (Option.bind_some _ _).symm.trans H; rw [hy926]; with_reducible exact H2_) | (have H2_ := (Option.bind_some _ _).symm.trans H; with_reducible exact H2_) | with_reducible exact H | (rw [hy926]; exact H) | exact H
               have Ny926 := Aside0.mk hy926
               clear hy926
               have H' := Aside0.mk H
               clear H
               have p925 : 0 ≤ (x27_2 : Int) := za
               have q925 : x27_2 < (l0.length : Int) := za
               obtain ⟨ad925, A925_0, c925_0, e925, hx925_0, hl925_0, hi925_0⟩ := at_L7 HR0.out x27_2 p925 q925
               cases e925
               replace hx925_0 := zh HB hx925_0
               have HR925_0 := Aside0.mk hi925_0
               have HC925_0 := Aside0.mk hl925_0
               clear hi925_0 hl925_0
               replace p925 := eq_true p925
               replace q925 := eq_true q925
               go_wp2_with (first | ((with_reducible refine gate_builtin (b := .append) (xs := #[.tmp 31, .tmp 32]) rfl ?_); at_builtin; refine Kd.R_append_rows k66 (w0 := w) w.heap.size rfl (.tmp 31) (.tmp 32) 33 66 (.agg #[(.bool false), (.int .u64 0), (.int .u64 0), (.bool false), (.int .u64 0), (.int .u64 0)]) 48 rfl Try.underlying33 info66 rfl (by decide) (by omega) u6 x6_2 (rd_L7 l0 x27_2) _ _ _ (fun _ => True) (fun _ => False) rfl rfl ?aO ?aR (fun _ _ h => h) (fun _ h => h.elim) ?aF ?aB ?aS ?aL ?_; (case aR => repeat (first | exact (Kd.C_below HR925_0.out HB.out) | (with_reducible refine Kd.C_alloc ?_ _) | (with_reducible refine Kd.C_drewN ?_ _) | (with_reducible refine Kd.C_drew ?_))); (case aB => exact (zB HB)); (case aF => exact (fun _ _ => trivial)); (case aO => exact (zR HO_6)); (case aS => exact (below_size (zB HB))); (case aL => have := LMc11.out; omega); intro v927 w12 ho hb hg hat; rw [← Ny926.out] at ho; replace HB := Aside0.mk (hb); have HO928 := Aside0.mk (ho); clear HO_6; clear ho hb hg hat))
               go_roundg k2
               case measure => have := HK1.out; have := HK2.out; omega
               case rel => exact ⟨(y926), (wrap64 (x27_2 + 1)), (by first | rfl | (simp; done) | (simp [*]; done)), H', ⟨by have := HK1.out; have := HK2.out; omega⟩, ⟨zR HO928⟩, ⟨zB HB⟩⟩
             · rw [if_neg c11] at H
               exact absurd H (by simp)
           · rw [if_neg c10] at H
             exact absurd H (by simp)
         · rw [if_neg c9] at H
           exact absurd H (by simp)
       · rw [if_neg c8] at H
         have c8b0 : decide (x27_2 < (l0.length : Int)) = false := decide_eq_false c8
         clear c8
         obtain rfl := Option.some.inj H
         go_wp2
         go_ret
         exact ⟨_, by first | rfl | (simp [errW_none, errW_some] <;> rfl) | (simp [*, errW_none, errW_some] <;> rfl), by (with_reducible repeat (first | apply Kd.R_alloc | apply Kd.R_drewN | apply Kd.R_drew)); exact HO_6.out, by repeat (first | (with_reducible first | exact HB.out | apply below_alloc | apply pw_below_drewN | apply below_drew1) | exact HB.out)⟩
end Go.Proofs.Ytcgfpffgiimgmaa.Q
end

section
namespace Go.Proofs.Ytcgfpffgiimgmaa.Q
open Go.RowKit Go.Proofs.YtcgfpffgiimgmaaW.PrintWords Go.Proofs.YtcgfpffgiimgmaaW.PrintLast Go.Proofs.YtcgfpffgiimgmaaW.PrintMore
attribute [local go_sem] max2_int min2_int max_two min_two max_three min_three max_four min_four
set_option linter.unusedVariables false
set_option linter.unusedSimpArgs false
def addrset_Union.f (k : Nat) (l0 : List (S66)) (l1 : List (S66)) : Option ((List (S66))) := (slices_Concat_Range.f k (([l0, l1] : List (List (S66))))).bind fun t932 => ((addrset_Normal.f k t932).bind fun t935 => (some t935))
theorem addrset_Union.mono : ∀ a0 a1 k, LeO (addrset_Union.f k a0 a1) (addrset_Union.f (k + 1) a0 a1) := by
  intro a0 a1 k
  unfold addrset_Union.f
  repeat' first
      | (with_reducible exact addrset_Normal.mono _ _)
      | (with_reducible exact slices_Concat_Range.mono _ _)
      | (with_reducible exact LeO.refl _)
      | (with_reducible exact LeO.none _)
      | (with_reducible refine LeO.ite ?_ ?_)
      | (with_reducible refine LeO.bind ?_ (fun _ => ?_))
      | exact addrset_Normal.mono _ _
      | exact slices_Concat_Range.mono _ _
      | exact LeO.none _
      | refine LeO.ite ?_ ?_
      | refine LeO.bind ?_ (fun _ => ?_)
set_option maxHeartbeats 8000000 in
set_option maxRecDepth 100000 in
theorem addrset_Union.calls (k : Nat) (P0_ : Nat → Prop) (A0 : Option Addr) (c0 : Nat) (l0 : List (S66)) (P1_ : Nat → Prop) (A1 : Option Addr) (c1 : Nat) (l1 : List (S66)) (r : List (S66)) (w : World) (hs0 : Kd.V k66 66 w w.heap.size (fun k_ => P0_ k_) (.slice A0 l0.length c0) l0) (hs1 : Kd.V k66 66 w w.heap.size (fun k_ => P1_ k_) (.slice A1 l1.length c1) l1) (h : addrset_Union.f k l0 l1 = some r) :
 Calls Try.prog 52 #[.slice A0 l0.length c0, .slice A1 l1.length c1] w fun e w' => ∃ v0_ : Value, e = .returned (v0_) ∧ Kd.R k66 66 w' w.heap.size (fun k_ => (w.heap.size ≤ k_)) v0_ r ∧ Below w.heap.size w w' := by
 have HO0 := Aside0.mk (show Kd.V k66 66 w w.heap.size (fun k_ => ((P0_ k_ ∨ P1_ k_) ∨ w.heap.size ≤ k_)) (.slice A0 l0.length c0) l0 from Kd.V_mono hs0 (fun k_ hk => .inl (.inl hk)))
 have HO1 := Aside0.mk (show Kd.V k66 66 w w.heap.size (fun k_ => ((P0_ k_ ∨ P1_ k_) ∨ w.heap.size ≤ k_)) (.slice A1 l1.length c1) l1 from Kd.V_mono hs1 (fun k_ hk => .inl (.inr hk)))
 have HB := Aside0.mk (Below.refl w.heap.size w)
 have H : ((slices_Concat_Range.f k (([l0, l1] : List (List (S66))))).bind fun t932 => ((addrset_Normal.f k t932).bind fun t935 => (some t935))) = some r := h
 clear h
 obtain ⟨y929, hy929⟩ : ∃ y_ : List (List (S66)), y_ = (([l0, l1] : List (List (S66)))) := ⟨_, rfl⟩
 replace H : ((slices_Concat_Range.f k y929).bind fun t932 => ((addrset_Normal.f k t932).bind fun t935 => (some t935))) = some r := by first | (rw [hy929]; with_reducible exact H) | (have H2_ := (Option.bind_some _ _).symm.trans H; rw [hy929]; with_reducible exact H2_) | (have H2_ := (Option.bind_some _ _).symm.trans H; with_reducible exact H2_) | with_reducible exact H | (rw [hy929]; exact H) | exact H
 have Ny929 := Aside0.mk hy929
 clear hy929
 replace H := Option.bind_eq_some_iff.mp H
 obtain ⟨t932, A30, H⟩ := H
 try dsimp only at H
 have A3 := Aside0.mk A30
 clear A30
 replace H := Option.bind_eq_some_iff.mp H
 obtain ⟨t935, A40, H⟩ := H
 try dsimp only at H
 have A4 := Aside0.mk A40
 clear A40
 obtain rfl := Option.some.inj H
 go_enter Try.func52, Try.ntmps52
 go_wp2_with (first | ((with_reducible refine gate_dst (N := 7) rfl ?_); refine Kd.N_lit (Kd.slice 66 k66) _ 33 ?hg (N' := 7) ?hd (xs := ([l0, l1] : List (List (S66)))) (inner := [.slice A0 l0.length c0, .slice A1 l1.length c1]) (ok := (fun k_ => ((P0_ k_ ∨ P1_ k_) ∨ w.heap.size ≤ k_))) (okp := (fun k_ => ((P0_ k_ ∨ P1_ k_) ∨ w.heap.size ≤ k_))) ?hr ?hp (fun _ hk => hk) ((show ∀ k_, w.heap.size ≤ k_ → (fun k_ => ((P0_ k_ ∨ P1_ k_) ∨ w.heap.size ≤ k_)) k_ from fun k_ hk => (.inr (Nat.le_trans (below_size (zB HB)) hk))) _ (Nat.le_refl _)) (Below.refl _ _) (Nat.le_refl _) (by simp) ?_; (case hd => rfl); (case hg => rfl); (case hr => first | (go_simp; done) | (go_simp; rfl)); (case hp => exact (Reps.one (show Kd.FK (Kd.slice 66 k66) _ _ l0 [.slice A0 l0.length c0] from (Kd.FK_slice_mk (Kd.V_reads' (Kd.V_mono (ok' := (fun k_ => ((P0_ k_ ∨ P1_ k_) ∨ w.heap.size ≤ k_))) (HO0.out) (fun k_ hk => hk))).2.1 (Kd.V_F (Kd.V_mono (ok' := (fun k_ => ((P0_ k_ ∨ P1_ k_) ∨ w.heap.size ≤ k_))) (HO0.out) (fun k_ hk => hk))))) (Reps.one (show Kd.FK (Kd.slice 66 k66) _ _ l1 [.slice A1 l1.length c1] from (Kd.FK_slice_mk (Kd.V_reads' (Kd.V_mono (ok' := (fun k_ => ((P0_ k_ ∨ P1_ k_) ∨ w.heap.size ≤ k_))) (HO1.out) (fun k_ hk => hk))).2.1 (Kd.V_F (Kd.V_mono (ok' := (fun k_ => ((P0_ k_ ∨ P1_ k_) ∨ w.heap.size ≤ k_))) (HO1.out) (fun k_ hk => hk))))) (Reps.none _ _)))); intro v930 w5 ho6 hb hg_ hnew_; clear hg_ hnew_; (first | rw [← Ny929.out] at ho6 | (simp only [Int.reduceToNat] at ho6; rw [← Ny929.out] at ho6)); replace HO0 := Aside0.mk (Kd.V_elder' (by (with_reducible repeat (first | apply Kd.V_alloc | apply Kd.V_drewN | apply Kd.V_drew)); exact HO0.out) (Kd.N_base ho6) hb); replace HO1 := Aside0.mk (Kd.V_elder' (by (with_reducible repeat (first | apply Kd.V_alloc | apply Kd.V_drewN | apply Kd.V_drew)); exact HO1.out) (Kd.N_base ho6) hb); have HO931 := Aside0.mk (Kd.N_lower ho6 (below_size (zB HB))); replace HB := Aside0.mk (below_step (zB HB) hb); clear hb ho6; obtain ⟨Ao7, co7, eo7⟩ := Kd.N_slice HO931.out; subst eo7) | ((with_reducible refine gate_callee (f := 94) rfl ?_); refine goesL_ (some 8) rfl rfl Try.func94 (by kernel_rfl) rfl #[.slice Ao7 y929.length co7] rfl (by (try simp only [List.map_toArray, List.map_cons, List.map_nil]); first | done | rfl | (simp only [List.length_drop, List.length_take]; rfl)) ?_; (with_reducible refine (slices_Concat_Range.calls k _ _ y929 t932 _ ?side1 ?side2 A3.out).mono ?_); (case side1 => repeat (first | exact (Kd.N_reads' HO931.out).2.2 | (with_reducible refine Kd.C_alloc ?_ _) | (with_reducible refine Kd.C_drewN ?_ _) | (with_reducible refine Kd.C_drew ?_))); (case side2 => exact (Kd.N_reads' HO931.out).2.1); rintro e w8 ⟨v933, rfl, ho0, hb⟩; refine ⟨_, rfl, ?_⟩; replace HO0 := Aside0.mk (Kd.V_elder' (by (with_reducible repeat (first | apply Kd.V_alloc | apply Kd.V_drewN | apply Kd.V_drew)); exact HO0.out) (Kd.R_base ho0) hb); replace HO1 := Aside0.mk (Kd.V_elder' (by (with_reducible repeat (first | apply Kd.V_alloc | apply Kd.V_drewN | apply Kd.V_drew)); exact HO1.out) (Kd.R_base ho0) hb); replace HO931 := Aside0.mk (Kd.N_elder' (by (with_reducible repeat (first | apply Kd.N_alloc | apply Kd.N_drewN | apply Kd.N_drew)); exact HO931.out) (Kd.R_base ho0) hb); have HO934 := Aside0.mk (Kd.R_lower (Kd.R_newM (M := fun k_ => (w.heap.size ≤ k_)) ho0 (below_size (zB HB)) (fun k_ h_ => h_)) (below_size (zB HB))); replace HB := Aside0.mk (below_step (zB HB) hb); (try clear hb); (try clear ho0); obtain ⟨Ao9, co9, eo9⟩ := Kd.R_slice HO934.out; subst eo9) | ((with_reducible refine gate_callee (f := 38) rfl ?_); refine goesL_ (some 9) rfl rfl Try.func38 (by kernel_rfl) rfl #[.slice Ao9 t932.length co9] rfl (by (try simp only [List.map_toArray, List.map_cons, List.map_nil]); first | done | rfl | (simp only [List.length_drop, List.length_take]; rfl)) ?_; (with_reducible refine (addrset_Normal.calls k _ _ t932 t935 _ ?side1 ?side2 A4.out).mono ?_); (case side1 => repeat (first | exact (Kd.R_reads' HO934.out).2.2 | (with_reducible refine Kd.C_alloc ?_ _) | (with_reducible refine Kd.C_drewN ?_ _) | (with_reducible refine Kd.C_drew ?_))); (case side2 => exact (Kd.R_reads' HO934.out).2.1); rintro e w10 ⟨v936, rfl, ho0, hb⟩; refine ⟨_, rfl, ?_⟩; replace HO0 := Aside0.mk (Kd.V_elder' (by (with_reducible repeat (first | apply Kd.V_alloc | apply Kd.V_drewN | apply Kd.V_drew)); exact HO0.out) (Kd.R_base ho0) hb); replace HO1 := Aside0.mk (Kd.V_elder' (by (with_reducible repeat (first | apply Kd.V_alloc | apply Kd.V_drewN | apply Kd.V_drew)); exact HO1.out) (Kd.R_base ho0) hb); replace HO931 := Aside0.mk (Kd.N_elder' (by (with_reducible repeat (first | apply Kd.N_alloc | apply Kd.N_drewN | apply Kd.N_drew)); exact HO931.out) (Kd.R_base ho0) hb); have HO937 := Aside0.mk (Kd.R_lower (Kd.R_new' (Kd.R_newM (M := fun k_ => (w.heap.size ≤ k_)) ho0 (below_size (zB HB)) (fun k_ h_ => h_)) (Kd.R_lt (zR HO934))) (below_size (zB HB))); replace HO934 := Aside0.mk (Kd.R_elder' (zR HO934) (Kd.R_base ho0) hb); replace HB := Aside0.mk (below_step (zB HB) hb); (try clear hb); (try clear ho0)))
 go_ret
 exact ⟨_, by first | rfl | (simp [errW_none, errW_some] <;> rfl) | (simp [*, errW_none, errW_some] <;> rfl), by (with_reducible repeat (first | apply Kd.R_alloc | apply Kd.R_drewN | apply Kd.R_drew)); exact Kd.R_mono HO937.out (fun _ hk => hk.1.1), by repeat (first | (with_reducible first | exact HB.out | apply below_alloc | apply pw_below_drewN | apply below_drew1) | exact HB.out)⟩
end Go.Proofs.Ytcgfpffgiimgmaa.Q
end

section
namespace Go.Proofs.Ytcgfpffgiimgmaa.Q
open Go.RowKit Go.Proofs.YtcgfpffgiimgmaaW.PrintWords Go.Proofs.YtcgfpffgiimgmaaW.PrintLast Go.Proofs.YtcgfpffgiimgmaaW.PrintMore
attribute [local go_sem] max2_int min2_int max_two min_two max_three min_three max_four min_four
set_option linter.unusedVariables false
set_option linter.unusedSimpArgs false
def addrset_Subset.f (k : Nat) (l0 : List (S66)) (l1 : List (S66)) : Option (Bool) := (addrset_Minus.f k l0 l1).bind fun t947 => (some ((t947.length : Int) == 0))
theorem addrset_Subset.mono : ∀ a0 a1 k, LeO (addrset_Subset.f k a0 a1) (addrset_Subset.f (k + 1) a0 a1) := by
  intro a0 a1 k
  unfold addrset_Subset.f
  repeat' first
      | (with_reducible exact addrset_Minus.mono _ _ _)
      | (with_reducible exact LeO.refl _)
      | (with_reducible exact LeO.none _)
      | (with_reducible refine LeO.ite ?_ ?_)
      | (with_reducible refine LeO.bind ?_ (fun _ => ?_))
      | exact addrset_Minus.mono _ _ _
      | exact LeO.none _
      | refine LeO.ite ?_ ?_
      | refine LeO.bind ?_ (fun _ => ?_)
set_option maxHeartbeats 8000000 in
set_option maxRecDepth 100000 in
theorem addrset_Subset.calls (k : Nat) (A0 : Option Addr) (c0 : Nat) (l0 : List (S66)) (A1 : Option Addr) (c1 : Nat) (l1 : List (S66)) (r : Bool) (w : World) (hr0 : Kd.C k66 w A0 l0.length l0) (hc0 : l0.length ≤ c0) (hr1 : Kd.C k66 w A1 l1.length l1) (hc1 : l1.length ≤ c1) (h : addrset_Subset.f k l0 l1 = some r) :
 Calls Try.prog 58 #[.slice A0 l0.length c0, .slice A1 l1.length c1] w fun e w' => e = .returned (.bool r) ∧ Below w.heap.size w w' := by
 have HR0 := Aside0.mk hr0
 have HC0 := Aside0.mk hc0
 clear hr0 hc0
 have HR1 := Aside0.mk hr1
 have HC1 := Aside0.mk hc1
 clear hr1 hc1
 have HB := Aside0.mk (Below.refl w.heap.size w)
 have H : ((addrset_Minus.f k l0 l1).bind fun t947 => (some ((t947.length : Int) == 0))) = some r := h
 clear h
 replace H := Option.bind_eq_some_iff.mp H
 obtain ⟨t947, A30, H⟩ := H
 try dsimp only at H
 have A3 := Aside0.mk A30
 clear A30
 obtain rfl := Option.some.inj H
 go_enter Try.func58, Try.ntmps58
 go_wp2_with (first | ((with_reducible refine gate_callee (f := 56) rfl ?_); refine goesL_ (some 7) rfl rfl Try.func56 (by kernel_rfl) rfl #[.slice A0 l0.length c0, .slice A1 l1.length c1] rfl (by (try simp only [List.map_toArray, List.map_cons, List.map_nil]); first | done | rfl | (simp only [List.length_drop, List.length_take]; rfl)) ?_; (with_reducible refine (addrset_Minus.calls k _ _ l0 _ _ l1 t947 _ ?side1 ?side2 ?side3 ?side4 A3.out).mono ?_); (case side1 => repeat (first | exact HR0.out | (with_reducible refine Kd.C_alloc ?_ _) | (with_reducible refine Kd.C_drewN ?_ _) | (with_reducible refine Kd.C_drew ?_))); (case side2 => exact HC0.out); (case side3 => repeat (first | exact HR1.out | (with_reducible refine Kd.C_alloc ?_ _) | (with_reducible refine Kd.C_drewN ?_ _) | (with_reducible refine Kd.C_drew ?_))); (case side4 => exact HC1.out); rintro e w4 ⟨v948, rfl, ho0, hb⟩; refine ⟨_, rfl, ?_⟩; have HO949 := Aside0.mk (Kd.R_lower ho0 (below_size (zB HB))); replace HB := Aside0.mk (below_step (zB HB) hb); (try clear hb); (try clear ho0); obtain ⟨Ao5, co5, eo5⟩ := Kd.R_slice HO949.out; subst eo5))
 go_ret
 exact ⟨by first | rfl | (simp [errW_none, errW_some] <;> rfl) | (simp [*, errW_none, errW_some] <;> rfl), by repeat (first | (with_reducible first | exact HB.out | apply below_alloc | apply pw_below_drewN | apply below_drew1) | exact HB.out)⟩
end Go.Proofs.Ytcgfpffgiimgmaa.Q
end

section
set_option linter.unusedVariables false
set_option linter.unusedSimpArgs false
namespace Go.Proofs.Ytcgfpffgiimgmaa.Q
open Go.RowKit Go.Proofs.YtcgfpffgiimgmaaW.PrintWords Go.Proofs.YtcgfpffgiimgmaaW.PrintLast Go.Proofs.YtcgfpffgiimgmaaW.PrintMore
def idxOf {α : Type} (p : α → Bool) (l : List α) : Int := match l.findIdx? p with | some i => (i : Int) | none => -1
theorem idxOf_hit {α : Type} (p : α → Bool) (l : List α) (k : Nat) (hk : k < l.length) (h : p l[k] = true) (hb : ∀ j (hj : j < k), p (l[j]'(by omega)) = false) : idxOf p l = k := by
  have : l.findIdx? p = some k := by
    rw [List.findIdx?_eq_some_iff_getElem]
    exact ⟨hk, h, fun j hj => by simp [hb j hj]⟩
  simp [idxOf, this]
theorem idxOf_miss {α : Type} (p : α → Bool) (l : List α) (hb : ∀ j (hj : j < l.length), p (l[j]'hj) = false) : idxOf p l = -1 := by
  have : l.findIdx? p = none := by
    rw [List.findIdx?_eq_none_iff]
    intro x hx
    obtain ⟨j, hj, rfl⟩ := List.getElem_of_mem hx
    exact hb j hj
  simp [idxOf, this]
theorem idxOf_nonneg {α : Type} (p : α → Bool) (l : List α) : decide (idxOf p l ≥ 0) = l.any p := by
  cases h : l.findIdx? p with
  | none =>
    rw [List.findIdx?_eq_none_iff] at h
    have h1 : l.findIdx? p = none := List.findIdx?_eq_none_iff.2 h
    have : l.any p = false := by
      rw [List.any_eq_false]
      intro x hx
      simp [h x hx]
    simp [idxOf, h1, this]
  | some i =>
    obtain ⟨hi, hp, _⟩ := List.findIdx?_eq_some_iff_getElem.1 h
    have : l.any p = true := List.any_eq_true.2 ⟨l[i], List.getElem_mem hi, hp⟩
    simp [idxOf, h, this]
def inSpan (n : Int) (x : S52) : Bool := decide (x.f0 ≤ n) && decide (n ≤ x.f1)
def interval_Contains.f (l0 : List S52) (a1 : Int) : Option Bool := some (decide (0 ≤ a1) && (decide (a1 ≤ 4294967296) && l0.any (inSpan a1)))
end Go.Proofs.Ytcgfpffgiimgmaa.Q
end

section
set_option linter.unusedVariables false
set_option linter.unusedSimpArgs false
namespace Go.Proofs.Ytcgfpffgiimgmaa.Q
open Go.RowKit Go.Proofs.YtcgfpffgiimgmaaW.PrintWords Go.Proofs.YtcgfpffgiimgmaaW.PrintLast Go.Proofs.YtcgfpffgiimgmaaW.PrintMore
theorem rd_getR (l : List S66) (k : Nat) (hk : k < l.length) : rd_T66 l (k : Int) = l[k] := by
  simp [rd_T66, List.getD_eq_getElem?_getD, List.getElem?_eq_getElem hk]
set_option maxHeartbeats 1000000 in
set_option maxRecDepth 100000 in
theorem indexFuncRange (p : S66 → Bool) (g : Nat) (cb : Array Value) (A : Option Addr) (c : Nat) (l : List S66) (w : World) (eg : ∀ args w, (callFunc g args).run Try.prog w = .ok (.enter g args) w)
    (hp : ∀ (W : World) (x : S66), Below w.heap.size w W → Calls Try.prog g (#[.agg #[.bool x.f0.f0, .int .u64 x.f0.f1, .int .u64 x.f0.f2, .bool x.f1.f0, .int .u64 x.f1.f1, .int .u64 x.f1.f2]] ++ cb) W fun e w' => e = .returned (.bool (p x)) ∧ Below w.heap.size w w')
    (hr : Kd.C k66 w A l.length l) :
    Calls Try.prog 107 #[.slice A l.length c, .func (.func g) #[] cb] w fun e w' => e = .returned (.int .i64 (idxOf p l)) ∧ Below w.heap.size w w' := by
  have hm : l.length ≤ 9223372036854775807 := hr.2.1
  have huS := Try.underlying66
  have HR := Aside0.mk hr
  have HP := Aside0.mk hp
  clear hr hp
  go_enter Try.func107, Try.ntmps107
  go_wp2
  go_loopg [5, 8] l.length (fun gg _ s8 wr => ∃ kk : Nat, kk ≤ l.length ∧ l.length - kk ≤ gg ∧ s8 = .int .i64 kk ∧ Aside0 (Below w.heap.size w wr) ∧ Aside0 (∀ j (hj : j < l.length), j < kk → p (l[j]'hj) = false))
  case atStart => exact ⟨0, Nat.zero_le _, by omega, rfl, ⟨Below.refl _ w⟩, ⟨fun j _ hj => absurd hj (Nat.not_lt_zero _)⟩⟩
  case round =>
    obtain ⟨kk, hkk, hg, rfl, BW, HA⟩ := hrel
    by_cases hlt : kk < l.length
    · have hltz : (kk : Int) < (l.length : Int) := by omega
      obtain ⟨ad, e, hx0, hx1, hx2, hx3, hx4, hx5⟩ := at_T66 HR.out kk (by omega) hltz
      cases e
      replace hx0 := (BW.out.cell (World.block_lt_of_cell? w _ hx0)).trans hx0
      replace hx1 := (BW.out.cell (World.block_lt_of_cell? w _ hx1)).trans hx1
      replace hx2 := (BW.out.cell (World.block_lt_of_cell? w _ hx2)).trans hx2
      replace hx3 := (BW.out.cell (World.block_lt_of_cell? w _ hx3)).trans hx3
      replace hx4 := (BW.out.cell (World.block_lt_of_cell? w _ hx4)).trans hx4
      replace hx5 := (BW.out.cell (World.block_lt_of_cell? w _ hx5)).trans hx5
      rw [rd_getR l kk hlt] at hx0 hx1 hx2 hx3 hx4 hx5
      simp only [Int.toNat_natCast] at hx0 hx1 hx2 hx3 hx4 hx5
      have hcall := HP.out wr l[kk] BW.out
      have HG := Aside0.mk (fun (h : p l[kk] = true) => idxOf_hit p l kk hlt h (fun j hj => HA.out j (by omega) hj))
      have HN := Aside0.mk (fun (h : p l[kk] = false) => (fun (j : Nat) (hj : j < l.length) (hk : j < kk + 1) => if e : j = kk then (by subst e; exact h : p (l[j]'hj) = false) else HA.out j hj (by omega)))
      generalize l[kk] = y at hx0 hx1 hx2 hx3 hx4 hx5 hcall HG HN
      cases hq : p y with
      | true =>
        rw [hq] at hcall
        have HE := Aside0.mk (HG.out hq)
        clear hq
        go_wp2_with (go_at_fn g; refine hcall.mono ?_; rintro e w' ⟨rfl, hb'⟩)
        go_ret
        exact ⟨by rw [HE.out]; rfl, hb'⟩
      | false =>
        rw [hq] at hcall
        have HE := Aside0.mk (HN.out hq)
        clear hq
        go_wp2_with (go_at_fn g; refine hcall.mono ?_; rintro e w' ⟨rfl, hb'⟩)
        go_roundg (l.length - (kk + 1))
        case measure => omega
        case rel => exact ⟨kk + 1, by omega, by omega, by go_num, ⟨hb'⟩, ⟨HE.out⟩⟩
    · have hltz : ¬ (kk : Int) < (l.length : Int) := by omega
      have he := idxOf_miss p l (fun j hj => HA.out j hj (by omega))
      have HE := Aside0.mk he
      clear he
      go_wp2
      go_ret
      exact ⟨by rw [HE.out]; rfl, BW.out⟩
set_option maxHeartbeats 1000000 in
set_option maxRecDepth 100000 in
theorem containsFuncRange (p : S66 → Bool) (g : Nat) (cb : Array Value) (A : Option Addr) (c : Nat) (l : List S66) (w : World) (eg : ∀ args w, (callFunc g args).run Try.prog w = .ok (.enter g args) w)
    (hp : ∀ (W : World) (x : S66), Below w.heap.size w W → Calls Try.prog g (#[.agg #[.bool x.f0.f0, .int .u64 x.f0.f1, .int .u64 x.f0.f2, .bool x.f1.f0, .int .u64 x.f1.f1, .int .u64 x.f1.f2]] ++ cb) W fun e w' => e = .returned (.bool (p x)) ∧ Below w.heap.size w w')
    (hr : Kd.C k66 w A l.length l) :
    Calls Try.prog 83 #[.slice A l.length c, .func (.func g) #[] cb] w fun e w' => e = .returned (.bool (l.any p)) ∧ Below w.heap.size w w' := by
  have h := indexFuncRange p g cb A c l w eg hp hr
  rw [← idxOf_nonneg]
  clear hp hr
  generalize idxOf p l = n at h ⊢
  go_enter Try.func83, Try.ntmps83
  go_wp2_with (go_at_call 107; refine h.mono ?_; rintro e w' ⟨rfl, hb'⟩)
  go_ret
  exact ⟨rfl, hb'⟩
def inRange (a : S36) (x : S66) : Bool := someB x && ((x.f0.f0 == a.f0) && (decide (cmpA x.f0 a ≤ 0) && decide (cmpA a x.f1 ≤ 0)))
set_option maxHeartbeats 1000000 in
set_option maxRecDepth 100000 in
theorem closureInR (a : S36) (B : Nat) (x : S66) (W : World) (hB : W.heap[B]? = some (.cells #[.bool a.f0, .int .u64 a.f1, .int .u64 a.f2] 36 (0, 0))) :
    Calls Try.prog 84 #[.agg #[.bool x.f0.f0, .int .u64 x.f0.f1, .int .u64 x.f0.f2, .bool x.f1.f0, .int .u64 x.f1.f1, .int .u64 x.f1.f2], .pointer (some ⟨B, 0, none⟩)] W fun e w' => e = .returned (.bool (inRange a x)) ∧ Below W.heap.size W w' := by
  have hu := Try.underlying66
  have hu2 := Try.underlying36
  have HX1 : Aside0 ((W.alloc (.cells #[.bool x.f0.f0, .int .u64 x.f0.f1, .int .u64 x.f0.f2, .bool x.f1.f0, .int .u64 x.f1.f1, .int .u64 x.f1.f2] 66)).heap[W.heap.size]? = some (.cells #[.bool x.f0.f0, .int .u64 x.f0.f1, .int .u64 x.f0.f2, .bool x.f1.f0, .int .u64 x.f1.f1, .int .u64 x.f1.f2] 66 (0, 0))) := ⟨heap_alloc_new _ _⟩
  have HB1 := Aside0.mk (blk_alloc hB (.cells #[.bool x.f0.f0, .int .u64 x.f0.f1, .int .u64 x.f0.f2, .bool x.f1.f0, .int .u64 x.f1.f1, .int .u64 x.f1.f2] 66))
  have HL1 : Aside0 (Below W.heap.size W (W.alloc (.cells #[.bool x.f0.f0, .int .u64 x.f0.f1, .int .u64 x.f0.f2, .bool x.f1.f0, .int .u64 x.f1.f1, .int .u64 x.f1.f2] 66))) := ⟨(Below.refl _ _).alloc (Nat.le_refl _) _⟩
  clear hB
  cases h1 : someB x with
  | false =>
    rw [show inRange a x = false by simp [inRange, h1]]
    go_enter Try.func84, Try.ntmps84
    go_wp2_with (go_at_call 71; refine (addrset_some.calls x.f0.f0 x.f0.f1 x.f0.f2 x.f1.f0 x.f1.f1 x.f1.f2 (someB x) _ (some_eq x)).mono ?_; rintro e w2 ⟨rfl, hb⟩; rw [h1]; have HB2 := Aside0.mk (blk_below HB1.out hb); have HX2 := Aside0.mk (blk_below HX1.out hb); have HL2 := Aside0.mk (HL1.out.trans (hb.mono HL1.out.size)); have cb2_0 := (blk_cell HB2.out 0).trans rfl; have cb2_1 := (blk_cell HB2.out 1).trans rfl; have cb2_2 := (blk_cell HB2.out 2).trans rfl; have cx2_0 := (blk_cell HX2.out 0).trans rfl; have cx2_1 := (blk_cell HX2.out 1).trans rfl; have cx2_2 := (blk_cell HX2.out 2).trans rfl; have cx2_3 := (blk_cell HX2.out 3).trans rfl; have cx2_4 := (blk_cell HX2.out 4).trans rfl; have cx2_5 := (blk_cell HX2.out 5).trans rfl; clear hb)
    go_ret
    exact ⟨rfl, HL2.out⟩
  | true =>
    cases h2 : (x.f0.f0 == a.f0) with
    | false =>
      rw [show inRange a x = false by simp [inRange, h1, h2]]
      have h3 : decide (x.f0.f0 = a.f0) = false := by simpa using h2
      go_enter Try.func84, Try.ntmps84
      go_wp2_with (go_at_call 71; refine (addrset_some.calls x.f0.f0 x.f0.f1 x.f0.f2 x.f1.f0 x.f1.f1 x.f1.f2 (someB x) _ (some_eq x)).mono ?_; rintro e w2 ⟨rfl, hb⟩; rw [h1]; have HB2 := Aside0.mk (blk_below HB1.out hb); have HX2 := Aside0.mk (blk_below HX1.out hb); have HL2 := Aside0.mk (HL1.out.trans (hb.mono HL1.out.size)); have cb2_0 := (blk_cell HB2.out 0).trans rfl; have cb2_1 := (blk_cell HB2.out 1).trans rfl; have cb2_2 := (blk_cell HB2.out 2).trans rfl; have cx2_0 := (blk_cell HX2.out 0).trans rfl; have cx2_1 := (blk_cell HX2.out 1).trans rfl; have cx2_2 := (blk_cell HX2.out 2).trans rfl; have cx2_3 := (blk_cell HX2.out 3).trans rfl; have cx2_4 := (blk_cell HX2.out 4).trans rfl; have cx2_5 := (blk_cell HX2.out 5).trans rfl; clear hb)
      go_ret
      exact ⟨rfl, HL2.out⟩
    | true =>
      have h3 : decide (x.f0.f0 = a.f0) = true := by simpa using h2
      cases h4 : decide (cmpA x.f0 a ≤ 0) with
      | false =>
        rw [show inRange a x = false by simp [inRange, h1, h2, h4]]
        go_enter Try.func84, Try.ntmps84
        go_wp2_with (first | (go_at_call 71; refine (addrset_some.calls x.f0.f0 x.f0.f1 x.f0.f2 x.f1.f0 x.f1.f1 x.f1.f2 (someB x) _ (some_eq x)).mono ?_; rintro e w2 ⟨rfl, hb⟩; rw [h1]; have HB2 := Aside0.mk (blk_below HB1.out hb); have HX2 := Aside0.mk (blk_below HX1.out hb); have HL2 := Aside0.mk (HL1.out.trans (hb.mono HL1.out.size)); have cb2_0 := (blk_cell HB2.out 0).trans rfl; have cb2_1 := (blk_cell HB2.out 1).trans rfl; have cb2_2 := (blk_cell HB2.out 2).trans rfl; have cx2_0 := (blk_cell HX2.out 0).trans rfl; have cx2_1 := (blk_cell HX2.out 1).trans rfl; have cx2_2 := (blk_cell HX2.out 2).trans rfl; have cx2_3 := (blk_cell HX2.out 3).trans rfl; have cx2_4 := (blk_cell HX2.out 4).trans rfl; have cx2_5 := (blk_cell HX2.out 5).trans rfl; clear hb) | (go_at_call 75; with_reducible refine (address_Compare.calls x.f0.f0 x.f0.f1 x.f0.f2 a.f0 a.f1 a.f2 (cmpA x.f0 a) _ rfl).mono ?_; rintro e w3 ⟨rfl, hb⟩; have HB3 := Aside0.mk (blk_below HB2.out hb); have HX3 := Aside0.mk (blk_below HX2.out hb); have HL3 := Aside0.mk (HL2.out.trans (hb.mono HL2.out.size)); have cb3_0 := (blk_cell HB3.out 0).trans rfl; have cb3_1 := (blk_cell HB3.out 1).trans rfl; have cb3_2 := (blk_cell HB3.out 2).trans rfl; have cx3_0 := (blk_cell HX3.out 0).trans rfl; have cx3_1 := (blk_cell HX3.out 1).trans rfl; have cx3_2 := (blk_cell HX3.out 2).trans rfl; have cx3_3 := (blk_cell HX3.out 3).trans rfl; have cx3_4 := (blk_cell HX3.out 4).trans rfl; have cx3_5 := (blk_cell HX3.out 5).trans rfl; clear hb))
        go_ret
        exact ⟨rfl, HL3.out⟩
      | true =>
        rw [show inRange a x = decide (cmpA a x.f1 ≤ 0) by simp [inRange, h1, h2, h4]]
        go_enter Try.func84, Try.ntmps84
        go_wp2_with (first | (go_at_call 71; refine (addrset_some.calls x.f0.f0 x.f0.f1 x.f0.f2 x.f1.f0 x.f1.f1 x.f1.f2 (someB x) _ (some_eq x)).mono ?_; rintro e w2 ⟨rfl, hb⟩; rw [h1]; have HB2 := Aside0.mk (blk_below HB1.out hb); have HX2 := Aside0.mk (blk_below HX1.out hb); have HL2 := Aside0.mk (HL1.out.trans (hb.mono HL1.out.size)); have cb2_0 := (blk_cell HB2.out 0).trans rfl; have cb2_1 := (blk_cell HB2.out 1).trans rfl; have cb2_2 := (blk_cell HB2.out 2).trans rfl; have cx2_0 := (blk_cell HX2.out 0).trans rfl; have cx2_1 := (blk_cell HX2.out 1).trans rfl; have cx2_2 := (blk_cell HX2.out 2).trans rfl; have cx2_3 := (blk_cell HX2.out 3).trans rfl; have cx2_4 := (blk_cell HX2.out 4).trans rfl; have cx2_5 := (blk_cell HX2.out 5).trans rfl; clear hb) | (go_at_call 75; with_reducible refine (address_Compare.calls x.f0.f0 x.f0.f1 x.f0.f2 a.f0 a.f1 a.f2 (cmpA x.f0 a) _ rfl).mono ?_; rintro e w3 ⟨rfl, hb⟩; have HB3 := Aside0.mk (blk_below HB2.out hb); have HX3 := Aside0.mk (blk_below HX2.out hb); have HL3 := Aside0.mk (HL2.out.trans (hb.mono HL2.out.size)); have cb3_0 := (blk_cell HB3.out 0).trans rfl; have cb3_1 := (blk_cell HB3.out 1).trans rfl; have cb3_2 := (blk_cell HB3.out 2).trans rfl; have cx3_0 := (blk_cell HX3.out 0).trans rfl; have cx3_1 := (blk_cell HX3.out 1).trans rfl; have cx3_2 := (blk_cell HX3.out 2).trans rfl; have cx3_3 := (blk_cell HX3.out 3).trans rfl; have cx3_4 := (blk_cell HX3.out 4).trans rfl; have cx3_5 := (blk_cell HX3.out 5).trans rfl; clear hb) | (go_at_call 75; with_reducible refine (address_Compare.calls a.f0 a.f1 a.f2 x.f1.f0 x.f1.f1 x.f1.f2 (cmpA a x.f1) _ rfl).mono ?_; rintro e w4 ⟨rfl, hb⟩; have HB4 := Aside0.mk (blk_below HB3.out hb); have HX4 := Aside0.mk (blk_below HX3.out hb); have HL4 := Aside0.mk (HL3.out.trans (hb.mono HL3.out.size)); have cb4_0 := (blk_cell HB4.out 0).trans rfl; have cb4_1 := (blk_cell HB4.out 1).trans rfl; have cb4_2 := (blk_cell HB4.out 2).trans rfl; have cx4_0 := (blk_cell HX4.out 0).trans rfl; have cx4_1 := (blk_cell HX4.out 1).trans rfl; have cx4_2 := (blk_cell HX4.out 2).trans rfl; have cx4_3 := (blk_cell HX4.out 3).trans rfl; have cx4_4 := (blk_cell HX4.out 4).trans rfl; have cx4_5 := (blk_cell HX4.out 5).trans rfl; clear hb))
        go_ret
        exact ⟨rfl, HL4.out⟩
def addrset_Contains.f (l0 : List S66) (a1_0 : Bool) (a1_1 : Int) (a1_2 : Int) : Option Bool := some (fineB ⟨a1_0, a1_1, a1_2⟩ && l0.any (inRange ⟨a1_0, a1_1, a1_2⟩))
set_option maxHeartbeats 1000000 in
set_option maxRecDepth 100000 in
theorem addrset_Contains.calls (A0 : Option Addr) (c0 : Nat) (l0 : List S66) (a1_0 : Bool) (a1_1 : Int) (a1_2 : Int) (r : Bool) (w : World) (hr0 : Kd.C k66 w A0 l0.length l0) (hc0 : l0.length ≤ c0) (h : addrset_Contains.f l0 a1_0 a1_1 a1_2 = some r) :
    Calls Try.prog 42 #[.slice A0 l0.length c0, .agg #[.bool a1_0, .int .u64 a1_1, .int .u64 a1_2]] w fun e w' => e = .returned (.bool r) ∧ Below w.heap.size w w' := by
  unfold addrset_Contains.f at h
  injection h with h
  subst h
  have hu2 := Try.underlying36
  have hfe := fine_eq ⟨a1_0, a1_1, a1_2⟩
  have HR := Aside0.mk (Kd.C_alloc hr0 (.cells #[.bool a1_0, .int .u64 a1_1, .int .u64 a1_2] 36))
  have HB1 : Aside0 ((w.alloc (.cells #[.bool a1_0, .int .u64 a1_1, .int .u64 a1_2] 36)).heap[w.heap.size]? = some (.cells #[.bool a1_0, .int .u64 a1_1, .int .u64 a1_2] 36 (0, 0))) := ⟨heap_alloc_new _ _⟩
  have HL1 : Aside0 (Below w.heap.size w (w.alloc (.cells #[.bool a1_0, .int .u64 a1_1, .int .u64 a1_2] 36))) := ⟨(Below.refl _ _).alloc (Nat.le_refl _) _⟩
  have eg : ∀ args w, (callFunc 84 args).run Try.prog w = .ok (.enter 84 args) w := enters_of Try.func84 (by kernel_rfl) rfl
  have HEG := Aside0.mk eg
  clear hr0 eg
  cases hf : fineB ⟨a1_0, a1_1, a1_2⟩ with
  | false =>
    rw [hf] at hfe
    simp only [Bool.false_and]
    have HFE := Aside0.mk hfe
    clear hf hfe
    go_enter Try.func42, Try.ntmps42
    go_wp2_with (go_at_call 82; refine (address_Valid.calls a1_0 a1_1 a1_2 false _ HFE.out).mono ?_; rintro e w2 ⟨rfl, hb⟩; have HL2 := Aside0.mk (HL1.out.trans (hb.mono HL1.out.size)); clear hb)
    go_ret
    exact ⟨rfl, HL2.out⟩
  | true =>
    rw [hf] at hfe
    simp only [Bool.true_and]
    have HFE := Aside0.mk hfe
    clear hf hfe
    have HG := Aside0.mk (fun (w2 : World) (hb : Below (w.alloc (.cells #[.bool a1_0, .int .u64 a1_1, .int .u64 a1_2] 36)).heap.size (w.alloc (.cells #[.bool a1_0, .int .u64 a1_1, .int .u64 a1_2] 36)) w2) => containsFuncRange (inRange ⟨a1_0, a1_1, a1_2⟩) 84 #[.pointer (some ⟨w.heap.size, 0, none⟩)] A0 c0 l0 w2 HEG.out
      (fun W x hb2 => (closureInR ⟨a1_0, a1_1, a1_2⟩ w.heap.size x W (blk_below (blk_below HB1.out hb) hb2)).mono fun e w' ⟨he, hb'⟩ => ⟨he, hb2.trans (hb'.mono hb2.size)⟩)
      (Kd.C_below HR.out hb))
    generalize l0.any (inRange ⟨a1_0, a1_1, a1_2⟩) = r at HG ⊢
    go_enter Try.func42, Try.ntmps42
    go_wp2_with (first | (go_at_call 82; refine (address_Valid.calls a1_0 a1_1 a1_2 true _ HFE.out).mono ?_; rintro e w2 ⟨rfl, hb⟩; have HL2 := Aside0.mk (HL1.out.trans (hb.mono HL1.out.size)); have HC := Aside0.mk (HG.out w2 hb); clear hb) | (go_at_call 83; refine HC.out.mono ?_; rintro e w3 ⟨rfl, hb⟩; have HL3 := Aside0.mk (HL2.out.trans (hb.mono HL2.out.size)); clear hb))
    go_ret
    exact ⟨rfl, HL3.out⟩
end Go.Proofs.Ytcgfpffgiimgmaa.Q
end

section
set_option linter.unusedVariables false
set_option linter.unusedSimpArgs false
namespace Go.Proofs.Ytcgfpffgiimgmaa.Q
open Go.RowKit Go.Proofs.YtcgfpffgiimgmaaW.PrintWords Go.Proofs.YtcgfpffgiimgmaaW.PrintLast Go.Proofs.YtcgfpffgiimgmaaW.PrintMore
def greaterA (a b : S36) : S36 := if 0 ≤ cmpA a b then a else b
def lessA (a b : S36) : S36 := if cmpA a b ≤ 0 then a else b
theorem greater_eq (a b : S36) : addrset_greater.f a.f0 a.f1 a.f2 b.f0 b.f1 b.f2 = some ((greaterA a b).f0, (greaterA a b).f1, (greaterA a b).f2) := by
  unfold addrset_greater.f address_Compare.f greaterA
  simp only [Option.bind_some, ge_iff_le]
  by_cases h : 0 ≤ cmpA a b
  · rw [if_pos h, if_pos h]
  · rw [if_neg h, if_neg h]
theorem less_eq (a b : S36) : addrset_less.f a.f0 a.f1 a.f2 b.f0 b.f1 b.f2 = some ((lessA a b).f0, (lessA a b).f1, (lessA a b).f2) := by
  unfold addrset_less.f address_Compare.f lessA
  simp only [Option.bind_some]
  by_cases h : cmpA a b ≤ 0
  · rw [if_pos h, if_pos h]
  · rw [if_neg h, if_neg h]
def bothR (r s : S66) : S66 := ⟨greaterA r.f0 s.f0, lessA r.f1 s.f1⟩
def interOne (r : S66) (xs : List S66) (s : S66) : List S66 := if r.f0.f0 = s.f0.f0 then addIf xs (bothR r s) else xs
def interRow (y : List S66) (xs : List S66) (r : S66) : List S66 := y.foldl (interOne r) xs
theorem addIf_le (xs : List S66) (x : S66) : (addIf xs x).length ≤ xs.length + 1 := by
  unfold addIf
  split <;> simp
theorem interOne_le (r : S66) (xs : List S66) (s : S66) : (interOne r xs s).length ≤ xs.length + 1 := by
  unfold interOne
  split
  · exact addIf_le _ _
  · omega
theorem interRow_le (r : S66) : ∀ (y xs : List S66), (y.foldl (interOne r) xs).length ≤ xs.length + y.length
  | [], xs => by simp
  | s :: t, xs => by
    have h1 := interRow_le r t (interOne r xs s)
    have h2 := interOne_le r xs s
    simp only [List.foldl_cons, List.length_cons]
    omega
theorem interAll_le (y : List S66) : ∀ (x xs : List S66), (x.foldl (interRow y) xs).length ≤ xs.length + x.length * y.length
  | [], xs => by simp
  | r :: t, xs => by
    have h1 := interAll_le y t (interRow y xs r)
    have h2 := interRow_le r y xs
    simp only [List.foldl_cons, List.length_cons, Nat.succ_mul]
    unfold interRow at h1 ⊢
    omega
theorem take_fold {α β : Type} (f : β → α → β) (b : β) (l : List α) (k : Nat) (hk : k < l.length) : (l.take (k + 1)).foldl f b = f ((l.take k).foldl f b) l[k] := by
  rw [List.take_succ_eq_append_getElem hk, List.foldl_append]
  rfl
theorem inter_bound (x y : List S66) (i j : Nat) (hi : i < x.length) (hj : j < y.length) (r : S66) (h : x.length * y.length < 2932031007402) : ((y.take j).foldl (interOne r) ((x.take i).foldl (interRow y) [])).length < 2932031007402 := by
  have h1 := interRow_le r (y.take j) ((x.take i).foldl (interRow y) [])
  have h2 := interAll_le y (x.take i) []
  simp only [List.length_take, List.length_nil, Nat.zero_add] at h1 h2
  have h3 : min i x.length * y.length ≤ i * y.length := Nat.mul_le_mul_right _ (Nat.min_le_left _ _)
  have h4 : (i + 1) * y.length ≤ x.length * y.length := Nat.mul_le_mul_right _ hi
  rw [Nat.succ_mul] at h4
  omega
def addrset_Intersect.f (k : Nat) (l0 l1 : List S66) : Option (List S66) := (addrset_Normal.f k l1).bind fun y => (addrset_Normal.f k l0).bind fun x => if x.length * y.length < 2932031007402 then addrset_Normal.f k (x.foldl (interRow y) []) else none
theorem addrset_Intersect.mono : ∀ a0 a1 k, LeO (addrset_Intersect.f k a0 a1) (addrset_Intersect.f (k + 1) a0 a1) := by
  intro a0 a1 k
  unfold addrset_Intersect.f
  exact LeO.bind (addrset_Normal.mono _ _) (fun _ => LeO.bind (addrset_Normal.mono _ _) (fun _ => LeO.ite (addrset_Normal.mono _ _) (LeO.none _)))
structure InterAt (w W1 wr : World) (B : Nat) (v : Value) (xs : List S66) : Prop where
  cell : wr.heap[B]? = some (.cells #[v, .func (.func 71) #[] #[]] 69 (0, 0))
  row : Kd.R k66 66 wr w.heap.size (fun _ => True) v xs
  bel : Below w.heap.size w wr
  size : W1.heap.size ≤ wr.heap.size
  keep : ∀ q, q < W1.heap.size → q ≠ B → wr.heap[q]? = W1.heap[q]?
  own : ∀ q, v.ownBlock = some q → W1.heap.size ≤ q
theorem InterAt.below {w W1 wr W : World} {B : Nat} {v : Value} {xs : List S66} (h : InterAt w W1 wr B v xs) (hb : Below wr.heap.size wr W) : InterAt w W1 W B v xs where
  cell := (hb.block B (lt_of_block h.cell)).trans h.cell
  row := Kd.R_below h.row hb
  bel := h.bel.trans (hb.mono h.bel.size)
  size := Nat.le_trans h.size hb.size
  keep := fun q hq hn => (hb.block q (Nat.lt_of_lt_of_le hq h.size)).trans (h.keep q hq hn)
  own := h.own
theorem InterAt.added {w W1 wr W : World} {B : Nat} {v v' : Value} {xs ys : List S66} (h : InterAt w W1 wr B v xs) (ha : AddedR w wr W B v v' ys) : InterAt w W1 W B v' ys where
  cell := ha.cell
  row := ha.row
  bel := ha.bel
  size := Nat.le_trans h.size ha.size
  keep := fun q hq hn => (ha.kept q (Nat.lt_of_lt_of_le hq h.size) (fun e => by have := h.own q e.symm; omega) hn).trans (h.keep q hq hn)
  own := fun q hq => by
    rcases ha.own with e | ⟨b, e, hb⟩
    · rw [e] at hq; exact h.own q hq
    · rw [e] at hq
      injection hq with hq
      exact hq ▸ Nat.le_trans h.size hb
theorem InterAt.list {w W1 wr : World} {b B : Nat} {v : Value} {xs l : List S66} {A : Option Addr} {n c : Nat} (h : InterAt w W1 wr B v xs) (ho : Kd.R k66 66 W1 b (fun _ => True) (.slice A n c) l) (hB : ∀ q, (Value.slice A n c).ownBlock = some q → q ≠ B) : Kd.C k66 wr A l.length l :=
  (Kd.R_reads' (Kd.R_move (Kd.R_tight rfl ho) (fun q hq => h.keep q (Kd.R_lt ho q hq.symm) (hB q hq.symm)))).2.2
def addrset_Intersect.T10 : Bool × List (List Nat × List Nat) := (true, [([], []), ([0], [0]), ([], []), ([2], [2]), ([1, 3], [1, 3]), ([], []), ([5], [5]), ([], []), ([7], [7]), ([6, 8, 4], [6, 8]), ([4, 9], [4, 9]), ([10, 9], [10])])
def addrset_Intersect.B10 : List Nat := [0, 1, 0, 4, 15, 0, 32, 0, 128, 511, 1023, 2047]
theorem addrset_Intersect.tab10 : rtab .any (opsOf Try.f54 10) = addrset_Intersect.T10 := by kernel_rfl
theorem addrset_Intersect.bits10 : waitsOk addrset_Intersect.T10.2 addrset_Intersect.B10 = true := by kernel_rfl
set_option maxHeartbeats 8000000 in
set_option maxRecDepth 100000 in
theorem addrset_Intersect.calls (k : Nat) (A0 : Option Addr) (c0 : Nat) (l0 : List S66) (A1 : Option Addr) (c1 : Nat) (l1 : List S66) (r : List S66) (w : World) (hr0 : Kd.C k66 w A0 l0.length l0) (hc0 : l0.length ≤ c0) (hr1 : Kd.C k66 w A1 l1.length l1) (hc1 : l1.length ≤ c1) (h : addrset_Intersect.f k l0 l1 = some r) :
    Calls Try.prog 54 #[.slice A0 l0.length c0, .slice A1 l1.length c1] w fun e w' => ∃ v0_ : Value, e = .returned (v0_) ∧ Kd.R k66 66 w' w.heap.size (fun _ => True) v0_ r ∧ Below w.heap.size w w' := by
  unfold addrset_Intersect.f at h
  obtain ⟨y, hy, h⟩ := Option.bind_eq_some_iff.1 h
  obtain ⟨x, hx, h⟩ := Option.bind_eq_some_iff.1 h
  by_cases hlim : x.length * y.length < 2932031007402
  · rw [if_pos hlim] at h
    have HY := Aside0.mk hy
    have HX := Aside0.mk hx
    have HL := Aside0.mk hlim
    have HF := Aside0.mk h
    have HR0 := Aside0.mk hr0
    have HR1 := Aside0.mk hr1
    have HC0 := Aside0.mk hc0
    have HC1 := Aside0.mk hc1
    have hu69 := Try.underlying69
    have hu66 := Try.underlying66
    have hu36 := Try.underlying36
    clear hy hx hlim h hr0 hr1 hc0 hc1
    go_enter Try.func54, Try.ntmps54
    go_wp2_with fail
    refine (addrset_Normal.calls k A1 c1 l1 y _ (Kd.C_alloc HR1.out _) HC1.out HY.out).mono ?_
    rintro e w2 ⟨vY, rfl, hoY, hbY⟩
    obtain ⟨AY, cY, rfl⟩ := Kd.R_slice hoY
    have HBY := Aside0.mk hbY
    have HOY := Aside0.mk hoY
    clear hbY hoY
    go_wp2_with fail
    refine (addrset_Normal.calls k A0 c0 l0 x _ (Kd.C_below HR0.out (((Below.refl _ _).alloc (Nat.le_refl _) _).trans (HBY.out.mono (by simp)))) HC0.out HX.out).mono ?_
    rintro e w3 ⟨vX, rfl, hoX, hbX⟩
    obtain ⟨AX, cX, rfl⟩ := Kd.R_slice hoX
    have hlist : w3.heap[w.heap.size]? = some (.cells #[.slice none 0 0, .func (.func 71) #[] #[]] 69 (0, 0)) := (hbX.block _ (Nat.lt_of_lt_of_le (by simp) HBY.out.size)).trans ((HBY.out.block _ (by simp)).trans (heap_alloc_new _ _))
    have hbel : Below w.heap.size w w3 := (((Below.refl _ _).alloc (Nat.le_refl _) _).trans (HBY.out.mono (by simp))).trans (hbX.mono (Nat.le_trans (by simp) HBY.out.size))
    have H00 : Aside0 (InterAt w w3 w3 w.heap.size (.slice none 0 0) []) := ⟨⟨hlist, Kd.R_nil _ _ _ _ _, hbel, Nat.le_refl _, fun _ _ _ => rfl, fun q hq => by simp [Value.ownBlock] at hq⟩⟩
    have HOX := Aside0.mk hoX
    have HOY3 := Aside0.mk (Kd.R_below HOY.out hbX)
    have HNX : Aside0 (∀ q, (Value.slice AX x.length cX).ownBlock = some q → q ≠ w.heap.size) := ⟨fun q hq => by have h1 := Kd.R_base HOX.out q hq; have h2 := HBY.out.size; simp at h2; omega⟩
    have HNY : Aside0 (∀ q, (Value.slice AY y.length cY).ownBlock = some q → q ≠ w.heap.size) := ⟨fun q hq => by have h1 := Kd.R_base HOY.out q hq; simp at h1; omega⟩
    have HMX : Aside0 (x.length ≤ 9223372036854775807) := ⟨(Kd.R_reads' hoX).2.2.2.1⟩
    have HMY : Aside0 (y.length ≤ 9223372036854775807) := ⟨(Kd.R_reads' HOY.out).2.2.2.1⟩
    have hmx := HMX.out
    have hmy := HMY.out
    clear hlist hbel hoX hbX
    go_wp2_with fail
    go_loopg [17] x.length (fun gg v17 wr => ∃ kk : Nat, kk ≤ x.length ∧ x.length - kk ≤ gg ∧ v17 = .int .i64 kk ∧ Aside0 (∃ v, InterAt w w3 wr w.heap.size v ((x.take kk).foldl (interRow y) [])))
    case atStart => exact ⟨0, Nat.zero_le _, by omega, rfl, ⟨_, H00.out⟩⟩
    case round =>
      obtain ⟨kk, hkk, hg, rfl, HA⟩ := hrel
      obtain ⟨v, HAv⟩ := HA.out
      have HV := Aside0.mk HAv
      clear HA HAv H00
      by_cases hlt : kk < x.length
      · have hltz : (kk : Int) < (x.length : Int) := by omega
        obtain ⟨ad, e, hx0, hx1, hx2, hx3, hx4, hx5⟩ := at_T66 (HV.out.list HOX.out HNX.out) kk (by omega) hltz
        cases e
        have hrd : rd_T66 x (kk : Int) = x[kk] := by simp [rd_T66, List.getD_eq_getElem?_getD, List.getElem?_eq_getElem hlt]
        rw [hrd] at hx0 hx1 hx2 hx3 hx4 hx5
        simp only [Int.toNat_natCast] at hx0 hx1 hx2 hx3 hx4 hx5
        have hfold := take_fold (interRow y) [] x kk hlt
        clear hrd
        generalize x[kk] = rr at hx0 hx1 hx2 hx3 hx4 hx5 hfold
        have HFO := Aside0.mk hfold
        clear hfold
        go_wp2_with fail
        obtain ⟨g1, hg1⟩ : ∃ g, wr.heap.size = g := ⟨_, rfl⟩
        have HX1 : Aside0 ((wr.alloc (.cells #[.bool rr.f0.f0, .int .u64 rr.f0.f1, .int .u64 rr.f0.f2, .bool rr.f1.f0, .int .u64 rr.f1.f1, .int .u64 rr.f1.f2] 66)).heap[g1]? = some (.cells #[.bool rr.f0.f0, .int .u64 rr.f0.f1, .int .u64 rr.f0.f2, .bool rr.f1.f0, .int .u64 rr.f1.f1, .int .u64 rr.f1.f2] 66 (0, 0))) := ⟨by rw [← hg1]; exact heap_alloc_new _ _⟩
        have HVI := Aside0.mk (HV.out.below ((Below.refl _ _).alloc (Nat.le_refl _) (.cells #[.bool rr.f0.f0, .int .u64 rr.f0.f1, .int .u64 rr.f0.f2, .bool rr.f1.f0, .int .u64 rr.f1.f1, .int .u64 rr.f1.f2] 66)))
        have HG1 : Aside0 (w3.heap.size ≤ g1 ∧ v.ownBlock ≠ some g1) := ⟨⟨by rw [← hg1]; exact HV.out.size, fun e => by have := Kd.R_lt HV.out.row g1 e; omega⟩⟩
        clear hx0 hx1 hx2 hx3 hx4 hx5 HV
        simp only [hg1]
        generalize wr.alloc (.cells #[.bool rr.f0.f0, .int .u64 rr.f0.f1, .int .u64 rr.f0.f2, .bool rr.f1.f0, .int .u64 rr.f1.f1, .int .u64 rr.f1.f2] 66) = wo at HX1 HVI ⊢
        clear hg1
        go_loopg [23] y.length (fun gg v23 wi => ∃ jj : Nat, jj ≤ y.length ∧ y.length - jj ≤ gg ∧ v23 = .int .i64 jj ∧ Aside0 (∃ v, InterAt w w3 wi w.heap.size v ((y.take jj).foldl (interOne rr) ((x.take kk).foldl (interRow y) [])) ∧ v.ownBlock ≠ some g1) ∧ Aside0 (wi.heap[g1]? = some (.cells #[.bool rr.f0.f0, .int .u64 rr.f0.f1, .int .u64 rr.f0.f2, .bool rr.f1.f0, .int .u64 rr.f1.f1, .int .u64 rr.f1.f2] 66 (0, 0))))
        case atStart => exact ⟨0, Nat.zero_le _, by omega, rfl, ⟨_, HVI.out, HG1.out.2⟩, HX1⟩
        case round =>
          obtain ⟨jj, hjj, hg2, rfl, HA, HX1i⟩ := hrel
          obtain ⟨vv, HAv, hov⟩ := HA.out
          have HV := Aside0.mk HAv
          have HOV := Aside0.mk hov
          clear HA HAv hov HVI HX1
          by_cases hlt2 : jj < y.length
          · have hltz2 : (jj : Int) < (y.length : Int) := by omega
            obtain ⟨ad2, e, hx0, hx1, hx2, hx3, hx4, hx5⟩ := at_T66 (HV.out.list HOY3.out HNY.out) jj (by omega) hltz2
            cases e
            have hrd : rd_T66 y (jj : Int) = y[jj] := by simp [rd_T66, List.getD_eq_getElem?_getD, List.getElem?_eq_getElem hlt2]
            rw [hrd] at hx0 hx1 hx2 hx3 hx4 hx5
            simp only [Int.toNat_natCast] at hx0 hx1 hx2 hx3 hx4 hx5
            have hfold2 := take_fold (interOne rr) ((x.take kk).foldl (interRow y) []) y jj hlt2
            have HLE := Aside0.mk (inter_bound x y kk jj hlt hlt2 rr HL.out)
            clear hrd
            generalize y[jj] = ss at hx0 hx1 hx2 hx3 hx4 hx5 hfold2
            have HFO2 := Aside0.mk hfold2
            clear hfold2
            have hy0 := zc HX1i 0
            have hl1 := lt_of_block HX1i.out
            by_cases hf : rr.f0.f0 = ss.f0.f0
            · have HE : Aside0 (interOne rr ((y.take jj).foldl (interOne rr) ((x.take kk).foldl (interRow y) [])) ss = addIf ((y.take jj).foldl (interOne rr) ((x.take kk).foldl (interRow y) [])) (bothR rr ss)) := ⟨by unfold interOne; rw [if_pos hf]⟩
              have hb1 : (rr.f0.f0 == ss.f0.f0) = true := beq_iff_eq.2 hf
              have hb2 : decide (rr.f0.f0 = ss.f0.f0) = true := decide_eq_true hf
              clear hf
              go_wp2_with fail
              obtain ⟨g2, hg2⟩ : ∃ g, wr.heap.size = g := ⟨_, rfl⟩
              have HX2 : Aside0 ((wr.alloc (.cells #[.bool ss.f0.f0, .int .u64 ss.f0.f1, .int .u64 ss.f0.f2, .bool ss.f1.f0, .int .u64 ss.f1.f1, .int .u64 ss.f1.f2] 66)).heap[g2]? = some (.cells #[.bool ss.f0.f0, .int .u64 ss.f0.f1, .int .u64 ss.f0.f2, .bool ss.f1.f0, .int .u64 ss.f1.f1, .int .u64 ss.f1.f2] 66 (0, 0))) := ⟨by rw [← hg2]; exact heap_alloc_new _ _⟩
              have HX1 := Aside0.mk (blk_alloc HX1i.out (.cells #[.bool ss.f0.f0, .int .u64 ss.f0.f1, .int .u64 ss.f0.f2, .bool ss.f1.f0, .int .u64 ss.f1.f1, .int .u64 ss.f1.f2] 66))
              have HV1 := Aside0.mk (HV.out.below ((Below.refl _ _).alloc (Nat.le_refl _) (.cells #[.bool ss.f0.f0, .int .u64 ss.f0.f1, .int .u64 ss.f0.f2, .bool ss.f1.f0, .int .u64 ss.f1.f1, .int .u64 ss.f1.f2] 66)))
              simp only [hg2]
              generalize wr.alloc (.cells #[.bool ss.f0.f0, .int .u64 ss.f0.f1, .int .u64 ss.f0.f2, .bool ss.f1.f0, .int .u64 ss.f1.f1, .int .u64 ss.f1.f2] 66) = w1 at HX1 HX2 HV1 ⊢
              clear hg2 hx0 hx1 hx2 hx3 hx4 hx5 hy0 hl1
              refine start_ (n := 12) (S := fun w' => w'.cell? ⟨g1, 0, none⟩ = some (.bool rr.f0.f0) ∧ w'.cell? ⟨g1, 1, none⟩ = some (.int .u64 rr.f0.f1) ∧ w'.cell? ⟨g1, 2, none⟩ = some (.int .u64 rr.f0.f2) ∧ w'.cell? ⟨g1, 3, none⟩ = some (.bool rr.f1.f0) ∧ w'.cell? ⟨g1, 4, none⟩ = some (.int .u64 rr.f1.f1) ∧ w'.cell? ⟨g1, 5, none⟩ = some (.int .u64 rr.f1.f2) ∧ w'.cell? ⟨g2, 0, none⟩ = some (.bool ss.f0.f0) ∧ w'.cell? ⟨g2, 1, none⟩ = some (.int .u64 ss.f0.f1) ∧ w'.cell? ⟨g2, 2, none⟩ = some (.int .u64 ss.f0.f2) ∧ w'.cell? ⟨g2, 3, none⟩ = some (.bool ss.f1.f0) ∧ w'.cell? ⟨g2, 4, none⟩ = some (.int .u64 ss.f1.f1) ∧ w'.cell? ⟨g2, 5, none⟩ = some (.int .u64 ss.f1.f2)) (ds := [11]) #[false, false, false, false, false, false, false, false, false, false, false, false] (by kernel_rfl) rfl rfl ⟨zc HX1 0, zc HX1 1, zc HX1 2, zc HX1 3, zc HX1 4, zc HX1 5, zc HX2 0, zc HX2 1, zc HX2 2, zc HX2 3, zc HX2 4, zc HX2 5⟩ (fun hHeld => ?_)
              refine with_tabW addrset_Intersect.tab10 addrset_Intersect.bits10 (fun HT_ HW_ => ?_)
              replace HX1 := Aside0.mk (blk_drew HX1.out)
              replace HX2 := Aside0.mk (blk_drew HX2.out)
              replace HV1 := Aside0.mk (HV1.out.below (below_drew1 (Below.refl _ _)))
              generalize w1.drew = w1 at HX1 HX2 HV1 hHeld ⊢
              refine zp 0 34 HT_ ?_
              refine zp 2 36 HT_ ?_
              refine zp 5 39 HT_ ?_
              refine zp 7 41 HT_ ?_
              refine zt 1 35 HT_ HW_ hHeld ?_
              refine zt 3 37 HT_ HW_ hHeld ?_
              refine zt 6 40 HT_ HW_ hHeld ?_
              refine zt 8 42 HT_ HW_ hHeld ?_
              refine zo 4 38 HT_ (fun K hK => ?_)
              refine zg Try.func77 #[.agg #[.bool rr.f0.f0, .int .u64 rr.f0.f1, .int .u64 rr.f0.f2], .agg #[.bool ss.f0.f0, .int .u64 ss.f0.f1, .int .u64 ss.f0.f2]] ?_
              refine (addrset_greater.calls rr.f0.f0 rr.f0.f1 rr.f0.f2 ss.f0.f0 ss.f0.f1 ss.f0.f2 (greaterA rr.f0 ss.f0).f0 (greaterA rr.f0 ss.f0).f1 (greaterA rr.f0 ss.f0).f2 _ (greater_eq _ _)).mono ?_
              rintro e w4 ⟨rfl, hb⟩
              refine ⟨_, rfl, ?_⟩
              replace HX1 := Aside0.mk (blk_below HX1.out hb)
              replace HX2 := Aside0.mk (blk_below HX2.out hb)
              replace HV1 := Aside0.mk (HV1.out.below hb)
              clear hb
              refine hK.out _ _ ⟨zc HX1 0, zc HX1 1, zc HX1 2, zc HX1 3, zc HX1 4, zc HX1 5, zc HX2 0, zc HX2 1, zc HX2 2, zc HX2 3, zc HX2 4, zc HX2 5⟩ (fun hHeld => ?_)
              clear hK K
              refine zn 38 ?_
              refine zo 9 43 HT_ (fun K hK => ?_)
              refine zg Try.func95 #[.agg #[.bool rr.f1.f0, .int .u64 rr.f1.f1, .int .u64 rr.f1.f2], .agg #[.bool ss.f1.f0, .int .u64 ss.f1.f1, .int .u64 ss.f1.f2]] ?_
              refine (addrset_less.calls rr.f1.f0 rr.f1.f1 rr.f1.f2 ss.f1.f0 ss.f1.f1 ss.f1.f2 (lessA rr.f1 ss.f1).f0 (lessA rr.f1 ss.f1).f1 (lessA rr.f1 ss.f1).f2 _ (less_eq _ _)).mono ?_
              rintro e w5 ⟨rfl, hb⟩
              refine ⟨_, rfl, ?_⟩
              replace HX1 := Aside0.mk (blk_below HX1.out hb)
              replace HX2 := Aside0.mk (blk_below HX2.out hb)
              replace HV1 := Aside0.mk (HV1.out.below hb)
              clear hb
              refine hK.out _ _ ⟨zc HX1 0, zc HX1 1, zc HX1 2, zc HX1 3, zc HX1 4, zc HX1 5, zc HX2 0, zc HX2 1, zc HX2 2, zc HX2 3, zc HX2 4, zc HX2 5⟩ (fun hHeld => ?_)
              clear hK K
              refine zn 43 ?_
              refine zp 10 44 HT_ ?_
              refine last_ (i := 11) (N := some 45) #[true, true, true, true, true, true, true, true, true, true, true, true] rfl rfl (one_of HT_.out (by kernel_rfl)) (by decide) (fun K hK => ?_)
              refine zg Try.func72 #[.pointer (some ⟨w.heap.size, 0, none⟩), .agg #[.bool (greaterA rr.f0 ss.f0).f0, .int .u64 (greaterA rr.f0 ss.f0).f1, .int .u64 (greaterA rr.f0 ss.f0).f2, .bool (lessA rr.f1 ss.f1).f0, .int .u64 (lessA rr.f1 ss.f1).f1, .int .u64 (lessA rr.f1 ss.f1).f2]] ?_
              refine (addRange (bothR rr ss) w.heap.size vv _ w _ HV1.out.cell HV1.out.row HV1.out.bel (Nat.le_refl _) HLE.out).mono ?_
              rintro e w6 ⟨rfl, v', hadd⟩
              refine ⟨_, rfl, ?_⟩
              have hne : g1 ≠ w.heap.size := by
                have h1 := HG1.out.1
                have h2 := lt_of_block HV.out.cell
                have h3 := HNX.out
                intro e
                have h4 := HX1i.out
                rw [e, HV.out.cell] at h4
                injection h4 with h4
                injection h4 with _ h5 _
                exact absurd h5 (by decide)
              have hk1 := hadd.kept g1 (lt_of_block HX1.out) (fun e => HOV.out e.symm) hne
              have HX1n := Aside0.mk (hk1.trans HX1.out)
              have hown : v'.ownBlock ≠ some g1 := by
                rcases hadd.own with e | ⟨b, e, hb⟩
                · rw [e]; exact HOV.out
                · rw [e]; intro e2; injection e2 with e2; have := lt_of_block HX1.out; omega
              have HON := Aside0.mk hown
              have HVN := Aside0.mk (HV1.out.added hadd)
              clear hadd hk1 hown hne
              refine hK.out _ _ ?_
              clear hK K
              refine zn 45 ?_
              refine zd HT_ ?_
              go_wp2_with fail
              go_roundg (y.length - (jj + 1))
              case measure => omega
              case rel => exact ⟨jj + 1, by omega, by omega, by go_num, ⟨v', by rw [HFO2.out, HE.out]; exact HVN.out, HON.out⟩, HX1n⟩
            · have HE : Aside0 (interOne rr ((y.take jj).foldl (interOne rr) ((x.take kk).foldl (interRow y) [])) ss = (y.take jj).foldl (interOne rr) ((x.take kk).foldl (interRow y) [])) := ⟨by unfold interOne; rw [if_neg hf]⟩
              have hb1 : (rr.f0.f0 == ss.f0.f0) = false := beq_eq_false_iff_ne.2 hf
              have hb2 : decide (rr.f0.f0 = ss.f0.f0) = false := decide_eq_false hf
              clear hf
              go_wp2_with fail
              go_roundg (y.length - (jj + 1))
              case measure => omega
              case rel => exact ⟨jj + 1, by omega, by omega, by go_num, ⟨vv, by rw [HFO2.out, HE.out]; exact HV.out.below ((Below.refl _ _).alloc (Nat.le_refl _) _), HOV.out⟩, ⟨blk_alloc HX1i.out _⟩⟩
          · have hltz2 : ¬ (jj : Int) < (y.length : Int) := by omega
            have hfull : (y.take jj).foldl (interOne rr) ((x.take kk).foldl (interRow y) []) = interRow y ((x.take kk).foldl (interRow y) []) rr := by rw [show jj = y.length from by omega, List.take_length]; rfl
            have HFU := Aside0.mk hfull
            clear hfull
            go_wp2_with fail
            go_roundg (x.length - (kk + 1))
            case measure => omega
            case rel => exact ⟨kk + 1, by omega, by omega, by go_num, ⟨vv, by rw [HFO.out, ← HFU.out]; exact HV.out⟩⟩
      · have hltz : ¬ (kk : Int) < (x.length : Int) := by omega
        have hfull : (x.take kk).foldl (interRow y) [] = x.foldl (interRow y) [] := by rw [show kk = x.length from by omega, List.take_length]
        rw [hfull] at HV
        clear hfull
        obtain ⟨Av, cv, hv4⟩ := Kd.R_slice HV.out.row
        subst hv4
        have hc1 := zc (Aside0.mk HV.out.cell) 0
        go_wp2_with fail
        refine (addrset_Normal.calls k Av cv _ r _ (Kd.R_reads' HV.out.row).2.2 (Kd.R_reads' HV.out.row).2.1 HF.out).mono ?_
        rintro e w9 ⟨vr, rfl, ho, hb⟩
        have HO := Aside0.mk (Kd.R_lower ho HV.out.bel.size)
        have HB := Aside0.mk (HV.out.bel.trans (hb.mono HV.out.bel.size))
        clear ho hb
        go_wp2_with fail
        go_ret
        exact ⟨_, rfl, HO.out, HB.out⟩
  · rw [if_neg hlim] at h
    cases h
end Go.Proofs.Ytcgfpffgiimgmaa.Q
end

section
namespace Go.Proofs.Ytcgfpffgiimgmaa.Q
open Go.RowKit Go.Proofs.YtcgfpffgiimgmaaW.PrintWords Go.Proofs.YtcgfpffgiimgmaaW.PrintLast Go.Proofs.YtcgfpffgiimgmaaW.PrintMore
attribute [local go_sem] max2_int min2_int max_two min_two max_three min_three max_four min_four
set_option linter.unusedVariables false
set_option linter.unusedSimpArgs false
mutual
def intrusionlaw07_AddrsetAlgebra.j0 : Nat → List (S66) → List (S66) → List (S66) → List (S66) → List (S66) → Bool → Bool → Int → Int → Option (Bool)
  | 0, _, _, _, _, _, _, _, _, _ => none
  | k + 1, x0, x1, x7, x8, x9, x38, x980000, x980001, x980002 => if x38 = true then (some false) else ((addrset_Contains.f x0 x980000 x980001 x980002).bind fun t994 => ((addrset_Contains.f x1 x980000 x980001 x980002).bind fun t995 => ((addrset_Contains.f x7 x980000 x980001 x980002).bind fun t996 => (if t994 = true then (if (t996 != true) = true then (intrusionlaw07_AddrsetAlgebra.j1 k x0 x1 x7 x8 x9 true) else ((addrset_Contains.f x8 x980000 x980001 x980002).bind fun t997 => (if (t997 != t995) = true then (intrusionlaw07_AddrsetAlgebra.j1 k x0 x1 x7 x8 x9 true) else ((addrset_Contains.f x9 x980000 x980001 x980002).bind fun t998 => (intrusionlaw07_AddrsetAlgebra.j1 k x0 x1 x7 x8 x9 (t998 != (!t995))))))) else (if (t996 != t995) = true then (intrusionlaw07_AddrsetAlgebra.j1 k x0 x1 x7 x8 x9 true) else ((addrset_Contains.f x8 x980000 x980001 x980002).bind fun t999 => (if (t999 != false) = true then (intrusionlaw07_AddrsetAlgebra.j1 k x0 x1 x7 x8 x9 true) else ((addrset_Contains.f x9 x980000 x980001 x980002).bind fun t1000 => (intrusionlaw07_AddrsetAlgebra.j1 k x0 x1 x7 x8 x9 (t1000 != false))))))))))
def intrusionlaw07_AddrsetAlgebra.j1 : Nat → List (S66) → List (S66) → List (S66) → List (S66) → List (S66) → Bool → Option (Bool)
  | 0, _, _, _, _, _, _ => none
  | k + 1, x0, x1, x7, x8, x9, x73 => if x73 = true then (some false) else ((addrset_Minus.f k x0 x9).bind fun t1001 => ((intrusionref07_Same.f k t1001 x8).bind fun t1004 => (if t1004 = true then ((addrset_Union.f k x9 x8).bind fun t1005 => ((addrset_Normal.f k x0).bind fun t1008 => ((intrusionref07_Same.f k t1005 t1008).bind fun t1011 => (if t1011 = true then ((addrset_Subset.f k x8 x0).bind fun t1012 => (if t1012 = true then ((addrset_Subset.f k x0 x7).bind fun t1013 => (if t1013 = true then ((addrset_Subset.f k x0 x1).bind fun t1014 => (if (t1014 == ((x9.length : Int) == 0)) = true then ((intrusionlaw07_awake.f k).bind fun t1015 => (some t1015)) else (some false))) else (some false))) else (some false))) else (some false))))) else (some false))))
end
def intrusionlaw07_AddrsetAlgebra.f (k : Nat) (l0 : List (S66)) (l1 : List (S66)) (a2_0 : Bool) (a2_1 : Int) (a2_2 : Int) : Option (Bool) := (intrusionlaw07_few.f l0 l1).bind fun t980 => (if t980 = true then ((addrset_Union.f k l0 l1).bind fun t982 => ((addrset_Intersect.f k l0 l1).bind fun t985 => ((addrset_Minus.f k l0 l1).bind fun t988 => ((addrset_Valid.f k t982).bind fun t991 => (if t991 = true then ((addrset_Valid.f k t985).bind fun t992 => (if t992 = true then ((addrset_Valid.f k t988).bind fun t993 => (intrusionlaw07_AddrsetAlgebra.j0 k l0 l1 t982 t985 t988 (!t993) a2_0 a2_1 a2_2)) else (intrusionlaw07_AddrsetAlgebra.j0 k l0 l1 t982 t985 t988 true a2_0 a2_1 a2_2))) else (intrusionlaw07_AddrsetAlgebra.j0 k l0 l1 t982 t985 t988 true a2_0 a2_1 a2_2)))))) else ((intrusionlaw07_awake.f k).bind fun t981 => (some t981)))
theorem intrusionlaw07_AddrsetAlgebra.mono_l : ∀ k, (∀ y0 y1 y2 y3 y4 y5 y6 y7 y8, LeO (intrusionlaw07_AddrsetAlgebra.j0 k y0 y1 y2 y3 y4 y5 y6 y7 y8) (intrusionlaw07_AddrsetAlgebra.j0 (k + 1) y0 y1 y2 y3 y4 y5 y6 y7 y8)) ∧ (∀ y0 y1 y2 y3 y4 y5, LeO (intrusionlaw07_AddrsetAlgebra.j1 k y0 y1 y2 y3 y4 y5) (intrusionlaw07_AddrsetAlgebra.j1 (k + 1) y0 y1 y2 y3 y4 y5))
  | 0 => ⟨fun _ _ _ _ _ _ _ _ _ r h => by simp [intrusionlaw07_AddrsetAlgebra.j0] at h, fun _ _ _ _ _ _ r h => by simp [intrusionlaw07_AddrsetAlgebra.j1] at h⟩
  | k + 1 => by
    obtain ⟨ih0, ih1⟩ := intrusionlaw07_AddrsetAlgebra.mono_l k
    refine ⟨?_, ?_⟩
    · intro y0 y1 y2 y3 y4 y5 y6 y7 y8
      unfold intrusionlaw07_AddrsetAlgebra.j0
      repeat' first
      | (with_reducible exact ih0 _ _ _ _ _ _ _ _ _)
      | (with_reducible exact ih1 _ _ _ _ _ _)
      | (with_reducible exact addrset_Intersect.mono _ _ _)
      | (with_reducible exact addrset_Minus.mono _ _ _)
      | (with_reducible exact addrset_Normal.mono _ _)
      | (with_reducible exact addrset_Subset.mono _ _ _)
      | (with_reducible exact addrset_Union.mono _ _ _)
      | (with_reducible exact addrset_Valid.mono _ _)
      | (with_reducible exact intrusionlaw07_awake.mono _)
      | (with_reducible exact intrusionref07_Same.mono _ _ _)
      | (with_reducible exact LeO.refl _)
      | (with_reducible exact LeO.none _)
      | (with_reducible refine LeO.ite ?_ ?_)
      | (with_reducible refine LeO.bind ?_ (fun _ => ?_))
      | exact ih0 _ _ _ _ _ _ _ _ _
      | exact ih1 _ _ _ _ _ _
      | exact addrset_Intersect.mono _ _ _
      | exact addrset_Minus.mono _ _ _
      | exact addrset_Normal.mono _ _
      | exact addrset_Subset.mono _ _ _
      | exact addrset_Union.mono _ _ _
      | exact addrset_Valid.mono _ _
      | exact intrusionlaw07_awake.mono _
      | exact intrusionref07_Same.mono _ _ _
      | exact LeO.none _
      | refine LeO.ite ?_ ?_
      | refine LeO.bind ?_ (fun _ => ?_)
    · intro y0 y1 y2 y3 y4 y5
      unfold intrusionlaw07_AddrsetAlgebra.j1
      repeat' first
      | (with_reducible exact ih0 _ _ _ _ _ _ _ _ _)
      | (with_reducible exact ih1 _ _ _ _ _ _)
      | (with_reducible exact addrset_Intersect.mono _ _ _)
      | (with_reducible exact addrset_Minus.mono _ _ _)
      | (with_reducible exact addrset_Normal.mono _ _)
      | (with_reducible exact addrset_Subset.mono _ _ _)
      | (with_reducible exact addrset_Union.mono _ _ _)
      | (with_reducible exact addrset_Valid.mono _ _)
      | (with_reducible exact intrusionlaw07_awake.mono _)
      | (with_reducible exact intrusionref07_Same.mono _ _ _)
      | (with_reducible exact LeO.refl _)
      | (with_reducible exact LeO.none _)
      | (with_reducible refine LeO.ite ?_ ?_)
      | (with_reducible refine LeO.bind ?_ (fun _ => ?_))
      | exact ih0 _ _ _ _ _ _ _ _ _
      | exact ih1 _ _ _ _ _ _
      | exact addrset_Intersect.mono _ _ _
      | exact addrset_Minus.mono _ _ _
      | exact addrset_Normal.mono _ _
      | exact addrset_Subset.mono _ _ _
      | exact addrset_Union.mono _ _ _
      | exact addrset_Valid.mono _ _
      | exact intrusionlaw07_awake.mono _
      | exact intrusionref07_Same.mono _ _ _
      | exact LeO.none _
      | refine LeO.ite ?_ ?_
      | refine LeO.bind ?_ (fun _ => ?_)
theorem intrusionlaw07_AddrsetAlgebra.mono : ∀ a0 a1 a2 a3 a4 k, LeO (intrusionlaw07_AddrsetAlgebra.f k a0 a1 a2 a3 a4) (intrusionlaw07_AddrsetAlgebra.f (k + 1) a0 a1 a2 a3 a4) := by
  intro a0 a1 a2 a3 a4 k
  obtain ⟨ih0, ih1⟩ := intrusionlaw07_AddrsetAlgebra.mono_l k
  unfold intrusionlaw07_AddrsetAlgebra.f
  repeat' first
      | (with_reducible exact ih0 _ _ _ _ _ _ _ _ _)
      | (with_reducible exact ih1 _ _ _ _ _ _)
      | (with_reducible exact addrset_Intersect.mono _ _ _)
      | (with_reducible exact addrset_Minus.mono _ _ _)
      | (with_reducible exact addrset_Normal.mono _ _)
      | (with_reducible exact addrset_Subset.mono _ _ _)
      | (with_reducible exact addrset_Union.mono _ _ _)
      | (with_reducible exact addrset_Valid.mono _ _)
      | (with_reducible exact intrusionlaw07_awake.mono _)
      | (with_reducible exact intrusionref07_Same.mono _ _ _)
      | (with_reducible exact LeO.refl _)
      | (with_reducible exact LeO.none _)
      | (with_reducible refine LeO.ite ?_ ?_)
      | (with_reducible refine LeO.bind ?_ (fun _ => ?_))
      | exact ih0 _ _ _ _ _ _ _ _ _
      | exact ih1 _ _ _ _ _ _
      | exact addrset_Intersect.mono _ _ _
      | exact addrset_Minus.mono _ _ _
      | exact addrset_Normal.mono _ _
      | exact addrset_Subset.mono _ _ _
      | exact addrset_Union.mono _ _ _
      | exact addrset_Valid.mono _ _
      | exact intrusionlaw07_awake.mono _
      | exact intrusionref07_Same.mono _ _ _
      | exact LeO.none _
      | refine LeO.ite ?_ ?_
      | refine LeO.bind ?_ (fun _ => ?_)
def intrusionlaw07_AddrsetAlgebra.T6 : Bool × List (List Nat × List Nat) := (true, [([], []), ([], []), ([0, 1], [0, 1]), ([], []), ([], []), ([3, 4, 2], [3, 4]), ([2, 5, 0, 1, 2], [2]), ([5, 6, 0, 1, 2, 3, 4, 5, 6], [5])])
def intrusionlaw07_AddrsetAlgebra.B6 : List Nat := [0, 0, 3, 0, 0, 31, 63, 127]
theorem intrusionlaw07_AddrsetAlgebra.tab6 : rtab .any (opsOf Try.f13 6) = intrusionlaw07_AddrsetAlgebra.T6 := by kernel_rfl
theorem intrusionlaw07_AddrsetAlgebra.bits6 : waitsOk intrusionlaw07_AddrsetAlgebra.T6.2 intrusionlaw07_AddrsetAlgebra.B6 = true := by kernel_rfl
set_option maxHeartbeats 8000000 in
set_option maxRecDepth 100000 in
theorem intrusionlaw07_AddrsetAlgebra.calls (k : Nat) (A0 : Option Addr) (c0 : Nat) (l0 : List (S66)) (A1 : Option Addr) (c1 : Nat) (l1 : List (S66)) (a2_0 : Bool) (a2_1 : Int) (a2_2 : Int) (r : Bool) (w : World) (hr0 : Kd.C k66 w A0 l0.length l0) (hc0 : l0.length ≤ c0) (hr1 : Kd.C k66 w A1 l1.length l1) (hc1 : l1.length ≤ c1) (h : intrusionlaw07_AddrsetAlgebra.f k l0 l1 a2_0 a2_1 a2_2 = some r) :
 Calls Try.prog 13 #[.slice A0 l0.length c0, .slice A1 l1.length c1, .agg #[.bool a2_0, .int .u64 a2_1, .int .u64 a2_2]] w fun e w' => e = .returned (.bool r) ∧ Below w.heap.size w w' := by
 have hu36 := Try.underlying36
 have HR0 := Aside0.mk hr0
 have HC0 := Aside0.mk hc0
 clear hr0 hc0
 have HR1 := Aside0.mk hr1
 have HC1 := Aside0.mk hc1
 clear hr1 hc1
 have HB := Aside0.mk (Below.refl w.heap.size w)
 have H : ((intrusionlaw07_few.f l0 l1).bind fun t980 => (if t980 = true then ((addrset_Union.f k l0 l1).bind fun t982 => ((addrset_Intersect.f k l0 l1).bind fun t985 => ((addrset_Minus.f k l0 l1).bind fun t988 => ((addrset_Valid.f k t982).bind fun t991 => (if t991 = true then ((addrset_Valid.f k t985).bind fun t992 => (if t992 = true then ((addrset_Valid.f k t988).bind fun t993 => (intrusionlaw07_AddrsetAlgebra.j0 k l0 l1 t982 t985 t988 (!t993) a2_0 a2_1 a2_2)) else (intrusionlaw07_AddrsetAlgebra.j0 k l0 l1 t982 t985 t988 true a2_0 a2_1 a2_2))) else (intrusionlaw07_AddrsetAlgebra.j0 k l0 l1 t982 t985 t988 true a2_0 a2_1 a2_2)))))) else ((intrusionlaw07_awake.f k).bind fun t981 => (some t981)))) = some r := h
 clear h
 replace H := Option.bind_eq_some_iff.mp H
 obtain ⟨t980, A40, H⟩ := H
 try dsimp only at H
 have A4 := Aside0.mk A40
 clear A40
 by_cases c5 : t980 = true
 · subst c5
   rw [if_pos rfl] at H
   replace H := Option.bind_eq_some_iff.mp H
   obtain ⟨t982, A60, H⟩ := H
   try dsimp only at H
   have A6 := Aside0.mk A60
   clear A60
   replace H := Option.bind_eq_some_iff.mp H
   obtain ⟨t985, A70, H⟩ := H
   try dsimp only at H
   have A7 := Aside0.mk A70
   clear A70
   replace H := Option.bind_eq_some_iff.mp H
   obtain ⟨t988, A80, H⟩ := H
   try dsimp only at H
   have A8 := Aside0.mk A80
   clear A80
   have HC9 := Aside0.mk H
   clear H
   go_enter Try.func13, Try.ntmps13
   go_upto_region 4 with (first | ((with_reducible refine gate_dst (N := 5) rfl ?_); (try (refine gate_guard (by rfl) ?_; dsimp only)); refine zx 5 #[.bool a2_0, .int .u64 a2_1, .int .u64 a2_2] 36 ?_; intro gb979 hg w10 hbox hb; have BK979 := Aside0.mk (hbox); have GW979 := Aside0.mk ((by rw [hg]; exact (below_size (zB HB)) : w.heap.size ≤ gb979)); have GE979 := Aside0.mk ((by rw [hg]; exact (below_size (zB HB)) : w.heap.size ≤ gb979)); replace HB := Aside0.mk (below_step (zB HB) hb); clear hb hbox hg) | ((with_reducible refine gate_callee (f := 35) rfl ?_); refine goesL_ (some 14) rfl rfl Try.func35 (by kernel_rfl) rfl #[.slice A0 l0.length c0, .slice A1 l1.length c1] rfl (by (try simp only [List.map_toArray, List.map_cons, List.map_nil]); first | done | rfl | (simp only [List.length_drop, List.length_take]; rfl)) ?_; (with_reducible refine (intrusionlaw07_few.calls _ _ l0 _ _ l1 true _ ?side1 ?side2 ?side3 ?side4 A4.out).mono ?_); (case side1 => repeat (first | exact (Kd.C_below HR0.out HB.out) | (with_reducible refine Kd.C_alloc ?_ _) | (with_reducible refine Kd.C_drewN ?_ _) | (with_reducible refine Kd.C_drew ?_))); (case side2 => exact HC0.out); (case side3 => repeat (first | exact (Kd.C_below HR1.out HB.out) | (with_reducible refine Kd.C_alloc ?_ _) | (with_reducible refine Kd.C_drewN ?_ _) | (with_reducible refine Kd.C_drew ?_))); (case side4 => exact HC1.out); rintro e w' ⟨rfl, ⟨nd, rfl⟩⟩; refine ⟨_, rfl, ?_⟩) | ((with_reducible refine gate_callee (f := 52) rfl ?_); refine goesL_ (some 19) rfl rfl Try.func52 (by kernel_rfl) rfl #[.slice A0 l0.length c0, .slice A1 l1.length c1] rfl (by (try simp only [List.map_toArray, List.map_cons, List.map_nil]); first | done | rfl | (simp only [List.length_drop, List.length_take]; rfl)) ?_; (with_reducible refine (addrset_Union.calls k (fun k_ => k_ < w.heap.size) _ _ l0 (fun k_ => k_ < w.heap.size) _ _ l1 t982 _ ?side1 ?side2 A6.out).mono ?_); (case side1 => exact Kd.V_mk HC0.out (Kd.F_below (Kd.C_F k66_heap HR0.out) (zB HB))); (case side2 => exact Kd.V_mk HC1.out (Kd.F_below (Kd.C_F k66_heap HR1.out) (zB HB))); rintro e w11 ⟨v983, rfl, ho0, hb⟩; refine ⟨_, rfl, ?_⟩; have HO984 := Aside0.mk (Kd.R_lower (Kd.R_mono (ok' := fun k_ => True) ho0 (fun _ hk_ => trivial)) (below_size (zB HB))); replace BK979 := Aside0.mk (blk_below (g := gb979) (o := .cells #[.bool a2_0, .int .u64 a2_1, .int .u64 a2_2] 36 (0, 0)) (zK BK979) hb); replace HB := Aside0.mk (below_step (zB HB) hb); (try clear hb); (try clear ho0)) | ((with_reducible refine gate_callee (f := 54) rfl ?_); refine goesL_ (some 22) rfl rfl Try.func54 (by kernel_rfl) rfl #[.slice A0 l0.length c0, .slice A1 l1.length c1] rfl (by (try simp only [List.map_toArray, List.map_cons, List.map_nil]); first | done | rfl | (simp only [List.length_drop, List.length_take]; rfl)) ?_; (with_reducible refine (addrset_Intersect.calls k _ _ l0 _ _ l1 t985 _ ?side1 ?side2 ?side3 ?side4 A7.out).mono ?_); (case side1 => repeat (first | exact (Kd.C_below HR0.out HB.out) | (with_reducible refine Kd.C_alloc ?_ _) | (with_reducible refine Kd.C_drewN ?_ _) | (with_reducible refine Kd.C_drew ?_))); (case side2 => exact HC0.out); (case side3 => repeat (first | exact (Kd.C_below HR1.out HB.out) | (with_reducible refine Kd.C_alloc ?_ _) | (with_reducible refine Kd.C_drewN ?_ _) | (with_reducible refine Kd.C_drew ?_))); (case side4 => exact HC1.out); rintro e w12 ⟨v986, rfl, ho0, hb⟩; refine ⟨_, rfl, ?_⟩; have HO987 := Aside0.mk (Kd.R_lower (Kd.R_new' ho0 (Kd.R_lt (zR HO984))) (below_size (zB HB))); replace HO984 := Aside0.mk (Kd.R_elder' (zR HO984) (Kd.R_base ho0) hb); replace BK979 := Aside0.mk (blk_below (g := gb979) (o := .cells #[.bool a2_0, .int .u64 a2_1, .int .u64 a2_2] 36 (0, 0)) (zK BK979) hb); replace HB := Aside0.mk (below_step (zB HB) hb); (try clear hb); (try clear ho0)) | ((with_reducible refine gate_callee (f := 56) rfl ?_); refine goesL_ (some 25) rfl rfl Try.func56 (by kernel_rfl) rfl #[.slice A0 l0.length c0, .slice A1 l1.length c1] rfl (by (try simp only [List.map_toArray, List.map_cons, List.map_nil]); first | done | rfl | (simp only [List.length_drop, List.length_take]; rfl)) ?_; (with_reducible refine (addrset_Minus.calls k _ _ l0 _ _ l1 t988 _ ?side1 ?side2 ?side3 ?side4 A8.out).mono ?_); (case side1 => repeat (first | exact (Kd.C_below HR0.out HB.out) | (with_reducible refine Kd.C_alloc ?_ _) | (with_reducible refine Kd.C_drewN ?_ _) | (with_reducible refine Kd.C_drew ?_))); (case side2 => exact HC0.out); (case side3 => repeat (first | exact (Kd.C_below HR1.out HB.out) | (with_reducible refine Kd.C_alloc ?_ _) | (with_reducible refine Kd.C_drewN ?_ _) | (with_reducible refine Kd.C_drew ?_))); (case side4 => exact HC1.out); rintro e w13 ⟨v989, rfl, ho0, hb⟩; refine ⟨_, rfl, ?_⟩; have HO990 := Aside0.mk (Kd.R_lower (Kd.R_new' (Kd.R_new' ho0 (Kd.R_lt (zR HO984))) (Kd.R_lt (zR HO987))) (below_size (zB HB))); replace HO984 := Aside0.mk (Kd.R_elder' (zR HO984) (Kd.R_base ho0) hb); replace HO987 := Aside0.mk (Kd.R_elder' (zR HO987) (Kd.R_base ho0) hb); replace BK979 := Aside0.mk (blk_below (g := gb979) (o := .cells #[.bool a2_0, .int .u64 a2_1, .int .u64 a2_2] 36 (0, 0)) (zK BK979) hb); replace HB := Aside0.mk (below_step (zB HB) hb); (try clear hb); (try clear ho0)))
   (try simp only [Act.put, List.setIfInBounds_toArray, List.set_cons_zero, List.set_cons_succ])
   go_cut [38] (fun v38 wc => ∃ (kq : Nat) (x38_8 : Bool), v38 = .bool x38_8 ∧ Aside0 (intrusionlaw07_AddrsetAlgebra.j0 kq l0 l1 t982 t985 t988 x38_8 a2_0 a2_1 a2_2 = some r) ∧ Aside0 (kq ≤ k) ∧ Aside0 (Kd.R k66 66 wc w.heap.size (fun k_ => some k_ ≠ (v986 : Value).ownBlock ∧ some k_ ≠ (v989 : Value).ownBlock) v983 t982) ∧ Aside0 (Kd.R k66 66 wc w.heap.size (fun k_ => some k_ ≠ (v983 : Value).ownBlock ∧ some k_ ≠ (v989 : Value).ownBlock) v986 t985) ∧ Aside0 (Kd.R k66 66 wc w.heap.size (fun k_ => some k_ ≠ (v983 : Value).ownBlock ∧ some k_ ≠ (v986 : Value).ownBlock) v989 t988) ∧ Aside0 (wc.heap[gb979]? = some (.cells #[.bool a2_0, .int .u64 a2_1, .int .u64 a2_2] 36 (0, 0))) ∧ Aside0 (Below w.heap.size w wc))
   case first =>
    have H := HC9.out
    clear HC9
    replace H := Option.bind_eq_some_iff.mp H
    obtain ⟨t991, A140, H⟩ := H
    try dsimp only at H
    have A14 := Aside0.mk A140
    clear A140
    by_cases c15 : t991 = true
    · subst c15
      rw [if_pos rfl] at H
      replace H := Option.bind_eq_some_iff.mp H
      obtain ⟨t992, A160, H⟩ := H
      try dsimp only at H
      have A16 := Aside0.mk A160
      clear A160
      by_cases c17 : t992 = true
      · subst c17
        rw [if_pos rfl] at H
        replace H := Option.bind_eq_some_iff.mp H
        obtain ⟨t993, A180, H⟩ := H
        try dsimp only at H
        have A18 := Aside0.mk A180
        clear A180
        have H' := Aside0.mk H
        clear H
        obtain ⟨Ao19, co19, eo19⟩ := Kd.R_slice HO984.out
        subst eo19
        go_wp2_with (first | ((with_reducible refine gate_callee (f := 40) rfl ?_); refine goesL_ (some 27) rfl rfl Try.func40 (by kernel_rfl) rfl #[.slice Ao19 t982.length co19] rfl (by (try simp only [List.map_toArray, List.map_cons, List.map_nil]); first | done | rfl | (simp only [List.length_drop, List.length_take]; rfl)) ?_; (with_reducible refine (addrset_Valid.calls k _ _ t982 true _ ?side1 ?side2 A14.out).mono ?_); (case side1 => repeat (first | exact (Kd.R_reads' HO984.out).2.2 | (with_reducible refine Kd.C_alloc ?_ _) | (with_reducible refine Kd.C_drewN ?_ _) | (with_reducible refine Kd.C_drew ?_))); (case side2 => exact (Kd.R_reads' HO984.out).2.1); rintro e w20 ⟨rfl, hb⟩; refine ⟨_, rfl, ?_⟩; replace HO984 := Aside0.mk (Kd.R_below (zR HO984) hb); replace HO987 := Aside0.mk (Kd.R_below (zR HO987) hb); replace HO990 := Aside0.mk (Kd.R_below (zR HO990) hb); replace BK979 := Aside0.mk (blk_below (g := gb979) (o := .cells #[.bool a2_0, .int .u64 a2_1, .int .u64 a2_2] 36 (0, 0)) (zK BK979) hb); replace HB := Aside0.mk (below_step (zB HB) hb); (try clear hb); obtain ⟨Ao21, co21, eo21⟩ := Kd.R_slice HO987.out; subst eo21) | (go_at_call 40; (with_reducible refine (addrset_Valid.calls k _ _ t985 true _ ?side1 ?side2 A16.out).mono ?_); (case side1 => repeat (first | exact (Kd.R_reads' HO987.out).2.2 | (with_reducible refine Kd.C_alloc ?_ _) | (with_reducible refine Kd.C_drewN ?_ _) | (with_reducible refine Kd.C_drew ?_))); (case side2 => exact (Kd.R_reads' HO987.out).2.1); rintro e w22 ⟨rfl, hb⟩; replace HO984 := Aside0.mk (Kd.R_below (zR HO984) hb); replace HO987 := Aside0.mk (Kd.R_below (zR HO987) hb); replace HO990 := Aside0.mk (Kd.R_below (zR HO990) hb); replace BK979 := Aside0.mk (blk_below (g := gb979) (o := .cells #[.bool a2_0, .int .u64 a2_1, .int .u64 a2_2] 36 (0, 0)) (zK BK979) hb); replace HB := Aside0.mk (below_step (zB HB) hb); (try clear hb); obtain ⟨Ao23, co23, eo23⟩ := Kd.R_slice HO990.out; subst eo23) | (go_at_call 40; (with_reducible refine (addrset_Valid.calls k _ _ t988 t993 _ ?side1 ?side2 A18.out).mono ?_); (case side1 => repeat (first | exact (Kd.R_reads' HO990.out).2.2 | (with_reducible refine Kd.C_alloc ?_ _) | (with_reducible refine Kd.C_drewN ?_ _) | (with_reducible refine Kd.C_drew ?_))); (case side2 => exact (Kd.R_reads' HO990.out).2.1); rintro e w24 ⟨rfl, hb⟩; replace HO984 := Aside0.mk (Kd.R_below (zR HO984) hb); replace HO987 := Aside0.mk (Kd.R_below (zR HO987) hb); replace HO990 := Aside0.mk (Kd.R_below (zR HO990) hb); replace BK979 := Aside0.mk (blk_below (g := gb979) (o := .cells #[.bool a2_0, .int .u64 a2_1, .int .u64 a2_2] 36 (0, 0)) (zK BK979) hb); replace HB := Aside0.mk (below_step (zB HB) hb); (try clear hb)))
        go_meet
        case rel => exact ⟨_, (!t993), (by first | rfl | (simp; done) | (simp [*]; done)), H', ⟨by first | omega | exact Nat.le_refl _⟩, ⟨by (with_reducible repeat (first | apply Kd.R_alloc | apply Kd.R_drewN | apply Kd.R_drew)); exact Kd.R_mono HO984.out (fun _ hk => ⟨hk.1.2, hk.2⟩)⟩, ⟨by (with_reducible repeat (first | apply Kd.R_alloc | apply Kd.R_drewN | apply Kd.R_drew)); exact Kd.R_mono HO987.out (fun _ hk => ⟨hk.1.2, hk.2⟩)⟩, ⟨by (with_reducible repeat (first | apply Kd.R_alloc | apply Kd.R_drewN | apply Kd.R_drew)); exact Kd.R_mono HO990.out (fun _ hk => ⟨hk.1.2, hk.2⟩)⟩, ⟨zK BK979⟩, ⟨zB HB⟩⟩
      · replace c17 := Bool.eq_false_iff.mpr c17
        subst c17
        rw [if_neg zF] at H
        have H' := Aside0.mk H
        clear H
        obtain ⟨Ao25, co25, eo25⟩ := Kd.R_slice HO984.out
        subst eo25
        go_wp2_with (first | ((with_reducible refine gate_callee (f := 40) rfl ?_); refine goesL_ (some 27) rfl rfl Try.func40 (by kernel_rfl) rfl #[.slice Ao25 t982.length co25] rfl (by (try simp only [List.map_toArray, List.map_cons, List.map_nil]); first | done | rfl | (simp only [List.length_drop, List.length_take]; rfl)) ?_; (with_reducible refine (addrset_Valid.calls k _ _ t982 true _ ?side1 ?side2 A14.out).mono ?_); (case side1 => repeat (first | exact (Kd.R_reads' HO984.out).2.2 | (with_reducible refine Kd.C_alloc ?_ _) | (with_reducible refine Kd.C_drewN ?_ _) | (with_reducible refine Kd.C_drew ?_))); (case side2 => exact (Kd.R_reads' HO984.out).2.1); rintro e w26 ⟨rfl, hb⟩; refine ⟨_, rfl, ?_⟩; replace HO984 := Aside0.mk (Kd.R_below (zR HO984) hb); replace HO987 := Aside0.mk (Kd.R_below (zR HO987) hb); replace HO990 := Aside0.mk (Kd.R_below (zR HO990) hb); replace BK979 := Aside0.mk (blk_below (g := gb979) (o := .cells #[.bool a2_0, .int .u64 a2_1, .int .u64 a2_2] 36 (0, 0)) (zK BK979) hb); replace HB := Aside0.mk (below_step (zB HB) hb); (try clear hb); obtain ⟨Ao27, co27, eo27⟩ := Kd.R_slice HO987.out; subst eo27) | (go_at_call 40; (with_reducible refine (addrset_Valid.calls k _ _ t985 false _ ?side1 ?side2 A16.out).mono ?_); (case side1 => repeat (first | exact (Kd.R_reads' HO987.out).2.2 | (with_reducible refine Kd.C_alloc ?_ _) | (with_reducible refine Kd.C_drewN ?_ _) | (with_reducible refine Kd.C_drew ?_))); (case side2 => exact (Kd.R_reads' HO987.out).2.1); rintro e w28 ⟨rfl, hb⟩; replace HO984 := Aside0.mk (Kd.R_below (zR HO984) hb); replace HO987 := Aside0.mk (Kd.R_below (zR HO987) hb); replace HO990 := Aside0.mk (Kd.R_below (zR HO990) hb); replace BK979 := Aside0.mk (blk_below (g := gb979) (o := .cells #[.bool a2_0, .int .u64 a2_1, .int .u64 a2_2] 36 (0, 0)) (zK BK979) hb); replace HB := Aside0.mk (below_step (zB HB) hb); (try clear hb)))
        go_meet
        case rel => exact ⟨_, (true), (by first | rfl | (simp; done) | (simp [*]; done)), H', ⟨by first | omega | exact Nat.le_refl _⟩, ⟨by (with_reducible repeat (first | apply Kd.R_alloc | apply Kd.R_drewN | apply Kd.R_drew)); exact Kd.R_mono HO984.out (fun _ hk => ⟨hk.1.2, hk.2⟩)⟩, ⟨by (with_reducible repeat (first | apply Kd.R_alloc | apply Kd.R_drewN | apply Kd.R_drew)); exact Kd.R_mono HO987.out (fun _ hk => ⟨hk.1.2, hk.2⟩)⟩, ⟨by (with_reducible repeat (first | apply Kd.R_alloc | apply Kd.R_drewN | apply Kd.R_drew)); exact Kd.R_mono HO990.out (fun _ hk => ⟨hk.1.2, hk.2⟩)⟩, ⟨zK BK979⟩, ⟨zB HB⟩⟩
    · replace c15 := Bool.eq_false_iff.mpr c15
      subst c15
      rw [if_neg zF] at H
      have H' := Aside0.mk H
      clear H
      obtain ⟨Ao29, co29, eo29⟩ := Kd.R_slice HO984.out
      subst eo29
      go_wp2_with (first | ((with_reducible refine gate_callee (f := 40) rfl ?_); refine goesL_ (some 27) rfl rfl Try.func40 (by kernel_rfl) rfl #[.slice Ao29 t982.length co29] rfl (by (try simp only [List.map_toArray, List.map_cons, List.map_nil]); first | done | rfl | (simp only [List.length_drop, List.length_take]; rfl)) ?_; (with_reducible refine (addrset_Valid.calls k _ _ t982 false _ ?side1 ?side2 A14.out).mono ?_); (case side1 => repeat (first | exact (Kd.R_reads' HO984.out).2.2 | (with_reducible refine Kd.C_alloc ?_ _) | (with_reducible refine Kd.C_drewN ?_ _) | (with_reducible refine Kd.C_drew ?_))); (case side2 => exact (Kd.R_reads' HO984.out).2.1); rintro e w30 ⟨rfl, hb⟩; refine ⟨_, rfl, ?_⟩; replace HO984 := Aside0.mk (Kd.R_below (zR HO984) hb); replace HO987 := Aside0.mk (Kd.R_below (zR HO987) hb); replace HO990 := Aside0.mk (Kd.R_below (zR HO990) hb); replace BK979 := Aside0.mk (blk_below (g := gb979) (o := .cells #[.bool a2_0, .int .u64 a2_1, .int .u64 a2_2] 36 (0, 0)) (zK BK979) hb); replace HB := Aside0.mk (below_step (zB HB) hb); (try clear hb)))
      go_meet
      case rel => exact ⟨_, (true), (by first | rfl | (simp; done) | (simp [*]; done)), H', ⟨by first | omega | exact Nat.le_refl _⟩, ⟨by (with_reducible repeat (first | apply Kd.R_alloc | apply Kd.R_drewN | apply Kd.R_drew)); exact Kd.R_mono HO984.out (fun _ hk => ⟨hk.1.2, hk.2⟩)⟩, ⟨by (with_reducible repeat (first | apply Kd.R_alloc | apply Kd.R_drewN | apply Kd.R_drew)); exact Kd.R_mono HO987.out (fun _ hk => ⟨hk.1.2, hk.2⟩)⟩, ⟨by (with_reducible repeat (first | apply Kd.R_alloc | apply Kd.R_drewN | apply Kd.R_drew)); exact Kd.R_mono HO990.out (fun _ hk => ⟨hk.1.2, hk.2⟩)⟩, ⟨zK BK979⟩, ⟨zB HB⟩⟩
   case rest =>
    clear HC9
    try clear c1
    try clear p2
    try clear c3
    try clear c4
    try clear c5
    try clear c13
    try clear c15
    try clear c17
    obtain ⟨kq, x38_8, rfl, HA, HJ8, HO_7, HO_8, HO_9, BK979, HB⟩ := hcut
    cases kq with
    | zero => exact absurd HA.out (by simp [intrusionlaw07_AddrsetAlgebra.j0])
    | succ kj8 =>
     have H := HA.out
     clear HA
     simp only [intrusionlaw07_AddrsetAlgebra.j0] at H
     by_cases c31 : x38_8 = true
     · subst c31
       rw [if_pos rfl] at H
       obtain rfl := Option.some.inj H
       go_wp2
       go_ret
       exact ⟨by first | rfl | (simp [errW_none, errW_some] <;> rfl) | (simp [*, errW_none, errW_some] <;> rfl), by repeat (first | (with_reducible first | exact HB.out | apply below_alloc | apply pw_below_drewN | apply below_drew1 | refine below_set ?_ GE979.out) | exact HB.out)⟩
     · replace c31 := Bool.eq_false_iff.mpr c31
       subst c31
       rw [if_neg zF] at H
       replace H := Option.bind_eq_some_iff.mp H
       obtain ⟨t994, A320, H⟩ := H
       try dsimp only at H
       have A32 := Aside0.mk A320
       clear A320
       replace H := Option.bind_eq_some_iff.mp H
       obtain ⟨t995, A330, H⟩ := H
       try dsimp only at H
       have A33 := Aside0.mk A330
       clear A330
       have HC34 := Aside0.mk H
       clear H
       try go_wp2
       replace HO_7 := Aside0.mk (Kd.R_drew HO_7.out)
       replace HO_8 := Aside0.mk (Kd.R_drew HO_8.out)
       replace HO_9 := Aside0.mk (Kd.R_drew HO_9.out)
       replace BK979 := Aside0.mk (blk_drew BK979.out)
       replace HB := Aside0.mk (below_drew1 HB.out)
       refine start_ (n := 8) (S := fun w' => w'.cell? ⟨gb979, 0, none⟩ = some (.bool a2_0) ∧ w'.cell? ⟨gb979, 1, none⟩ = some (.int .u64 a2_1) ∧ w'.cell? ⟨gb979, 2, none⟩ = some (.int .u64 a2_2)) (ds := []) #[false, false, false, false, false, false, false, false] (by kernel_rfl) rfl rfl ⟨zc BK979 0, zc BK979 1, zc BK979 2⟩ (fun hHeld => ?_); refine with_tabW intrusionlaw07_AddrsetAlgebra.tab6 intrusionlaw07_AddrsetAlgebra.bits6 (fun HT_ HW_ => ?_)
       generalize wc.drew = w35 at HO_7 HO_8 HO_9 BK979 HB hHeld ⊢
       refine zp 0 39 HT_ ?_; refine zp 3 42 HT_ ?_; refine zt 1 40 HT_ HW_ hHeld ?_; refine zt 4 43 HT_ HW_ hHeld ?_; refine zo 2 41 HT_ (fun K hK => ?_)
       refine zg Try.func42 #[.slice A0 l0.length c0, .agg #[.bool a2_0, .int .u64 a2_1, .int .u64 a2_2]] ?_
       with_reducible refine (addrset_Contains.calls _ _ l0 a2_0 a2_1 a2_2 t994 _ ?side1 ?side2 A32.out).mono ?_
       (case side1 => repeat (first | exact (Kd.C_below HR0.out HB.out) | (with_reducible refine Kd.C_alloc ?_ _) | (with_reducible refine Kd.C_drewN ?_ _) | (with_reducible refine Kd.C_drew ?_)))
       (case side2 => exact HC0.out)
       rintro e w36 ⟨rfl, hb⟩
       refine ⟨_, rfl, ?_⟩
       replace HO_7 := Aside0.mk (Kd.R_below (zR HO_7) hb)
       replace HO_8 := Aside0.mk (Kd.R_below (zR HO_8) hb)
       replace HO_9 := Aside0.mk (Kd.R_below (zR HO_9) hb)
       replace BK979 := Aside0.mk (blk_below (g := gb979) (o := .cells #[.bool a2_0, .int .u64 a2_1, .int .u64 a2_2] 36 (0, 0)) (zK BK979) hb)
       replace HB := Aside0.mk (below_step (zB HB) hb)
       (try clear hb)
       refine hK.out _ _ ⟨zc BK979 0, zc BK979 1, zc BK979 2⟩ (fun hHeld => ?_)
       clear hK K
       refine zn 41 ?_; refine zo 5 44 HT_ (fun K hK => ?_)
       refine zg Try.func42 #[.slice A1 l1.length c1, .agg #[.bool a2_0, .int .u64 a2_1, .int .u64 a2_2]] ?_
       with_reducible refine (addrset_Contains.calls _ _ l1 a2_0 a2_1 a2_2 t995 _ ?side1 ?side2 A33.out).mono ?_
       (case side1 => repeat (first | exact (Kd.C_below HR1.out HB.out) | (with_reducible refine Kd.C_alloc ?_ _) | (with_reducible refine Kd.C_drewN ?_ _) | (with_reducible refine Kd.C_drew ?_)))
       (case side2 => exact HC1.out)
       rintro e w37 ⟨rfl, hb⟩
       refine ⟨_, rfl, ?_⟩
       replace HO_7 := Aside0.mk (Kd.R_below (zR HO_7) hb)
       replace HO_8 := Aside0.mk (Kd.R_below (zR HO_8) hb)
       replace HO_9 := Aside0.mk (Kd.R_below (zR HO_9) hb)
       replace BK979 := Aside0.mk (blk_below (g := gb979) (o := .cells #[.bool a2_0, .int .u64 a2_1, .int .u64 a2_2] 36 (0, 0)) (zK BK979) hb)
       replace HB := Aside0.mk (below_step (zB HB) hb)
       (try clear hb)
       refine hK.out _ _ ⟨zc BK979 0, zc BK979 1, zc BK979 2⟩ (fun hHeld => ?_)
       clear hK K
       refine zn 44 ?_; refine zp 6 10 HT_ ?_; refine zp 7 11 HT_ ?_; refine zd HT_ ?_
       go_upto_region 7 with (fail)
       go_cut [73] (fun v73 wc => ∃ (kq : Nat) (x73_33 : Bool), v73 = .bool x73_33 ∧ Aside0 (intrusionlaw07_AddrsetAlgebra.j1 kq l0 l1 t982 t985 t988 x73_33 = some r) ∧ Aside0 (kq ≤ kj8) ∧ Aside0 (Kd.R k66 66 wc w.heap.size (fun k_ => some k_ ≠ (v986 : Value).ownBlock ∧ some k_ ≠ (v989 : Value).ownBlock) v983 t982) ∧ Aside0 (Kd.R k66 66 wc w.heap.size (fun k_ => some k_ ≠ (v983 : Value).ownBlock ∧ some k_ ≠ (v989 : Value).ownBlock) v986 t985) ∧ Aside0 (Kd.R k66 66 wc w.heap.size (fun k_ => some k_ ≠ (v983 : Value).ownBlock ∧ some k_ ≠ (v986 : Value).ownBlock) v989 t988) ∧ Aside0 (wc.heap[gb979]? = some (.cells #[.bool a2_0, .int .u64 a2_1, .int .u64 a2_2] 36 (0, 0))) ∧ Aside0 (Below w.heap.size w wc))
       case first =>
        have H := HC34.out
        clear HC34
        replace H := Option.bind_eq_some_iff.mp H
        obtain ⟨t996, A380, H⟩ := H
        try dsimp only at H
        have A38 := Aside0.mk A380
        clear A380
        by_cases c39 : t994 = true
        · subst c39
          rw [if_pos rfl] at H
          by_cases c40 : (t996 != true) = true
          · rw [if_pos c40] at H
            have c40b0 : (t996 != true) = true := c40
            (try (have c40b1 : decide (t996 = true) = false := by first | (simpa using c40) | exact decide_eq_true (Decidable.not_not.1 (fun hn => c40 (bne_iff_ne.2 hn))) | exact beq_iff_eq.2 (Decidable.not_not.1 (fun hn => c40 (bne_iff_ne.2 hn))) | exact decide_eq_false (bne_iff_ne.1 c40) | exact beq_eq_false_iff_ne.2 (bne_iff_ne.1 c40) | exact bne_iff_ne.1 c40))
            (try (have c40b4 : t996 = true := by simpa using c40))
            (try (have c40b4 : t996 = false := by simpa using c40))
            (try (have c40b2 : (t996 == true) = false := by first | (simpa using c40) | exact decide_eq_true (Decidable.not_not.1 (fun hn => c40 (bne_iff_ne.2 hn))) | exact beq_iff_eq.2 (Decidable.not_not.1 (fun hn => c40 (bne_iff_ne.2 hn))) | exact decide_eq_false (bne_iff_ne.1 c40) | exact beq_eq_false_iff_ne.2 (bne_iff_ne.1 c40) | exact bne_iff_ne.1 c40))
            (try (have c40b3 : ¬ (t996 = true) := by first | (simpa using c40) | exact decide_eq_true (Decidable.not_not.1 (fun hn => c40 (bne_iff_ne.2 hn))) | exact beq_iff_eq.2 (Decidable.not_not.1 (fun hn => c40 (bne_iff_ne.2 hn))) | exact decide_eq_false (bne_iff_ne.1 c40) | exact beq_eq_false_iff_ne.2 (bne_iff_ne.1 c40) | exact bne_iff_ne.1 c40))
            clear c40
            (first | rw [c40b0] | (simp only [i64_w, i32_w]; rw [c40b0]) | skip)
            have H' := Aside0.mk H
            clear H
            obtain ⟨hcz41_0, hcz41_1, hcz41_2⟩ := zc3 BK979
            obtain ⟨hfz41_0, hfz41_1, hfz41_2⟩ := zf3 BK979
            obtain ⟨Ao42, co42, eo42⟩ := Kd.R_slice HO_7.out
            subst eo42
            go_wp2_with (first | ((with_reducible refine gate_callee (f := 42) rfl ?_); refine goesL_ (some 47) rfl rfl Try.func42 (by kernel_rfl) rfl #[.slice Ao42 t982.length co42, .agg #[.bool a2_0, .int .u64 a2_1, .int .u64 a2_2]] rfl (by (try simp only [List.map_toArray, List.map_cons, List.map_nil]); first | done | rfl | (simp only [List.length_drop, List.length_take]; rfl)) ?_; (with_reducible refine (addrset_Contains.calls _ _ t982 a2_0 a2_1 a2_2 t996 _ ?side1 ?side2 A38.out).mono ?_); (case side1 => repeat (first | exact (Kd.R_reads' HO_7.out).2.2 | (with_reducible refine Kd.C_alloc ?_ _) | (with_reducible refine Kd.C_drewN ?_ _) | (with_reducible refine Kd.C_drew ?_))); (case side2 => exact (Kd.R_reads' HO_7.out).2.1); rintro e w43 ⟨rfl, hb⟩; refine ⟨_, rfl, ?_⟩; replace HO_7 := Aside0.mk (Kd.R_below (zR HO_7) hb); replace HO_8 := Aside0.mk (Kd.R_below (zR HO_8) hb); replace HO_9 := Aside0.mk (Kd.R_below (zR HO_9) hb); replace BK979 := Aside0.mk (blk_below (g := gb979) (o := .cells #[.bool a2_0, .int .u64 a2_1, .int .u64 a2_2] 36 (0, 0)) (zK BK979) hb); replace HB := Aside0.mk (below_step (zB HB) hb); (try clear hb)))
            go_meet
            case rel => exact ⟨_, (true), (by first | rfl | (simp; done) | (simp [*]; done)), H', ⟨by have := HJ8.out; first | omega | exact Nat.le_refl _⟩, ⟨zR HO_7⟩, ⟨zR HO_8⟩, ⟨zR HO_9⟩, ⟨zK BK979⟩, ⟨zB HB⟩⟩
          · rw [if_neg c40] at H
            have c40b0 : (t996 != true) = false := by simpa using c40
            (try (have c40b1 : decide (t996 = true) = true := by first | (simpa using c40) | exact decide_eq_true (Decidable.not_not.1 (fun hn => c40 (bne_iff_ne.2 hn))) | exact beq_iff_eq.2 (Decidable.not_not.1 (fun hn => c40 (bne_iff_ne.2 hn))) | exact decide_eq_false (bne_iff_ne.1 c40) | exact beq_eq_false_iff_ne.2 (bne_iff_ne.1 c40) | exact bne_iff_ne.1 c40))
            (try (have c40b4 : t996 = true := by simpa using c40))
            (try (have c40b4 : t996 = false := by simpa using c40))
            (try (have c40b2 : (t996 == true) = true := by first | (simpa using c40) | exact decide_eq_true (Decidable.not_not.1 (fun hn => c40 (bne_iff_ne.2 hn))) | exact beq_iff_eq.2 (Decidable.not_not.1 (fun hn => c40 (bne_iff_ne.2 hn))) | exact decide_eq_false (bne_iff_ne.1 c40) | exact beq_eq_false_iff_ne.2 (bne_iff_ne.1 c40) | exact bne_iff_ne.1 c40))
            clear c40
            (first | rw [c40b0] | (simp only [i64_w, i32_w]; rw [c40b0]) | skip)
            replace H := Option.bind_eq_some_iff.mp H
            obtain ⟨t997, A440, H⟩ := H
            try dsimp only at H
            have A44 := Aside0.mk A440
            clear A440
            by_cases c45 : (t997 != t995) = true
            · rw [if_pos c45] at H
              have c45b0 : (t997 != t995) = true := c45
              (try (have c45b1 : decide (t997 = t995) = false := by first | (simpa using c45) | exact decide_eq_true (Decidable.not_not.1 (fun hn => c45 (bne_iff_ne.2 hn))) | exact beq_iff_eq.2 (Decidable.not_not.1 (fun hn => c45 (bne_iff_ne.2 hn))) | exact decide_eq_false (bne_iff_ne.1 c45) | exact beq_eq_false_iff_ne.2 (bne_iff_ne.1 c45) | exact bne_iff_ne.1 c45))
              (try (have c45b2 : (t997 == t995) = false := by first | (simpa using c45) | exact decide_eq_true (Decidable.not_not.1 (fun hn => c45 (bne_iff_ne.2 hn))) | exact beq_iff_eq.2 (Decidable.not_not.1 (fun hn => c45 (bne_iff_ne.2 hn))) | exact decide_eq_false (bne_iff_ne.1 c45) | exact beq_eq_false_iff_ne.2 (bne_iff_ne.1 c45) | exact bne_iff_ne.1 c45))
              (try (have c45b3 : ¬ (t997 = t995) := by first | (simpa using c45) | exact decide_eq_true (Decidable.not_not.1 (fun hn => c45 (bne_iff_ne.2 hn))) | exact beq_iff_eq.2 (Decidable.not_not.1 (fun hn => c45 (bne_iff_ne.2 hn))) | exact decide_eq_false (bne_iff_ne.1 c45) | exact beq_eq_false_iff_ne.2 (bne_iff_ne.1 c45) | exact bne_iff_ne.1 c45))
              clear c45
              have H' := Aside0.mk H
              clear H
              obtain ⟨hcz46_0, hcz46_1, hcz46_2⟩ := zc3 BK979
              obtain ⟨hfz46_0, hfz46_1, hfz46_2⟩ := zf3 BK979
              obtain ⟨Ao47, co47, eo47⟩ := Kd.R_slice HO_7.out
              subst eo47
              go_wp2_with (first | ((with_reducible refine gate_callee (f := 42) rfl ?_); refine goesL_ (some 47) rfl rfl Try.func42 (by kernel_rfl) rfl #[.slice Ao47 t982.length co47, .agg #[.bool a2_0, .int .u64 a2_1, .int .u64 a2_2]] rfl (by (try simp only [List.map_toArray, List.map_cons, List.map_nil]); first | done | rfl | (simp only [List.length_drop, List.length_take]; rfl)) ?_; (with_reducible refine (addrset_Contains.calls _ _ t982 a2_0 a2_1 a2_2 t996 _ ?side1 ?side2 A38.out).mono ?_); (case side1 => repeat (first | exact (Kd.R_reads' HO_7.out).2.2 | (with_reducible refine Kd.C_alloc ?_ _) | (with_reducible refine Kd.C_drewN ?_ _) | (with_reducible refine Kd.C_drew ?_))); (case side2 => exact (Kd.R_reads' HO_7.out).2.1); rintro e w48 ⟨rfl, hb⟩; refine ⟨_, rfl, ?_⟩; replace HO_7 := Aside0.mk (Kd.R_below (zR HO_7) hb); replace HO_8 := Aside0.mk (Kd.R_below (zR HO_8) hb); replace HO_9 := Aside0.mk (Kd.R_below (zR HO_9) hb); replace BK979 := Aside0.mk (blk_below (g := gb979) (o := .cells #[.bool a2_0, .int .u64 a2_1, .int .u64 a2_2] 36 (0, 0)) (zK BK979) hb); replace HB := Aside0.mk (below_step (zB HB) hb); (try clear hb); obtain ⟨hcz49_0, hcz49_1, hcz49_2⟩ := zc3 BK979; obtain ⟨hfz49_0, hfz49_1, hfz49_2⟩ := zf3 BK979; obtain ⟨Ao50, co50, eo50⟩ := Kd.R_slice HO_8.out; subst eo50) | (go_at_call 42; (with_reducible refine (addrset_Contains.calls _ _ t985 a2_0 a2_1 a2_2 t997 _ ?side1 ?side2 A44.out).mono ?_); (case side1 => repeat (first | exact (Kd.R_reads' HO_8.out).2.2 | (with_reducible refine Kd.C_alloc ?_ _) | (with_reducible refine Kd.C_drewN ?_ _) | (with_reducible refine Kd.C_drew ?_))); (case side2 => exact (Kd.R_reads' HO_8.out).2.1); rintro e w51 ⟨rfl, hb⟩; replace HO_7 := Aside0.mk (Kd.R_below (zR HO_7) hb); replace HO_8 := Aside0.mk (Kd.R_below (zR HO_8) hb); replace HO_9 := Aside0.mk (Kd.R_below (zR HO_9) hb); replace BK979 := Aside0.mk (blk_below (g := gb979) (o := .cells #[.bool a2_0, .int .u64 a2_1, .int .u64 a2_2] 36 (0, 0)) (zK BK979) hb); replace HB := Aside0.mk (below_step (zB HB) hb); (try clear hb)))
              go_meet
              case rel => exact ⟨_, (true), (by first | rfl | (simp; done) | (simp [*]; done)), H', ⟨by have := HJ8.out; first | omega | exact Nat.le_refl _⟩, ⟨zR HO_7⟩, ⟨zR HO_8⟩, ⟨zR HO_9⟩, ⟨zK BK979⟩, ⟨zB HB⟩⟩
            · rw [if_neg c45] at H
              have c45b0 : (t997 != t995) = false := by simpa using c45
              (try (have c45b1 : decide (t997 = t995) = true := by first | (simpa using c45) | exact decide_eq_true (Decidable.not_not.1 (fun hn => c45 (bne_iff_ne.2 hn))) | exact beq_iff_eq.2 (Decidable.not_not.1 (fun hn => c45 (bne_iff_ne.2 hn))) | exact decide_eq_false (bne_iff_ne.1 c45) | exact beq_eq_false_iff_ne.2 (bne_iff_ne.1 c45) | exact bne_iff_ne.1 c45))
              (try (have c45b2 : (t997 == t995) = true := by first | (simpa using c45) | exact decide_eq_true (Decidable.not_not.1 (fun hn => c45 (bne_iff_ne.2 hn))) | exact beq_iff_eq.2 (Decidable.not_not.1 (fun hn => c45 (bne_iff_ne.2 hn))) | exact decide_eq_false (bne_iff_ne.1 c45) | exact beq_eq_false_iff_ne.2 (bne_iff_ne.1 c45) | exact bne_iff_ne.1 c45))
              clear c45
              replace H := Option.bind_eq_some_iff.mp H
              obtain ⟨t998, A520, H⟩ := H
              try dsimp only at H
              have A52 := Aside0.mk A520
              clear A520
              have H' := Aside0.mk H
              clear H
              obtain ⟨hcz53_0, hcz53_1, hcz53_2⟩ := zc3 BK979
              obtain ⟨hfz53_0, hfz53_1, hfz53_2⟩ := zf3 BK979
              obtain ⟨Ao54, co54, eo54⟩ := Kd.R_slice HO_7.out
              subst eo54
              go_wp2_with (first | ((with_reducible refine gate_callee (f := 42) rfl ?_); refine goesL_ (some 47) rfl rfl Try.func42 (by kernel_rfl) rfl #[.slice Ao54 t982.length co54, .agg #[.bool a2_0, .int .u64 a2_1, .int .u64 a2_2]] rfl (by (try simp only [List.map_toArray, List.map_cons, List.map_nil]); first | done | rfl | (simp only [List.length_drop, List.length_take]; rfl)) ?_; (with_reducible refine (addrset_Contains.calls _ _ t982 a2_0 a2_1 a2_2 t996 _ ?side1 ?side2 A38.out).mono ?_); (case side1 => repeat (first | exact (Kd.R_reads' HO_7.out).2.2 | (with_reducible refine Kd.C_alloc ?_ _) | (with_reducible refine Kd.C_drewN ?_ _) | (with_reducible refine Kd.C_drew ?_))); (case side2 => exact (Kd.R_reads' HO_7.out).2.1); rintro e w55 ⟨rfl, hb⟩; refine ⟨_, rfl, ?_⟩; replace HO_7 := Aside0.mk (Kd.R_below (zR HO_7) hb); replace HO_8 := Aside0.mk (Kd.R_below (zR HO_8) hb); replace HO_9 := Aside0.mk (Kd.R_below (zR HO_9) hb); replace BK979 := Aside0.mk (blk_below (g := gb979) (o := .cells #[.bool a2_0, .int .u64 a2_1, .int .u64 a2_2] 36 (0, 0)) (zK BK979) hb); replace HB := Aside0.mk (below_step (zB HB) hb); (try clear hb); obtain ⟨hcz56_0, hcz56_1, hcz56_2⟩ := zc3 BK979; obtain ⟨hfz56_0, hfz56_1, hfz56_2⟩ := zf3 BK979; obtain ⟨Ao57, co57, eo57⟩ := Kd.R_slice HO_8.out; subst eo57) | (go_at_call 42; (with_reducible refine (addrset_Contains.calls _ _ t985 a2_0 a2_1 a2_2 t997 _ ?side1 ?side2 A44.out).mono ?_); (case side1 => repeat (first | exact (Kd.R_reads' HO_8.out).2.2 | (with_reducible refine Kd.C_alloc ?_ _) | (with_reducible refine Kd.C_drewN ?_ _) | (with_reducible refine Kd.C_drew ?_))); (case side2 => exact (Kd.R_reads' HO_8.out).2.1); rintro e w58 ⟨rfl, hb⟩; replace HO_7 := Aside0.mk (Kd.R_below (zR HO_7) hb); replace HO_8 := Aside0.mk (Kd.R_below (zR HO_8) hb); replace HO_9 := Aside0.mk (Kd.R_below (zR HO_9) hb); replace BK979 := Aside0.mk (blk_below (g := gb979) (o := .cells #[.bool a2_0, .int .u64 a2_1, .int .u64 a2_2] 36 (0, 0)) (zK BK979) hb); replace HB := Aside0.mk (below_step (zB HB) hb); (try clear hb); obtain ⟨hcz59_0, hcz59_1, hcz59_2⟩ := zc3 BK979; obtain ⟨hfz59_0, hfz59_1, hfz59_2⟩ := zf3 BK979; obtain ⟨Ao60, co60, eo60⟩ := Kd.R_slice HO_9.out; subst eo60) | (go_at_call 42; (with_reducible refine (addrset_Contains.calls _ _ t988 a2_0 a2_1 a2_2 t998 _ ?side1 ?side2 A52.out).mono ?_); (case side1 => repeat (first | exact (Kd.R_reads' HO_9.out).2.2 | (with_reducible refine Kd.C_alloc ?_ _) | (with_reducible refine Kd.C_drewN ?_ _) | (with_reducible refine Kd.C_drew ?_))); (case side2 => exact (Kd.R_reads' HO_9.out).2.1); rintro e w61 ⟨rfl, hb⟩; replace HO_7 := Aside0.mk (Kd.R_below (zR HO_7) hb); replace HO_8 := Aside0.mk (Kd.R_below (zR HO_8) hb); replace HO_9 := Aside0.mk (Kd.R_below (zR HO_9) hb); replace BK979 := Aside0.mk (blk_below (g := gb979) (o := .cells #[.bool a2_0, .int .u64 a2_1, .int .u64 a2_2] 36 (0, 0)) (zK BK979) hb); replace HB := Aside0.mk (below_step (zB HB) hb); (try clear hb)))
              go_meet
              case rel => exact ⟨_, ((t998 != (!t995))), (by first | rfl | (simp; done) | (simp [*]; done)), H', ⟨by have := HJ8.out; first | omega | exact Nat.le_refl _⟩, ⟨zR HO_7⟩, ⟨zR HO_8⟩, ⟨zR HO_9⟩, ⟨zK BK979⟩, ⟨zB HB⟩⟩
        · replace c39 := Bool.eq_false_iff.mpr c39
          subst c39
          rw [if_neg zF] at H
          by_cases c62 : (t996 != t995) = true
          · rw [if_pos c62] at H
            have c62b0 : (t996 != t995) = true := c62
            (try (have c62b1 : decide (t996 = t995) = false := by first | (simpa using c62) | exact decide_eq_true (Decidable.not_not.1 (fun hn => c62 (bne_iff_ne.2 hn))) | exact beq_iff_eq.2 (Decidable.not_not.1 (fun hn => c62 (bne_iff_ne.2 hn))) | exact decide_eq_false (bne_iff_ne.1 c62) | exact beq_eq_false_iff_ne.2 (bne_iff_ne.1 c62) | exact bne_iff_ne.1 c62))
            (try (have c62b2 : (t996 == t995) = false := by first | (simpa using c62) | exact decide_eq_true (Decidable.not_not.1 (fun hn => c62 (bne_iff_ne.2 hn))) | exact beq_iff_eq.2 (Decidable.not_not.1 (fun hn => c62 (bne_iff_ne.2 hn))) | exact decide_eq_false (bne_iff_ne.1 c62) | exact beq_eq_false_iff_ne.2 (bne_iff_ne.1 c62) | exact bne_iff_ne.1 c62))
            (try (have c62b3 : ¬ (t996 = t995) := by first | (simpa using c62) | exact decide_eq_true (Decidable.not_not.1 (fun hn => c62 (bne_iff_ne.2 hn))) | exact beq_iff_eq.2 (Decidable.not_not.1 (fun hn => c62 (bne_iff_ne.2 hn))) | exact decide_eq_false (bne_iff_ne.1 c62) | exact beq_eq_false_iff_ne.2 (bne_iff_ne.1 c62) | exact bne_iff_ne.1 c62))
            clear c62
            have H' := Aside0.mk H
            clear H
            obtain ⟨hcz63_0, hcz63_1, hcz63_2⟩ := zc3 BK979
            obtain ⟨hfz63_0, hfz63_1, hfz63_2⟩ := zf3 BK979
            obtain ⟨Ao64, co64, eo64⟩ := Kd.R_slice HO_7.out
            subst eo64
            go_wp2_with (first | ((with_reducible refine gate_callee (f := 42) rfl ?_); refine goesL_ (some 47) rfl rfl Try.func42 (by kernel_rfl) rfl #[.slice Ao64 t982.length co64, .agg #[.bool a2_0, .int .u64 a2_1, .int .u64 a2_2]] rfl (by (try simp only [List.map_toArray, List.map_cons, List.map_nil]); first | done | rfl | (simp only [List.length_drop, List.length_take]; rfl)) ?_; (with_reducible refine (addrset_Contains.calls _ _ t982 a2_0 a2_1 a2_2 t996 _ ?side1 ?side2 A38.out).mono ?_); (case side1 => repeat (first | exact (Kd.R_reads' HO_7.out).2.2 | (with_reducible refine Kd.C_alloc ?_ _) | (with_reducible refine Kd.C_drewN ?_ _) | (with_reducible refine Kd.C_drew ?_))); (case side2 => exact (Kd.R_reads' HO_7.out).2.1); rintro e w65 ⟨rfl, hb⟩; refine ⟨_, rfl, ?_⟩; replace HO_7 := Aside0.mk (Kd.R_below (zR HO_7) hb); replace HO_8 := Aside0.mk (Kd.R_below (zR HO_8) hb); replace HO_9 := Aside0.mk (Kd.R_below (zR HO_9) hb); replace BK979 := Aside0.mk (blk_below (g := gb979) (o := .cells #[.bool a2_0, .int .u64 a2_1, .int .u64 a2_2] 36 (0, 0)) (zK BK979) hb); replace HB := Aside0.mk (below_step (zB HB) hb); (try clear hb)))
            go_meet
            case rel => exact ⟨_, (true), (by first | rfl | (simp; done) | (simp [*]; done)), H', ⟨by have := HJ8.out; first | omega | exact Nat.le_refl _⟩, ⟨zR HO_7⟩, ⟨zR HO_8⟩, ⟨zR HO_9⟩, ⟨zK BK979⟩, ⟨zB HB⟩⟩
          · rw [if_neg c62] at H
            have c62b0 : (t996 != t995) = false := by simpa using c62
            (try (have c62b1 : decide (t996 = t995) = true := by first | (simpa using c62) | exact decide_eq_true (Decidable.not_not.1 (fun hn => c62 (bne_iff_ne.2 hn))) | exact beq_iff_eq.2 (Decidable.not_not.1 (fun hn => c62 (bne_iff_ne.2 hn))) | exact decide_eq_false (bne_iff_ne.1 c62) | exact beq_eq_false_iff_ne.2 (bne_iff_ne.1 c62) | exact bne_iff_ne.1 c62))
            (try (have c62b2 : (t996 == t995) = true := by first | (simpa using c62) | exact decide_eq_true (Decidable.not_not.1 (fun hn => c62 (bne_iff_ne.2 hn))) | exact beq_iff_eq.2 (Decidable.not_not.1 (fun hn => c62 (bne_iff_ne.2 hn))) | exact decide_eq_false (bne_iff_ne.1 c62) | exact beq_eq_false_iff_ne.2 (bne_iff_ne.1 c62) | exact bne_iff_ne.1 c62))
            clear c62
            replace H := Option.bind_eq_some_iff.mp H
            obtain ⟨t999, A660, H⟩ := H
            try dsimp only at H
            have A66 := Aside0.mk A660
            clear A660
            by_cases c67 : (t999 != false) = true
            · rw [if_pos c67] at H
              have c67b0 : (t999 != false) = true := c67
              (try (have c67b1 : decide (t999 = false) = false := by first | (simpa using c67) | exact decide_eq_true (Decidable.not_not.1 (fun hn => c67 (bne_iff_ne.2 hn))) | exact beq_iff_eq.2 (Decidable.not_not.1 (fun hn => c67 (bne_iff_ne.2 hn))) | exact decide_eq_false (bne_iff_ne.1 c67) | exact beq_eq_false_iff_ne.2 (bne_iff_ne.1 c67) | exact bne_iff_ne.1 c67))
              (try (have c67b4 : t999 = true := by simpa using c67))
              (try (have c67b4 : t999 = false := by simpa using c67))
              (try (have c67b2 : (t999 == false) = false := by first | (simpa using c67) | exact decide_eq_true (Decidable.not_not.1 (fun hn => c67 (bne_iff_ne.2 hn))) | exact beq_iff_eq.2 (Decidable.not_not.1 (fun hn => c67 (bne_iff_ne.2 hn))) | exact decide_eq_false (bne_iff_ne.1 c67) | exact beq_eq_false_iff_ne.2 (bne_iff_ne.1 c67) | exact bne_iff_ne.1 c67))
              (try (have c67b3 : ¬ (t999 = false) := by first | (simpa using c67) | exact decide_eq_true (Decidable.not_not.1 (fun hn => c67 (bne_iff_ne.2 hn))) | exact beq_iff_eq.2 (Decidable.not_not.1 (fun hn => c67 (bne_iff_ne.2 hn))) | exact decide_eq_false (bne_iff_ne.1 c67) | exact beq_eq_false_iff_ne.2 (bne_iff_ne.1 c67) | exact bne_iff_ne.1 c67))
              clear c67
              have H' := Aside0.mk H
              clear H
              obtain ⟨hcz68_0, hcz68_1, hcz68_2⟩ := zc3 BK979
              obtain ⟨hfz68_0, hfz68_1, hfz68_2⟩ := zf3 BK979
              obtain ⟨Ao69, co69, eo69⟩ := Kd.R_slice HO_7.out
              subst eo69
              go_wp2_with (first | ((with_reducible refine gate_callee (f := 42) rfl ?_); refine goesL_ (some 47) rfl rfl Try.func42 (by kernel_rfl) rfl #[.slice Ao69 t982.length co69, .agg #[.bool a2_0, .int .u64 a2_1, .int .u64 a2_2]] rfl (by (try simp only [List.map_toArray, List.map_cons, List.map_nil]); first | done | rfl | (simp only [List.length_drop, List.length_take]; rfl)) ?_; (with_reducible refine (addrset_Contains.calls _ _ t982 a2_0 a2_1 a2_2 t996 _ ?side1 ?side2 A38.out).mono ?_); (case side1 => repeat (first | exact (Kd.R_reads' HO_7.out).2.2 | (with_reducible refine Kd.C_alloc ?_ _) | (with_reducible refine Kd.C_drewN ?_ _) | (with_reducible refine Kd.C_drew ?_))); (case side2 => exact (Kd.R_reads' HO_7.out).2.1); rintro e w70 ⟨rfl, hb⟩; refine ⟨_, rfl, ?_⟩; replace HO_7 := Aside0.mk (Kd.R_below (zR HO_7) hb); replace HO_8 := Aside0.mk (Kd.R_below (zR HO_8) hb); replace HO_9 := Aside0.mk (Kd.R_below (zR HO_9) hb); replace BK979 := Aside0.mk (blk_below (g := gb979) (o := .cells #[.bool a2_0, .int .u64 a2_1, .int .u64 a2_2] 36 (0, 0)) (zK BK979) hb); replace HB := Aside0.mk (below_step (zB HB) hb); (try clear hb); obtain ⟨hcz71_0, hcz71_1, hcz71_2⟩ := zc3 BK979; obtain ⟨hfz71_0, hfz71_1, hfz71_2⟩ := zf3 BK979; obtain ⟨Ao72, co72, eo72⟩ := Kd.R_slice HO_8.out; subst eo72) | (go_at_call 42; (with_reducible refine (addrset_Contains.calls _ _ t985 a2_0 a2_1 a2_2 t999 _ ?side1 ?side2 A66.out).mono ?_); (case side1 => repeat (first | exact (Kd.R_reads' HO_8.out).2.2 | (with_reducible refine Kd.C_alloc ?_ _) | (with_reducible refine Kd.C_drewN ?_ _) | (with_reducible refine Kd.C_drew ?_))); (case side2 => exact (Kd.R_reads' HO_8.out).2.1); rintro e w73 ⟨rfl, hb⟩; replace HO_7 := Aside0.mk (Kd.R_below (zR HO_7) hb); replace HO_8 := Aside0.mk (Kd.R_below (zR HO_8) hb); replace HO_9 := Aside0.mk (Kd.R_below (zR HO_9) hb); replace BK979 := Aside0.mk (blk_below (g := gb979) (o := .cells #[.bool a2_0, .int .u64 a2_1, .int .u64 a2_2] 36 (0, 0)) (zK BK979) hb); replace HB := Aside0.mk (below_step (zB HB) hb); (try clear hb)))
              go_meet
              case rel => exact ⟨_, (true), (by first | rfl | (simp; done) | (simp [*]; done)), H', ⟨by have := HJ8.out; first | omega | exact Nat.le_refl _⟩, ⟨zR HO_7⟩, ⟨zR HO_8⟩, ⟨zR HO_9⟩, ⟨zK BK979⟩, ⟨zB HB⟩⟩
            · rw [if_neg c67] at H
              have c67b0 : (t999 != false) = false := by simpa using c67
              (try (have c67b1 : decide (t999 = false) = true := by first | (simpa using c67) | exact decide_eq_true (Decidable.not_not.1 (fun hn => c67 (bne_iff_ne.2 hn))) | exact beq_iff_eq.2 (Decidable.not_not.1 (fun hn => c67 (bne_iff_ne.2 hn))) | exact decide_eq_false (bne_iff_ne.1 c67) | exact beq_eq_false_iff_ne.2 (bne_iff_ne.1 c67) | exact bne_iff_ne.1 c67))
              (try (have c67b4 : t999 = true := by simpa using c67))
              (try (have c67b4 : t999 = false := by simpa using c67))
              (try (have c67b2 : (t999 == false) = true := by first | (simpa using c67) | exact decide_eq_true (Decidable.not_not.1 (fun hn => c67 (bne_iff_ne.2 hn))) | exact beq_iff_eq.2 (Decidable.not_not.1 (fun hn => c67 (bne_iff_ne.2 hn))) | exact decide_eq_false (bne_iff_ne.1 c67) | exact beq_eq_false_iff_ne.2 (bne_iff_ne.1 c67) | exact bne_iff_ne.1 c67))
              clear c67
              replace H := Option.bind_eq_some_iff.mp H
              obtain ⟨t1000, A740, H⟩ := H
              try dsimp only at H
              have A74 := Aside0.mk A740
              clear A740
              have H' := Aside0.mk H
              clear H
              obtain ⟨hcz75_0, hcz75_1, hcz75_2⟩ := zc3 BK979
              obtain ⟨hfz75_0, hfz75_1, hfz75_2⟩ := zf3 BK979
              obtain ⟨Ao76, co76, eo76⟩ := Kd.R_slice HO_7.out
              subst eo76
              go_wp2_with (first | ((with_reducible refine gate_callee (f := 42) rfl ?_); refine goesL_ (some 47) rfl rfl Try.func42 (by kernel_rfl) rfl #[.slice Ao76 t982.length co76, .agg #[.bool a2_0, .int .u64 a2_1, .int .u64 a2_2]] rfl (by (try simp only [List.map_toArray, List.map_cons, List.map_nil]); first | done | rfl | (simp only [List.length_drop, List.length_take]; rfl)) ?_; (with_reducible refine (addrset_Contains.calls _ _ t982 a2_0 a2_1 a2_2 t996 _ ?side1 ?side2 A38.out).mono ?_); (case side1 => repeat (first | exact (Kd.R_reads' HO_7.out).2.2 | (with_reducible refine Kd.C_alloc ?_ _) | (with_reducible refine Kd.C_drewN ?_ _) | (with_reducible refine Kd.C_drew ?_))); (case side2 => exact (Kd.R_reads' HO_7.out).2.1); rintro e w77 ⟨rfl, hb⟩; refine ⟨_, rfl, ?_⟩; replace HO_7 := Aside0.mk (Kd.R_below (zR HO_7) hb); replace HO_8 := Aside0.mk (Kd.R_below (zR HO_8) hb); replace HO_9 := Aside0.mk (Kd.R_below (zR HO_9) hb); replace BK979 := Aside0.mk (blk_below (g := gb979) (o := .cells #[.bool a2_0, .int .u64 a2_1, .int .u64 a2_2] 36 (0, 0)) (zK BK979) hb); replace HB := Aside0.mk (below_step (zB HB) hb); (try clear hb); obtain ⟨hcz78_0, hcz78_1, hcz78_2⟩ := zc3 BK979; obtain ⟨hfz78_0, hfz78_1, hfz78_2⟩ := zf3 BK979; obtain ⟨Ao79, co79, eo79⟩ := Kd.R_slice HO_8.out; subst eo79) | (go_at_call 42; (with_reducible refine (addrset_Contains.calls _ _ t985 a2_0 a2_1 a2_2 t999 _ ?side1 ?side2 A66.out).mono ?_); (case side1 => repeat (first | exact (Kd.R_reads' HO_8.out).2.2 | (with_reducible refine Kd.C_alloc ?_ _) | (with_reducible refine Kd.C_drewN ?_ _) | (with_reducible refine Kd.C_drew ?_))); (case side2 => exact (Kd.R_reads' HO_8.out).2.1); rintro e w80 ⟨rfl, hb⟩; replace HO_7 := Aside0.mk (Kd.R_below (zR HO_7) hb); replace HO_8 := Aside0.mk (Kd.R_below (zR HO_8) hb); replace HO_9 := Aside0.mk (Kd.R_below (zR HO_9) hb); replace BK979 := Aside0.mk (blk_below (g := gb979) (o := .cells #[.bool a2_0, .int .u64 a2_1, .int .u64 a2_2] 36 (0, 0)) (zK BK979) hb); replace HB := Aside0.mk (below_step (zB HB) hb); (try clear hb); obtain ⟨hcz81_0, hcz81_1, hcz81_2⟩ := zc3 BK979; obtain ⟨hfz81_0, hfz81_1, hfz81_2⟩ := zf3 BK979; obtain ⟨Ao82, co82, eo82⟩ := Kd.R_slice HO_9.out; subst eo82) | (go_at_call 42; (with_reducible refine (addrset_Contains.calls _ _ t988 a2_0 a2_1 a2_2 t1000 _ ?side1 ?side2 A74.out).mono ?_); (case side1 => repeat (first | exact (Kd.R_reads' HO_9.out).2.2 | (with_reducible refine Kd.C_alloc ?_ _) | (with_reducible refine Kd.C_drewN ?_ _) | (with_reducible refine Kd.C_drew ?_))); (case side2 => exact (Kd.R_reads' HO_9.out).2.1); rintro e w83 ⟨rfl, hb⟩; replace HO_7 := Aside0.mk (Kd.R_below (zR HO_7) hb); replace HO_8 := Aside0.mk (Kd.R_below (zR HO_8) hb); replace HO_9 := Aside0.mk (Kd.R_below (zR HO_9) hb); replace BK979 := Aside0.mk (blk_below (g := gb979) (o := .cells #[.bool a2_0, .int .u64 a2_1, .int .u64 a2_2] 36 (0, 0)) (zK BK979) hb); replace HB := Aside0.mk (below_step (zB HB) hb); (try clear hb)))
              go_meet
              case rel => exact ⟨_, ((t1000 != false)), (by first | rfl | (simp; done) | (simp [*]; done)), H', ⟨by have := HJ8.out; first | omega | exact Nat.le_refl _⟩, ⟨zR HO_7⟩, ⟨zR HO_8⟩, ⟨zR HO_9⟩, ⟨zK BK979⟩, ⟨zB HB⟩⟩
       case rest =>
        clear HC34
        try clear c1
        try clear p2
        try clear c3
        try clear c4
        try clear c5
        try clear c6
        try clear c13
        try clear c15
        try clear c17
        try clear c31
        try clear c35
        try clear c39
        try clear c40
        try clear c40b0
        try clear c40b1
        try clear c40b2
        try clear c42
        try clear c45
        try clear c45b0
        try clear c45b1
        try clear c45b2
        try clear c52
        try clear c54
        try clear c56
        try clear c62
        try clear c62b0
        try clear c62b1
        try clear c62b2
        try clear c67
        try clear c67b0
        try clear c67b1
        try clear c67b2
        try clear hcz41_0
        try clear hcz41_1
        try clear hcz41_2
        try clear hcz46_0
        try clear hcz46_1
        try clear hcz46_2
        try clear hcz49_0
        try clear hcz49_1
        try clear hcz49_2
        try clear hcz53_0
        try clear hcz53_1
        try clear hcz53_2
        try clear hcz56_0
        try clear hcz56_1
        try clear hcz56_2
        try clear hcz59_0
        try clear hcz59_1
        try clear hcz59_2
        try clear hcz63_0
        try clear hcz63_1
        try clear hcz63_2
        try clear hcz68_0
        try clear hcz68_1
        try clear hcz68_2
        try clear hcz71_0
        try clear hcz71_1
        try clear hcz71_2
        try clear hcz75_0
        try clear hcz75_1
        try clear hcz75_2
        try clear hcz78_0
        try clear hcz78_1
        try clear hcz78_2
        try clear hcz81_0
        try clear hcz81_1
        try clear hcz81_2
        try clear hfz41_0
        try clear hfz41_1
        try clear hfz41_2
        try clear hfz46_0
        try clear hfz46_1
        try clear hfz46_2
        try clear hfz49_0
        try clear hfz49_1
        try clear hfz49_2
        try clear hfz53_0
        try clear hfz53_1
        try clear hfz53_2
        try clear hfz56_0
        try clear hfz56_1
        try clear hfz56_2
        try clear hfz59_0
        try clear hfz59_1
        try clear hfz59_2
        try clear hfz63_0
        try clear hfz63_1
        try clear hfz63_2
        try clear hfz68_0
        try clear hfz68_1
        try clear hfz68_2
        try clear hfz71_0
        try clear hfz71_1
        try clear hfz71_2
        try clear hfz75_0
        try clear hfz75_1
        try clear hfz75_2
        try clear hfz78_0
        try clear hfz78_1
        try clear hfz78_2
        try clear hfz81_0
        try clear hfz81_1
        try clear hfz81_2
        try clear p2
        obtain ⟨kq, x73_33, rfl, HA, HJ33, HO_7, HO_8, HO_9, BK979, HB⟩ := hcut
        cases kq with
        | zero => exact absurd HA.out (by simp [intrusionlaw07_AddrsetAlgebra.j1])
        | succ kj33 =>
         have H := HA.out
         clear HA
         simp only [intrusionlaw07_AddrsetAlgebra.j1] at H
         by_cases c84 : x73_33 = true
         · subst c84
           rw [if_pos rfl] at H
           obtain rfl := Option.some.inj H
           go_wp2
           go_ret
           exact ⟨by first | rfl | (simp [errW_none, errW_some] <;> rfl) | (simp [*, errW_none, errW_some] <;> rfl), by repeat (first | (with_reducible first | exact HB.out | apply below_alloc | apply pw_below_drewN | apply below_drew1 | refine below_set ?_ GE979.out) | exact HB.out)⟩
         · replace c84 := Bool.eq_false_iff.mpr c84
           subst c84
           rw [if_neg zF] at H
           replace H := Option.bind_eq_some_iff.mp H
           obtain ⟨t1001, A850, H⟩ := H
           try dsimp only at H
           have A85 := Aside0.mk A850
           clear A850
           replace H := Option.bind_eq_some_iff.mp H
           obtain ⟨t1004, A860, H⟩ := H
           try dsimp only at H
           have A86 := Aside0.mk A860
           clear A860
           by_cases c87 : t1004 = true
           · subst c87
             rw [if_pos rfl] at H
             replace H := Option.bind_eq_some_iff.mp H
             obtain ⟨t1005, A880, H⟩ := H
             try dsimp only at H
             have A88 := Aside0.mk A880
             clear A880
             replace H := Option.bind_eq_some_iff.mp H
             obtain ⟨t1008, A890, H⟩ := H
             try dsimp only at H
             have A89 := Aside0.mk A890
             clear A890
             replace H := Option.bind_eq_some_iff.mp H
             obtain ⟨t1011, A900, H⟩ := H
             try dsimp only at H
             have A90 := Aside0.mk A900
             clear A900
             by_cases c91 : t1011 = true
             · subst c91
               rw [if_pos rfl] at H
               replace H := Option.bind_eq_some_iff.mp H
               obtain ⟨t1012, A920, H⟩ := H
               try dsimp only at H
               have A92 := Aside0.mk A920
               clear A920
               by_cases c93 : t1012 = true
               · subst c93
                 rw [if_pos rfl] at H
                 replace H := Option.bind_eq_some_iff.mp H
                 obtain ⟨t1013, A940, H⟩ := H
                 try dsimp only at H
                 have A94 := Aside0.mk A940
                 clear A940
                 by_cases c95 : t1013 = true
                 · subst c95
                   rw [if_pos rfl] at H
                   replace H := Option.bind_eq_some_iff.mp H
                   obtain ⟨t1014, A960, H⟩ := H
                   try dsimp only at H
                   have A96 := Aside0.mk A960
                   clear A960
                   by_cases c97 : (t1014 == ((t988.length : Int) == 0)) = true
                   · rw [if_pos c97] at H
                     have c97b0 : (t1014 == ((t988.length : Int) == 0)) = true := c97
                     (try (have c97b1 : decide (t1014 = ((t988.length : Int) == 0)) = true := by first | (simpa using c97) | exact decide_eq_true (Decidable.not_not.1 (fun hn => c97 (bne_iff_ne.2 hn))) | exact beq_iff_eq.2 (Decidable.not_not.1 (fun hn => c97 (bne_iff_ne.2 hn))) | exact decide_eq_false (bne_iff_ne.1 c97) | exact beq_eq_false_iff_ne.2 (bne_iff_ne.1 c97) | exact bne_iff_ne.1 c97))
                     (try (have c97b2 : (t1014 == ((t988.length : Int) == 0)) = true := by first | (simpa using c97) | exact decide_eq_true (Decidable.not_not.1 (fun hn => c97 (bne_iff_ne.2 hn))) | exact beq_iff_eq.2 (Decidable.not_not.1 (fun hn => c97 (bne_iff_ne.2 hn))) | exact decide_eq_false (bne_iff_ne.1 c97) | exact beq_eq_false_iff_ne.2 (bne_iff_ne.1 c97) | exact bne_iff_ne.1 c97))
                     clear c97
                     replace H := Option.bind_eq_some_iff.mp H
                     obtain ⟨t1015, A980, H⟩ := H
                     try dsimp only at H
                     have A98 := Aside0.mk A980
                     clear A980
                     obtain rfl := Option.some.inj H
                     obtain ⟨Ao99, co99, eo99⟩ := Kd.R_slice HO_9.out
                     subst eo99
                     go_wp2_with (first | ((with_reducible refine gate_callee (f := 56) rfl ?_); refine goesL_ (some 76) rfl rfl Try.func56 (by kernel_rfl) rfl #[.slice A0 l0.length c0, .slice Ao99 t988.length co99] rfl (by (try simp only [List.map_toArray, List.map_cons, List.map_nil]); first | done | rfl | (simp only [List.length_drop, List.length_take]; rfl)) ?_; (with_reducible refine (addrset_Minus.calls kj33 _ _ l0 _ _ t988 t1001 _ ?side1 ?side2 ?side3 ?side4 A85.out).mono ?_); (case side1 => repeat (first | exact (Kd.C_below HR0.out HB.out) | (with_reducible refine Kd.C_alloc ?_ _) | (with_reducible refine Kd.C_drewN ?_ _) | (with_reducible refine Kd.C_drew ?_))); (case side2 => exact HC0.out); (case side3 => repeat (first | exact (Kd.R_reads' HO_9.out).2.2 | (with_reducible refine Kd.C_alloc ?_ _) | (with_reducible refine Kd.C_drewN ?_ _) | (with_reducible refine Kd.C_drew ?_))); (case side4 => exact (Kd.R_reads' HO_9.out).2.1); rintro e w100 ⟨v1002, rfl, ho0, hb⟩; refine ⟨_, rfl, ?_⟩; have HO1003 := Aside0.mk (Kd.R_lower (Kd.R_new' (Kd.R_new' (Kd.R_new' ho0 (Kd.R_lt (zR HO_7))) (Kd.R_lt (zR HO_8))) (Kd.R_lt (zR HO_9))) (below_size (zB HB))); replace HO_7 := Aside0.mk (Kd.R_elder' (zR HO_7) (Kd.R_base ho0) hb); replace HO_8 := Aside0.mk (Kd.R_elder' (zR HO_8) (Kd.R_base ho0) hb); replace HO_9 := Aside0.mk (Kd.R_elder' (zR HO_9) (Kd.R_base ho0) hb); replace BK979 := Aside0.mk (blk_below (g := gb979) (o := .cells #[.bool a2_0, .int .u64 a2_1, .int .u64 a2_2] 36 (0, 0)) (zK BK979) hb); replace HB := Aside0.mk (below_step (zB HB) hb); (try clear hb); (try clear ho0); obtain ⟨Ao101, co101, eo101⟩ := Kd.R_slice HO1003.out; subst eo101; obtain ⟨Ao102, co102, eo102⟩ := Kd.R_slice HO_8.out; subst eo102) | ((with_reducible refine gate_callee (f := 37) rfl ?_); refine goesL_ (some 78) rfl rfl Try.func37 (by kernel_rfl) rfl #[.slice Ao101 t1001.length co101, .slice Ao102 t985.length co102] rfl (by (try simp only [List.map_toArray, List.map_cons, List.map_nil]); first | done | rfl | (simp only [List.length_drop, List.length_take]; rfl)) ?_; (with_reducible refine (intrusionref07_Same.calls kj33 _ _ t1001 _ _ t985 true _ ?side1 ?side2 ?side3 ?side4 A86.out).mono ?_); (case side1 => repeat (first | exact (Kd.R_reads' HO1003.out).2.2 | (with_reducible refine Kd.C_alloc ?_ _) | (with_reducible refine Kd.C_drewN ?_ _) | (with_reducible refine Kd.C_drew ?_))); (case side2 => exact (Kd.R_reads' HO1003.out).2.1); (case side3 => repeat (first | exact (Kd.R_reads' HO_8.out).2.2 | (with_reducible refine Kd.C_alloc ?_ _) | (with_reducible refine Kd.C_drewN ?_ _) | (with_reducible refine Kd.C_drew ?_))); (case side4 => exact (Kd.R_reads' HO_8.out).2.1); rintro e w' ⟨rfl, ⟨nd, rfl⟩⟩; refine ⟨_, rfl, ?_⟩) | (go_at_call 52; (with_reducible refine (addrset_Union.calls kj33 (fun k_ => some k_ = (.slice Ao99 t988.length co99 : Value).ownBlock) _ _ t988 (fun k_ => some k_ = (.slice Ao102 t985.length co102 : Value).ownBlock) _ _ t985 t1005 _ ?side1 ?side2 A88.out).mono ?_); (case side1 => exact Kd.R_V (Kd.R_tight rfl (Kd.R_types (HO_9.out) BK979.out (by decide)))); (case side2 => exact Kd.R_V (Kd.R_tight rfl (Kd.R_types (HO_8.out) BK979.out (by decide)))); rintro e w103 ⟨v1006, rfl, ho0, hb⟩; have HO1007 := Aside0.mk (Kd.R_lower (Kd.R_new' (Kd.R_new' (Kd.R_new' (Kd.R_new' (Kd.R_mono (ok' := fun k_ => True) ho0 (fun _ hk_ => trivial)) (Kd.R_lt (zR HO_7))) (Kd.R_lt (zR HO_8))) (Kd.R_lt (zR HO_9))) (Kd.R_lt (zR HO1003))) (below_size (zB HB))); replace HO_7 := Aside0.mk (Kd.R_elder' (zR HO_7) (Kd.R_base ho0) hb); replace HO_8 := Aside0.mk (Kd.R_elder' (zR HO_8) (Kd.R_base ho0) hb); replace HO_9 := Aside0.mk (Kd.R_elder' (zR HO_9) (Kd.R_base ho0) hb); replace HO1003 := Aside0.mk (Kd.R_elder' (zR HO1003) (Kd.R_base ho0) hb); replace BK979 := Aside0.mk (blk_below (g := gb979) (o := .cells #[.bool a2_0, .int .u64 a2_1, .int .u64 a2_2] 36 (0, 0)) (zK BK979) hb); replace HB := Aside0.mk (below_step (zB HB) hb); (try clear hb); (try clear ho0)) | (go_at_call 38; (with_reducible refine (addrset_Normal.calls kj33 _ _ l0 t1008 _ ?side1 ?side2 A89.out).mono ?_); (case side1 => repeat (first | exact (Kd.C_below HR0.out HB.out) | (with_reducible refine Kd.C_alloc ?_ _) | (with_reducible refine Kd.C_drewN ?_ _) | (with_reducible refine Kd.C_drew ?_))); (case side2 => exact HC0.out); rintro e w104 ⟨v1009, rfl, ho0, hb⟩; have HO1010 := Aside0.mk (Kd.R_lower (Kd.R_new' (Kd.R_new' (Kd.R_new' (Kd.R_new' (Kd.R_new' ho0 (Kd.R_lt (zR HO_7))) (Kd.R_lt (zR HO_8))) (Kd.R_lt (zR HO_9))) (Kd.R_lt (zR HO1003))) (Kd.R_lt (zR HO1007))) (below_size (zB HB))); replace HO_7 := Aside0.mk (Kd.R_elder' (zR HO_7) (Kd.R_base ho0) hb); replace HO_8 := Aside0.mk (Kd.R_elder' (zR HO_8) (Kd.R_base ho0) hb); replace HO_9 := Aside0.mk (Kd.R_elder' (zR HO_9) (Kd.R_base ho0) hb); replace HO1003 := Aside0.mk (Kd.R_elder' (zR HO1003) (Kd.R_base ho0) hb); replace HO1007 := Aside0.mk (Kd.R_elder' (zR HO1007) (Kd.R_base ho0) hb); replace BK979 := Aside0.mk (blk_below (g := gb979) (o := .cells #[.bool a2_0, .int .u64 a2_1, .int .u64 a2_2] 36 (0, 0)) (zK BK979) hb); replace HB := Aside0.mk (below_step (zB HB) hb); (try clear hb); (try clear ho0); obtain ⟨Ao105, co105, eo105⟩ := Kd.R_slice HO1007.out; subst eo105; obtain ⟨Ao106, co106, eo106⟩ := Kd.R_slice HO1010.out; subst eo106) | (go_at_call 37; (with_reducible refine (intrusionref07_Same.calls kj33 _ _ t1005 _ _ t1008 true _ ?side1 ?side2 ?side3 ?side4 A90.out).mono ?_); (case side1 => repeat (first | exact (Kd.R_reads' HO1007.out).2.2 | (with_reducible refine Kd.C_alloc ?_ _) | (with_reducible refine Kd.C_drewN ?_ _) | (with_reducible refine Kd.C_drew ?_))); (case side2 => exact (Kd.R_reads' HO1007.out).2.1); (case side3 => repeat (first | exact (Kd.R_reads' HO1010.out).2.2 | (with_reducible refine Kd.C_alloc ?_ _) | (with_reducible refine Kd.C_drewN ?_ _) | (with_reducible refine Kd.C_drew ?_))); (case side4 => exact (Kd.R_reads' HO1010.out).2.1); rintro e w' ⟨rfl, ⟨nd, rfl⟩⟩) | (go_at_call 58; (with_reducible refine (addrset_Subset.calls kj33 _ _ t985 _ _ l0 true _ ?side1 ?side2 ?side3 ?side4 A92.out).mono ?_); (case side1 => repeat (first | exact (Kd.R_reads' HO_8.out).2.2 | (with_reducible refine Kd.C_alloc ?_ _) | (with_reducible refine Kd.C_drewN ?_ _) | (with_reducible refine Kd.C_drew ?_))); (case side2 => exact (Kd.R_reads' HO_8.out).2.1); (case side3 => repeat (first | exact (Kd.C_below HR0.out (zB HB)) | (with_reducible refine Kd.C_alloc ?_ _) | (with_reducible refine Kd.C_drewN ?_ _) | (with_reducible refine Kd.C_drew ?_))); (case side4 => exact HC0.out); rintro e w107 ⟨rfl, hb⟩; replace HO_7 := Aside0.mk (Kd.R_below (zR HO_7) hb); replace HO_8 := Aside0.mk (Kd.R_below (zR HO_8) hb); replace HO_9 := Aside0.mk (Kd.R_below (zR HO_9) hb); replace HO1003 := Aside0.mk (Kd.R_below (zR HO1003) hb); replace HO1007 := Aside0.mk (Kd.R_below (zR HO1007) hb); replace HO1010 := Aside0.mk (Kd.R_below (zR HO1010) hb); replace BK979 := Aside0.mk (blk_below (g := gb979) (o := .cells #[.bool a2_0, .int .u64 a2_1, .int .u64 a2_2] 36 (0, 0)) (zK BK979) hb); replace HB := Aside0.mk (below_step (zB HB) hb); (try clear hb); obtain ⟨Ao108, co108, eo108⟩ := Kd.R_slice HO_7.out; subst eo108) | (go_at_call 58; (with_reducible refine (addrset_Subset.calls kj33 _ _ l0 _ _ t982 true _ ?side1 ?side2 ?side3 ?side4 A94.out).mono ?_); (case side1 => repeat (first | exact (Kd.C_below HR0.out HB.out) | (with_reducible refine Kd.C_alloc ?_ _) | (with_reducible refine Kd.C_drewN ?_ _) | (with_reducible refine Kd.C_drew ?_))); (case side2 => exact HC0.out); (case side3 => repeat (first | exact (Kd.R_reads' HO_7.out).2.2 | (with_reducible refine Kd.C_alloc ?_ _) | (with_reducible refine Kd.C_drewN ?_ _) | (with_reducible refine Kd.C_drew ?_))); (case side4 => exact (Kd.R_reads' HO_7.out).2.1); rintro e w109 ⟨rfl, hb⟩; replace HO_7 := Aside0.mk (Kd.R_below (zR HO_7) hb); replace HO_8 := Aside0.mk (Kd.R_below (zR HO_8) hb); replace HO_9 := Aside0.mk (Kd.R_below (zR HO_9) hb); replace HO1003 := Aside0.mk (Kd.R_below (zR HO1003) hb); replace HO1007 := Aside0.mk (Kd.R_below (zR HO1007) hb); replace HO1010 := Aside0.mk (Kd.R_below (zR HO1010) hb); replace BK979 := Aside0.mk (blk_below (g := gb979) (o := .cells #[.bool a2_0, .int .u64 a2_1, .int .u64 a2_2] 36 (0, 0)) (zK BK979) hb); replace HB := Aside0.mk (below_step (zB HB) hb); (try clear hb)) | (go_at_call 58; (with_reducible refine (addrset_Subset.calls kj33 _ _ l0 _ _ l1 t1014 _ ?side1 ?side2 ?side3 ?side4 A96.out).mono ?_); (case side1 => repeat (first | exact (Kd.C_below HR0.out HB.out) | (with_reducible refine Kd.C_alloc ?_ _) | (with_reducible refine Kd.C_drewN ?_ _) | (with_reducible refine Kd.C_drew ?_))); (case side2 => exact HC0.out); (case side3 => repeat (first | exact (Kd.C_below HR1.out HB.out) | (with_reducible refine Kd.C_alloc ?_ _) | (with_reducible refine Kd.C_drewN ?_ _) | (with_reducible refine Kd.C_drew ?_))); (case side4 => exact HC1.out); rintro e w110 ⟨rfl, hb⟩; replace HO_7 := Aside0.mk (Kd.R_below (zR HO_7) hb); replace HO_8 := Aside0.mk (Kd.R_below (zR HO_8) hb); replace HO_9 := Aside0.mk (Kd.R_below (zR HO_9) hb); replace HO1003 := Aside0.mk (Kd.R_below (zR HO1003) hb); replace HO1007 := Aside0.mk (Kd.R_below (zR HO1007) hb); replace HO1010 := Aside0.mk (Kd.R_below (zR HO1010) hb); replace BK979 := Aside0.mk (blk_below (g := gb979) (o := .cells #[.bool a2_0, .int .u64 a2_1, .int .u64 a2_2] 36 (0, 0)) (zK BK979) hb); replace HB := Aside0.mk (below_step (zB HB) hb); (try clear hb)) | (go_at_call 36; (with_reducible refine (intrusionlaw07_awake.calls kj33  t1015 _ A98.out).mono ?_); rintro e w111 ⟨rfl, hb⟩; replace HO_7 := Aside0.mk (Kd.R_below (zR HO_7) hb); replace HO_8 := Aside0.mk (Kd.R_below (zR HO_8) hb); replace HO_9 := Aside0.mk (Kd.R_below (zR HO_9) hb); replace HO1003 := Aside0.mk (Kd.R_below (zR HO1003) hb); replace HO1007 := Aside0.mk (Kd.R_below (zR HO1007) hb); replace HO1010 := Aside0.mk (Kd.R_below (zR HO1010) hb); replace BK979 := Aside0.mk (blk_below (g := gb979) (o := .cells #[.bool a2_0, .int .u64 a2_1, .int .u64 a2_2] 36 (0, 0)) (zK BK979) hb); replace HB := Aside0.mk (below_step (zB HB) hb); (try clear hb)))
                     go_ret
                     exact ⟨by first | rfl | (simp [errW_none, errW_some] <;> rfl) | (simp [*, errW_none, errW_some] <;> rfl), by repeat (first | (with_reducible first | exact HB.out | apply below_alloc | apply pw_below_drewN | apply below_drew1 | refine below_set ?_ GE979.out) | exact HB.out)⟩
                   · rw [if_neg c97] at H
                     have c97b0 : (t1014 == ((t988.length : Int) == 0)) = false := by simpa using c97
                     (try (have c97b1 : decide (t1014 = ((t988.length : Int) == 0)) = false := by first | (simpa using c97) | exact decide_eq_true (Decidable.not_not.1 (fun hn => c97 (bne_iff_ne.2 hn))) | exact beq_iff_eq.2 (Decidable.not_not.1 (fun hn => c97 (bne_iff_ne.2 hn))) | exact decide_eq_false (bne_iff_ne.1 c97) | exact beq_eq_false_iff_ne.2 (bne_iff_ne.1 c97) | exact bne_iff_ne.1 c97))
                     (try (have c97b2 : (t1014 == ((t988.length : Int) == 0)) = false := by first | (simpa using c97) | exact decide_eq_true (Decidable.not_not.1 (fun hn => c97 (bne_iff_ne.2 hn))) | exact beq_iff_eq.2 (Decidable.not_not.1 (fun hn => c97 (bne_iff_ne.2 hn))) | exact decide_eq_false (bne_iff_ne.1 c97) | exact beq_eq_false_iff_ne.2 (bne_iff_ne.1 c97) | exact bne_iff_ne.1 c97))
                     (try (have c97b3 : ¬ (t1014 = ((t988.length : Int) == 0)) := by first | (simpa using c97) | exact decide_eq_true (Decidable.not_not.1 (fun hn => c97 (bne_iff_ne.2 hn))) | exact beq_iff_eq.2 (Decidable.not_not.1 (fun hn => c97 (bne_iff_ne.2 hn))) | exact decide_eq_false (bne_iff_ne.1 c97) | exact beq_eq_false_iff_ne.2 (bne_iff_ne.1 c97) | exact bne_iff_ne.1 c97))
                     clear c97
                     obtain rfl := Option.some.inj H
                     obtain ⟨Ao112, co112, eo112⟩ := Kd.R_slice HO_9.out
                     subst eo112
                     go_wp2_with (first | ((with_reducible refine gate_callee (f := 56) rfl ?_); refine goesL_ (some 76) rfl rfl Try.func56 (by kernel_rfl) rfl #[.slice A0 l0.length c0, .slice Ao112 t988.length co112] rfl (by (try simp only [List.map_toArray, List.map_cons, List.map_nil]); first | done | rfl | (simp only [List.length_drop, List.length_take]; rfl)) ?_; (with_reducible refine (addrset_Minus.calls kj33 _ _ l0 _ _ t988 t1001 _ ?side1 ?side2 ?side3 ?side4 A85.out).mono ?_); (case side1 => repeat (first | exact (Kd.C_below HR0.out HB.out) | (with_reducible refine Kd.C_alloc ?_ _) | (with_reducible refine Kd.C_drewN ?_ _) | (with_reducible refine Kd.C_drew ?_))); (case side2 => exact HC0.out); (case side3 => repeat (first | exact (Kd.R_reads' HO_9.out).2.2 | (with_reducible refine Kd.C_alloc ?_ _) | (with_reducible refine Kd.C_drewN ?_ _) | (with_reducible refine Kd.C_drew ?_))); (case side4 => exact (Kd.R_reads' HO_9.out).2.1); rintro e w113 ⟨v1002, rfl, ho0, hb⟩; refine ⟨_, rfl, ?_⟩; have HO1003 := Aside0.mk (Kd.R_lower (Kd.R_new' (Kd.R_new' (Kd.R_new' ho0 (Kd.R_lt (zR HO_7))) (Kd.R_lt (zR HO_8))) (Kd.R_lt (zR HO_9))) (below_size (zB HB))); replace HO_7 := Aside0.mk (Kd.R_elder' (zR HO_7) (Kd.R_base ho0) hb); replace HO_8 := Aside0.mk (Kd.R_elder' (zR HO_8) (Kd.R_base ho0) hb); replace HO_9 := Aside0.mk (Kd.R_elder' (zR HO_9) (Kd.R_base ho0) hb); replace BK979 := Aside0.mk (blk_below (g := gb979) (o := .cells #[.bool a2_0, .int .u64 a2_1, .int .u64 a2_2] 36 (0, 0)) (zK BK979) hb); replace HB := Aside0.mk (below_step (zB HB) hb); (try clear hb); (try clear ho0); obtain ⟨Ao114, co114, eo114⟩ := Kd.R_slice HO1003.out; subst eo114; obtain ⟨Ao115, co115, eo115⟩ := Kd.R_slice HO_8.out; subst eo115) | ((with_reducible refine gate_callee (f := 37) rfl ?_); refine goesL_ (some 78) rfl rfl Try.func37 (by kernel_rfl) rfl #[.slice Ao114 t1001.length co114, .slice Ao115 t985.length co115] rfl (by (try simp only [List.map_toArray, List.map_cons, List.map_nil]); first | done | rfl | (simp only [List.length_drop, List.length_take]; rfl)) ?_; (with_reducible refine (intrusionref07_Same.calls kj33 _ _ t1001 _ _ t985 true _ ?side1 ?side2 ?side3 ?side4 A86.out).mono ?_); (case side1 => repeat (first | exact (Kd.R_reads' HO1003.out).2.2 | (with_reducible refine Kd.C_alloc ?_ _) | (with_reducible refine Kd.C_drewN ?_ _) | (with_reducible refine Kd.C_drew ?_))); (case side2 => exact (Kd.R_reads' HO1003.out).2.1); (case side3 => repeat (first | exact (Kd.R_reads' HO_8.out).2.2 | (with_reducible refine Kd.C_alloc ?_ _) | (with_reducible refine Kd.C_drewN ?_ _) | (with_reducible refine Kd.C_drew ?_))); (case side4 => exact (Kd.R_reads' HO_8.out).2.1); rintro e w' ⟨rfl, ⟨nd, rfl⟩⟩; refine ⟨_, rfl, ?_⟩) | (go_at_call 52; (with_reducible refine (addrset_Union.calls kj33 (fun k_ => some k_ = (.slice Ao112 t988.length co112 : Value).ownBlock) _ _ t988 (fun k_ => some k_ = (.slice Ao115 t985.length co115 : Value).ownBlock) _ _ t985 t1005 _ ?side1 ?side2 A88.out).mono ?_); (case side1 => exact Kd.R_V (Kd.R_tight rfl (Kd.R_types (HO_9.out) BK979.out (by decide)))); (case side2 => exact Kd.R_V (Kd.R_tight rfl (Kd.R_types (HO_8.out) BK979.out (by decide)))); rintro e w116 ⟨v1006, rfl, ho0, hb⟩; have HO1007 := Aside0.mk (Kd.R_lower (Kd.R_new' (Kd.R_new' (Kd.R_new' (Kd.R_new' (Kd.R_mono (ok' := fun k_ => True) ho0 (fun _ hk_ => trivial)) (Kd.R_lt (zR HO_7))) (Kd.R_lt (zR HO_8))) (Kd.R_lt (zR HO_9))) (Kd.R_lt (zR HO1003))) (below_size (zB HB))); replace HO_7 := Aside0.mk (Kd.R_elder' (zR HO_7) (Kd.R_base ho0) hb); replace HO_8 := Aside0.mk (Kd.R_elder' (zR HO_8) (Kd.R_base ho0) hb); replace HO_9 := Aside0.mk (Kd.R_elder' (zR HO_9) (Kd.R_base ho0) hb); replace HO1003 := Aside0.mk (Kd.R_elder' (zR HO1003) (Kd.R_base ho0) hb); replace BK979 := Aside0.mk (blk_below (g := gb979) (o := .cells #[.bool a2_0, .int .u64 a2_1, .int .u64 a2_2] 36 (0, 0)) (zK BK979) hb); replace HB := Aside0.mk (below_step (zB HB) hb); (try clear hb); (try clear ho0)) | (go_at_call 38; (with_reducible refine (addrset_Normal.calls kj33 _ _ l0 t1008 _ ?side1 ?side2 A89.out).mono ?_); (case side1 => repeat (first | exact (Kd.C_below HR0.out HB.out) | (with_reducible refine Kd.C_alloc ?_ _) | (with_reducible refine Kd.C_drewN ?_ _) | (with_reducible refine Kd.C_drew ?_))); (case side2 => exact HC0.out); rintro e w117 ⟨v1009, rfl, ho0, hb⟩; have HO1010 := Aside0.mk (Kd.R_lower (Kd.R_new' (Kd.R_new' (Kd.R_new' (Kd.R_new' (Kd.R_new' ho0 (Kd.R_lt (zR HO_7))) (Kd.R_lt (zR HO_8))) (Kd.R_lt (zR HO_9))) (Kd.R_lt (zR HO1003))) (Kd.R_lt (zR HO1007))) (below_size (zB HB))); replace HO_7 := Aside0.mk (Kd.R_elder' (zR HO_7) (Kd.R_base ho0) hb); replace HO_8 := Aside0.mk (Kd.R_elder' (zR HO_8) (Kd.R_base ho0) hb); replace HO_9 := Aside0.mk (Kd.R_elder' (zR HO_9) (Kd.R_base ho0) hb); replace HO1003 := Aside0.mk (Kd.R_elder' (zR HO1003) (Kd.R_base ho0) hb); replace HO1007 := Aside0.mk (Kd.R_elder' (zR HO1007) (Kd.R_base ho0) hb); replace BK979 := Aside0.mk (blk_below (g := gb979) (o := .cells #[.bool a2_0, .int .u64 a2_1, .int .u64 a2_2] 36 (0, 0)) (zK BK979) hb); replace HB := Aside0.mk (below_step (zB HB) hb); (try clear hb); (try clear ho0); obtain ⟨Ao118, co118, eo118⟩ := Kd.R_slice HO1007.out; subst eo118; obtain ⟨Ao119, co119, eo119⟩ := Kd.R_slice HO1010.out; subst eo119) | (go_at_call 37; (with_reducible refine (intrusionref07_Same.calls kj33 _ _ t1005 _ _ t1008 true _ ?side1 ?side2 ?side3 ?side4 A90.out).mono ?_); (case side1 => repeat (first | exact (Kd.R_reads' HO1007.out).2.2 | (with_reducible refine Kd.C_alloc ?_ _) | (with_reducible refine Kd.C_drewN ?_ _) | (with_reducible refine Kd.C_drew ?_))); (case side2 => exact (Kd.R_reads' HO1007.out).2.1); (case side3 => repeat (first | exact (Kd.R_reads' HO1010.out).2.2 | (with_reducible refine Kd.C_alloc ?_ _) | (with_reducible refine Kd.C_drewN ?_ _) | (with_reducible refine Kd.C_drew ?_))); (case side4 => exact (Kd.R_reads' HO1010.out).2.1); rintro e w' ⟨rfl, ⟨nd, rfl⟩⟩) | (go_at_call 58; (with_reducible refine (addrset_Subset.calls kj33 _ _ t985 _ _ l0 true _ ?side1 ?side2 ?side3 ?side4 A92.out).mono ?_); (case side1 => repeat (first | exact (Kd.R_reads' HO_8.out).2.2 | (with_reducible refine Kd.C_alloc ?_ _) | (with_reducible refine Kd.C_drewN ?_ _) | (with_reducible refine Kd.C_drew ?_))); (case side2 => exact (Kd.R_reads' HO_8.out).2.1); (case side3 => repeat (first | exact (Kd.C_below HR0.out (zB HB)) | (with_reducible refine Kd.C_alloc ?_ _) | (with_reducible refine Kd.C_drewN ?_ _) | (with_reducible refine Kd.C_drew ?_))); (case side4 => exact HC0.out); rintro e w120 ⟨rfl, hb⟩; replace HO_7 := Aside0.mk (Kd.R_below (zR HO_7) hb); replace HO_8 := Aside0.mk (Kd.R_below (zR HO_8) hb); replace HO_9 := Aside0.mk (Kd.R_below (zR HO_9) hb); replace HO1003 := Aside0.mk (Kd.R_below (zR HO1003) hb); replace HO1007 := Aside0.mk (Kd.R_below (zR HO1007) hb); replace HO1010 := Aside0.mk (Kd.R_below (zR HO1010) hb); replace BK979 := Aside0.mk (blk_below (g := gb979) (o := .cells #[.bool a2_0, .int .u64 a2_1, .int .u64 a2_2] 36 (0, 0)) (zK BK979) hb); replace HB := Aside0.mk (below_step (zB HB) hb); (try clear hb); obtain ⟨Ao121, co121, eo121⟩ := Kd.R_slice HO_7.out; subst eo121) | (go_at_call 58; (with_reducible refine (addrset_Subset.calls kj33 _ _ l0 _ _ t982 true _ ?side1 ?side2 ?side3 ?side4 A94.out).mono ?_); (case side1 => repeat (first | exact (Kd.C_below HR0.out HB.out) | (with_reducible refine Kd.C_alloc ?_ _) | (with_reducible refine Kd.C_drewN ?_ _) | (with_reducible refine Kd.C_drew ?_))); (case side2 => exact HC0.out); (case side3 => repeat (first | exact (Kd.R_reads' HO_7.out).2.2 | (with_reducible refine Kd.C_alloc ?_ _) | (with_reducible refine Kd.C_drewN ?_ _) | (with_reducible refine Kd.C_drew ?_))); (case side4 => exact (Kd.R_reads' HO_7.out).2.1); rintro e w122 ⟨rfl, hb⟩; replace HO_7 := Aside0.mk (Kd.R_below (zR HO_7) hb); replace HO_8 := Aside0.mk (Kd.R_below (zR HO_8) hb); replace HO_9 := Aside0.mk (Kd.R_below (zR HO_9) hb); replace HO1003 := Aside0.mk (Kd.R_below (zR HO1003) hb); replace HO1007 := Aside0.mk (Kd.R_below (zR HO1007) hb); replace HO1010 := Aside0.mk (Kd.R_below (zR HO1010) hb); replace BK979 := Aside0.mk (blk_below (g := gb979) (o := .cells #[.bool a2_0, .int .u64 a2_1, .int .u64 a2_2] 36 (0, 0)) (zK BK979) hb); replace HB := Aside0.mk (below_step (zB HB) hb); (try clear hb)) | (go_at_call 58; (with_reducible refine (addrset_Subset.calls kj33 _ _ l0 _ _ l1 t1014 _ ?side1 ?side2 ?side3 ?side4 A96.out).mono ?_); (case side1 => repeat (first | exact (Kd.C_below HR0.out HB.out) | (with_reducible refine Kd.C_alloc ?_ _) | (with_reducible refine Kd.C_drewN ?_ _) | (with_reducible refine Kd.C_drew ?_))); (case side2 => exact HC0.out); (case side3 => repeat (first | exact (Kd.C_below HR1.out HB.out) | (with_reducible refine Kd.C_alloc ?_ _) | (with_reducible refine Kd.C_drewN ?_ _) | (with_reducible refine Kd.C_drew ?_))); (case side4 => exact HC1.out); rintro e w123 ⟨rfl, hb⟩; replace HO_7 := Aside0.mk (Kd.R_below (zR HO_7) hb); replace HO_8 := Aside0.mk (Kd.R_below (zR HO_8) hb); replace HO_9 := Aside0.mk (Kd.R_below (zR HO_9) hb); replace HO1003 := Aside0.mk (Kd.R_below (zR HO1003) hb); replace HO1007 := Aside0.mk (Kd.R_below (zR HO1007) hb); replace HO1010 := Aside0.mk (Kd.R_below (zR HO1010) hb); replace BK979 := Aside0.mk (blk_below (g := gb979) (o := .cells #[.bool a2_0, .int .u64 a2_1, .int .u64 a2_2] 36 (0, 0)) (zK BK979) hb); replace HB := Aside0.mk (below_step (zB HB) hb); (try clear hb)))
                     go_ret
                     exact ⟨by first | rfl | (simp [errW_none, errW_some] <;> rfl) | (simp [*, errW_none, errW_some] <;> rfl), by repeat (first | (with_reducible first | exact HB.out | apply below_alloc | apply pw_below_drewN | apply below_drew1 | refine below_set ?_ GE979.out) | exact HB.out)⟩
                 · replace c95 := Bool.eq_false_iff.mpr c95
                   subst c95
                   rw [if_neg zF] at H
                   obtain rfl := Option.some.inj H
                   obtain ⟨Ao124, co124, eo124⟩ := Kd.R_slice HO_9.out
                   subst eo124
                   go_wp2_with (first | ((with_reducible refine gate_callee (f := 56) rfl ?_); refine goesL_ (some 76) rfl rfl Try.func56 (by kernel_rfl) rfl #[.slice A0 l0.length c0, .slice Ao124 t988.length co124] rfl (by (try simp only [List.map_toArray, List.map_cons, List.map_nil]); first | done | rfl | (simp only [List.length_drop, List.length_take]; rfl)) ?_; (with_reducible refine (addrset_Minus.calls kj33 _ _ l0 _ _ t988 t1001 _ ?side1 ?side2 ?side3 ?side4 A85.out).mono ?_); (case side1 => repeat (first | exact (Kd.C_below HR0.out HB.out) | (with_reducible refine Kd.C_alloc ?_ _) | (with_reducible refine Kd.C_drewN ?_ _) | (with_reducible refine Kd.C_drew ?_))); (case side2 => exact HC0.out); (case side3 => repeat (first | exact (Kd.R_reads' HO_9.out).2.2 | (with_reducible refine Kd.C_alloc ?_ _) | (with_reducible refine Kd.C_drewN ?_ _) | (with_reducible refine Kd.C_drew ?_))); (case side4 => exact (Kd.R_reads' HO_9.out).2.1); rintro e w125 ⟨v1002, rfl, ho0, hb⟩; refine ⟨_, rfl, ?_⟩; have HO1003 := Aside0.mk (Kd.R_lower (Kd.R_new' (Kd.R_new' (Kd.R_new' ho0 (Kd.R_lt (zR HO_7))) (Kd.R_lt (zR HO_8))) (Kd.R_lt (zR HO_9))) (below_size (zB HB))); replace HO_7 := Aside0.mk (Kd.R_elder' (zR HO_7) (Kd.R_base ho0) hb); replace HO_8 := Aside0.mk (Kd.R_elder' (zR HO_8) (Kd.R_base ho0) hb); replace HO_9 := Aside0.mk (Kd.R_elder' (zR HO_9) (Kd.R_base ho0) hb); replace BK979 := Aside0.mk (blk_below (g := gb979) (o := .cells #[.bool a2_0, .int .u64 a2_1, .int .u64 a2_2] 36 (0, 0)) (zK BK979) hb); replace HB := Aside0.mk (below_step (zB HB) hb); (try clear hb); (try clear ho0); obtain ⟨Ao126, co126, eo126⟩ := Kd.R_slice HO1003.out; subst eo126; obtain ⟨Ao127, co127, eo127⟩ := Kd.R_slice HO_8.out; subst eo127) | ((with_reducible refine gate_callee (f := 37) rfl ?_); refine goesL_ (some 78) rfl rfl Try.func37 (by kernel_rfl) rfl #[.slice Ao126 t1001.length co126, .slice Ao127 t985.length co127] rfl (by (try simp only [List.map_toArray, List.map_cons, List.map_nil]); first | done | rfl | (simp only [List.length_drop, List.length_take]; rfl)) ?_; (with_reducible refine (intrusionref07_Same.calls kj33 _ _ t1001 _ _ t985 true _ ?side1 ?side2 ?side3 ?side4 A86.out).mono ?_); (case side1 => repeat (first | exact (Kd.R_reads' HO1003.out).2.2 | (with_reducible refine Kd.C_alloc ?_ _) | (with_reducible refine Kd.C_drewN ?_ _) | (with_reducible refine Kd.C_drew ?_))); (case side2 => exact (Kd.R_reads' HO1003.out).2.1); (case side3 => repeat (first | exact (Kd.R_reads' HO_8.out).2.2 | (with_reducible refine Kd.C_alloc ?_ _) | (with_reducible refine Kd.C_drewN ?_ _) | (with_reducible refine Kd.C_drew ?_))); (case side4 => exact (Kd.R_reads' HO_8.out).2.1); rintro e w' ⟨rfl, ⟨nd, rfl⟩⟩; refine ⟨_, rfl, ?_⟩) | (go_at_call 52; (with_reducible refine (addrset_Union.calls kj33 (fun k_ => some k_ = (.slice Ao124 t988.length co124 : Value).ownBlock) _ _ t988 (fun k_ => some k_ = (.slice Ao127 t985.length co127 : Value).ownBlock) _ _ t985 t1005 _ ?side1 ?side2 A88.out).mono ?_); (case side1 => exact Kd.R_V (Kd.R_tight rfl (Kd.R_types (HO_9.out) BK979.out (by decide)))); (case side2 => exact Kd.R_V (Kd.R_tight rfl (Kd.R_types (HO_8.out) BK979.out (by decide)))); rintro e w128 ⟨v1006, rfl, ho0, hb⟩; have HO1007 := Aside0.mk (Kd.R_lower (Kd.R_new' (Kd.R_new' (Kd.R_new' (Kd.R_new' (Kd.R_mono (ok' := fun k_ => True) ho0 (fun _ hk_ => trivial)) (Kd.R_lt (zR HO_7))) (Kd.R_lt (zR HO_8))) (Kd.R_lt (zR HO_9))) (Kd.R_lt (zR HO1003))) (below_size (zB HB))); replace HO_7 := Aside0.mk (Kd.R_elder' (zR HO_7) (Kd.R_base ho0) hb); replace HO_8 := Aside0.mk (Kd.R_elder' (zR HO_8) (Kd.R_base ho0) hb); replace HO_9 := Aside0.mk (Kd.R_elder' (zR HO_9) (Kd.R_base ho0) hb); replace HO1003 := Aside0.mk (Kd.R_elder' (zR HO1003) (Kd.R_base ho0) hb); replace BK979 := Aside0.mk (blk_below (g := gb979) (o := .cells #[.bool a2_0, .int .u64 a2_1, .int .u64 a2_2] 36 (0, 0)) (zK BK979) hb); replace HB := Aside0.mk (below_step (zB HB) hb); (try clear hb); (try clear ho0)) | (go_at_call 38; (with_reducible refine (addrset_Normal.calls kj33 _ _ l0 t1008 _ ?side1 ?side2 A89.out).mono ?_); (case side1 => repeat (first | exact (Kd.C_below HR0.out HB.out) | (with_reducible refine Kd.C_alloc ?_ _) | (with_reducible refine Kd.C_drewN ?_ _) | (with_reducible refine Kd.C_drew ?_))); (case side2 => exact HC0.out); rintro e w129 ⟨v1009, rfl, ho0, hb⟩; have HO1010 := Aside0.mk (Kd.R_lower (Kd.R_new' (Kd.R_new' (Kd.R_new' (Kd.R_new' (Kd.R_new' ho0 (Kd.R_lt (zR HO_7))) (Kd.R_lt (zR HO_8))) (Kd.R_lt (zR HO_9))) (Kd.R_lt (zR HO1003))) (Kd.R_lt (zR HO1007))) (below_size (zB HB))); replace HO_7 := Aside0.mk (Kd.R_elder' (zR HO_7) (Kd.R_base ho0) hb); replace HO_8 := Aside0.mk (Kd.R_elder' (zR HO_8) (Kd.R_base ho0) hb); replace HO_9 := Aside0.mk (Kd.R_elder' (zR HO_9) (Kd.R_base ho0) hb); replace HO1003 := Aside0.mk (Kd.R_elder' (zR HO1003) (Kd.R_base ho0) hb); replace HO1007 := Aside0.mk (Kd.R_elder' (zR HO1007) (Kd.R_base ho0) hb); replace BK979 := Aside0.mk (blk_below (g := gb979) (o := .cells #[.bool a2_0, .int .u64 a2_1, .int .u64 a2_2] 36 (0, 0)) (zK BK979) hb); replace HB := Aside0.mk (below_step (zB HB) hb); (try clear hb); (try clear ho0); obtain ⟨Ao130, co130, eo130⟩ := Kd.R_slice HO1007.out; subst eo130; obtain ⟨Ao131, co131, eo131⟩ := Kd.R_slice HO1010.out; subst eo131) | (go_at_call 37; (with_reducible refine (intrusionref07_Same.calls kj33 _ _ t1005 _ _ t1008 true _ ?side1 ?side2 ?side3 ?side4 A90.out).mono ?_); (case side1 => repeat (first | exact (Kd.R_reads' HO1007.out).2.2 | (with_reducible refine Kd.C_alloc ?_ _) | (with_reducible refine Kd.C_drewN ?_ _) | (with_reducible refine Kd.C_drew ?_))); (case side2 => exact (Kd.R_reads' HO1007.out).2.1); (case side3 => repeat (first | exact (Kd.R_reads' HO1010.out).2.2 | (with_reducible refine Kd.C_alloc ?_ _) | (with_reducible refine Kd.C_drewN ?_ _) | (with_reducible refine Kd.C_drew ?_))); (case side4 => exact (Kd.R_reads' HO1010.out).2.1); rintro e w' ⟨rfl, ⟨nd, rfl⟩⟩) | (go_at_call 58; (with_reducible refine (addrset_Subset.calls kj33 _ _ t985 _ _ l0 true _ ?side1 ?side2 ?side3 ?side4 A92.out).mono ?_); (case side1 => repeat (first | exact (Kd.R_reads' HO_8.out).2.2 | (with_reducible refine Kd.C_alloc ?_ _) | (with_reducible refine Kd.C_drewN ?_ _) | (with_reducible refine Kd.C_drew ?_))); (case side2 => exact (Kd.R_reads' HO_8.out).2.1); (case side3 => repeat (first | exact (Kd.C_below HR0.out (zB HB)) | (with_reducible refine Kd.C_alloc ?_ _) | (with_reducible refine Kd.C_drewN ?_ _) | (with_reducible refine Kd.C_drew ?_))); (case side4 => exact HC0.out); rintro e w132 ⟨rfl, hb⟩; replace HO_7 := Aside0.mk (Kd.R_below (zR HO_7) hb); replace HO_8 := Aside0.mk (Kd.R_below (zR HO_8) hb); replace HO_9 := Aside0.mk (Kd.R_below (zR HO_9) hb); replace HO1003 := Aside0.mk (Kd.R_below (zR HO1003) hb); replace HO1007 := Aside0.mk (Kd.R_below (zR HO1007) hb); replace HO1010 := Aside0.mk (Kd.R_below (zR HO1010) hb); replace BK979 := Aside0.mk (blk_below (g := gb979) (o := .cells #[.bool a2_0, .int .u64 a2_1, .int .u64 a2_2] 36 (0, 0)) (zK BK979) hb); replace HB := Aside0.mk (below_step (zB HB) hb); (try clear hb); obtain ⟨Ao133, co133, eo133⟩ := Kd.R_slice HO_7.out; subst eo133) | (go_at_call 58; (with_reducible refine (addrset_Subset.calls kj33 _ _ l0 _ _ t982 false _ ?side1 ?side2 ?side3 ?side4 A94.out).mono ?_); (case side1 => repeat (first | exact (Kd.C_below HR0.out HB.out) | (with_reducible refine Kd.C_alloc ?_ _) | (with_reducible refine Kd.C_drewN ?_ _) | (with_reducible refine Kd.C_drew ?_))); (case side2 => exact HC0.out); (case side3 => repeat (first | exact (Kd.R_reads' HO_7.out).2.2 | (with_reducible refine Kd.C_alloc ?_ _) | (with_reducible refine Kd.C_drewN ?_ _) | (with_reducible refine Kd.C_drew ?_))); (case side4 => exact (Kd.R_reads' HO_7.out).2.1); rintro e w134 ⟨rfl, hb⟩; replace HO_7 := Aside0.mk (Kd.R_below (zR HO_7) hb); replace HO_8 := Aside0.mk (Kd.R_below (zR HO_8) hb); replace HO_9 := Aside0.mk (Kd.R_below (zR HO_9) hb); replace HO1003 := Aside0.mk (Kd.R_below (zR HO1003) hb); replace HO1007 := Aside0.mk (Kd.R_below (zR HO1007) hb); replace HO1010 := Aside0.mk (Kd.R_below (zR HO1010) hb); replace BK979 := Aside0.mk (blk_below (g := gb979) (o := .cells #[.bool a2_0, .int .u64 a2_1, .int .u64 a2_2] 36 (0, 0)) (zK BK979) hb); replace HB := Aside0.mk (below_step (zB HB) hb); (try clear hb)))
                   go_ret
                   exact ⟨by first | rfl | (simp [errW_none, errW_some] <;> rfl) | (simp [*, errW_none, errW_some] <;> rfl), by repeat (first | (with_reducible first | exact HB.out | apply below_alloc | apply pw_below_drewN | apply below_drew1 | refine below_set ?_ GE979.out) | exact HB.out)⟩
               · replace c93 := Bool.eq_false_iff.mpr c93
                 subst c93
                 rw [if_neg zF] at H
                 obtain rfl := Option.some.inj H
                 obtain ⟨Ao135, co135, eo135⟩ := Kd.R_slice HO_9.out
                 subst eo135
                 go_wp2_with (first | ((with_reducible refine gate_callee (f := 56) rfl ?_); refine goesL_ (some 76) rfl rfl Try.func56 (by kernel_rfl) rfl #[.slice A0 l0.length c0, .slice Ao135 t988.length co135] rfl (by (try simp only [List.map_toArray, List.map_cons, List.map_nil]); first | done | rfl | (simp only [List.length_drop, List.length_take]; rfl)) ?_; (with_reducible refine (addrset_Minus.calls kj33 _ _ l0 _ _ t988 t1001 _ ?side1 ?side2 ?side3 ?side4 A85.out).mono ?_); (case side1 => repeat (first | exact (Kd.C_below HR0.out HB.out) | (with_reducible refine Kd.C_alloc ?_ _) | (with_reducible refine Kd.C_drewN ?_ _) | (with_reducible refine Kd.C_drew ?_))); (case side2 => exact HC0.out); (case side3 => repeat (first | exact (Kd.R_reads' HO_9.out).2.2 | (with_reducible refine Kd.C_alloc ?_ _) | (with_reducible refine Kd.C_drewN ?_ _) | (with_reducible refine Kd.C_drew ?_))); (case side4 => exact (Kd.R_reads' HO_9.out).2.1); rintro e w136 ⟨v1002, rfl, ho0, hb⟩; refine ⟨_, rfl, ?_⟩; have HO1003 := Aside0.mk (Kd.R_lower (Kd.R_new' (Kd.R_new' (Kd.R_new' ho0 (Kd.R_lt (zR HO_7))) (Kd.R_lt (zR HO_8))) (Kd.R_lt (zR HO_9))) (below_size (zB HB))); replace HO_7 := Aside0.mk (Kd.R_elder' (zR HO_7) (Kd.R_base ho0) hb); replace HO_8 := Aside0.mk (Kd.R_elder' (zR HO_8) (Kd.R_base ho0) hb); replace HO_9 := Aside0.mk (Kd.R_elder' (zR HO_9) (Kd.R_base ho0) hb); replace BK979 := Aside0.mk (blk_below (g := gb979) (o := .cells #[.bool a2_0, .int .u64 a2_1, .int .u64 a2_2] 36 (0, 0)) (zK BK979) hb); replace HB := Aside0.mk (below_step (zB HB) hb); (try clear hb); (try clear ho0); obtain ⟨Ao137, co137, eo137⟩ := Kd.R_slice HO1003.out; subst eo137; obtain ⟨Ao138, co138, eo138⟩ := Kd.R_slice HO_8.out; subst eo138) | ((with_reducible refine gate_callee (f := 37) rfl ?_); refine goesL_ (some 78) rfl rfl Try.func37 (by kernel_rfl) rfl #[.slice Ao137 t1001.length co137, .slice Ao138 t985.length co138] rfl (by (try simp only [List.map_toArray, List.map_cons, List.map_nil]); first | done | rfl | (simp only [List.length_drop, List.length_take]; rfl)) ?_; (with_reducible refine (intrusionref07_Same.calls kj33 _ _ t1001 _ _ t985 true _ ?side1 ?side2 ?side3 ?side4 A86.out).mono ?_); (case side1 => repeat (first | exact (Kd.R_reads' HO1003.out).2.2 | (with_reducible refine Kd.C_alloc ?_ _) | (with_reducible refine Kd.C_drewN ?_ _) | (with_reducible refine Kd.C_drew ?_))); (case side2 => exact (Kd.R_reads' HO1003.out).2.1); (case side3 => repeat (first | exact (Kd.R_reads' HO_8.out).2.2 | (with_reducible refine Kd.C_alloc ?_ _) | (with_reducible refine Kd.C_drewN ?_ _) | (with_reducible refine Kd.C_drew ?_))); (case side4 => exact (Kd.R_reads' HO_8.out).2.1); rintro e w' ⟨rfl, ⟨nd, rfl⟩⟩; refine ⟨_, rfl, ?_⟩) | (go_at_call 52; (with_reducible refine (addrset_Union.calls kj33 (fun k_ => some k_ = (.slice Ao135 t988.length co135 : Value).ownBlock) _ _ t988 (fun k_ => some k_ = (.slice Ao138 t985.length co138 : Value).ownBlock) _ _ t985 t1005 _ ?side1 ?side2 A88.out).mono ?_); (case side1 => exact Kd.R_V (Kd.R_tight rfl (Kd.R_types (HO_9.out) BK979.out (by decide)))); (case side2 => exact Kd.R_V (Kd.R_tight rfl (Kd.R_types (HO_8.out) BK979.out (by decide)))); rintro e w139 ⟨v1006, rfl, ho0, hb⟩; have HO1007 := Aside0.mk (Kd.R_lower (Kd.R_new' (Kd.R_new' (Kd.R_new' (Kd.R_new' (Kd.R_mono (ok' := fun k_ => True) ho0 (fun _ hk_ => trivial)) (Kd.R_lt (zR HO_7))) (Kd.R_lt (zR HO_8))) (Kd.R_lt (zR HO_9))) (Kd.R_lt (zR HO1003))) (below_size (zB HB))); replace HO_7 := Aside0.mk (Kd.R_elder' (zR HO_7) (Kd.R_base ho0) hb); replace HO_8 := Aside0.mk (Kd.R_elder' (zR HO_8) (Kd.R_base ho0) hb); replace HO_9 := Aside0.mk (Kd.R_elder' (zR HO_9) (Kd.R_base ho0) hb); replace HO1003 := Aside0.mk (Kd.R_elder' (zR HO1003) (Kd.R_base ho0) hb); replace BK979 := Aside0.mk (blk_below (g := gb979) (o := .cells #[.bool a2_0, .int .u64 a2_1, .int .u64 a2_2] 36 (0, 0)) (zK BK979) hb); replace HB := Aside0.mk (below_step (zB HB) hb); (try clear hb); (try clear ho0)) | (go_at_call 38; (with_reducible refine (addrset_Normal.calls kj33 _ _ l0 t1008 _ ?side1 ?side2 A89.out).mono ?_); (case side1 => repeat (first | exact (Kd.C_below HR0.out HB.out) | (with_reducible refine Kd.C_alloc ?_ _) | (with_reducible refine Kd.C_drewN ?_ _) | (with_reducible refine Kd.C_drew ?_))); (case side2 => exact HC0.out); rintro e w140 ⟨v1009, rfl, ho0, hb⟩; have HO1010 := Aside0.mk (Kd.R_lower (Kd.R_new' (Kd.R_new' (Kd.R_new' (Kd.R_new' (Kd.R_new' ho0 (Kd.R_lt (zR HO_7))) (Kd.R_lt (zR HO_8))) (Kd.R_lt (zR HO_9))) (Kd.R_lt (zR HO1003))) (Kd.R_lt (zR HO1007))) (below_size (zB HB))); replace HO_7 := Aside0.mk (Kd.R_elder' (zR HO_7) (Kd.R_base ho0) hb); replace HO_8 := Aside0.mk (Kd.R_elder' (zR HO_8) (Kd.R_base ho0) hb); replace HO_9 := Aside0.mk (Kd.R_elder' (zR HO_9) (Kd.R_base ho0) hb); replace HO1003 := Aside0.mk (Kd.R_elder' (zR HO1003) (Kd.R_base ho0) hb); replace HO1007 := Aside0.mk (Kd.R_elder' (zR HO1007) (Kd.R_base ho0) hb); replace BK979 := Aside0.mk (blk_below (g := gb979) (o := .cells #[.bool a2_0, .int .u64 a2_1, .int .u64 a2_2] 36 (0, 0)) (zK BK979) hb); replace HB := Aside0.mk (below_step (zB HB) hb); (try clear hb); (try clear ho0); obtain ⟨Ao141, co141, eo141⟩ := Kd.R_slice HO1007.out; subst eo141; obtain ⟨Ao142, co142, eo142⟩ := Kd.R_slice HO1010.out; subst eo142) | (go_at_call 37; (with_reducible refine (intrusionref07_Same.calls kj33 _ _ t1005 _ _ t1008 true _ ?side1 ?side2 ?side3 ?side4 A90.out).mono ?_); (case side1 => repeat (first | exact (Kd.R_reads' HO1007.out).2.2 | (with_reducible refine Kd.C_alloc ?_ _) | (with_reducible refine Kd.C_drewN ?_ _) | (with_reducible refine Kd.C_drew ?_))); (case side2 => exact (Kd.R_reads' HO1007.out).2.1); (case side3 => repeat (first | exact (Kd.R_reads' HO1010.out).2.2 | (with_reducible refine Kd.C_alloc ?_ _) | (with_reducible refine Kd.C_drewN ?_ _) | (with_reducible refine Kd.C_drew ?_))); (case side4 => exact (Kd.R_reads' HO1010.out).2.1); rintro e w' ⟨rfl, ⟨nd, rfl⟩⟩) | (go_at_call 58; (with_reducible refine (addrset_Subset.calls kj33 _ _ t985 _ _ l0 false _ ?side1 ?side2 ?side3 ?side4 A92.out).mono ?_); (case side1 => repeat (first | exact (Kd.R_reads' HO_8.out).2.2 | (with_reducible refine Kd.C_alloc ?_ _) | (with_reducible refine Kd.C_drewN ?_ _) | (with_reducible refine Kd.C_drew ?_))); (case side2 => exact (Kd.R_reads' HO_8.out).2.1); (case side3 => repeat (first | exact (Kd.C_below HR0.out (zB HB)) | (with_reducible refine Kd.C_alloc ?_ _) | (with_reducible refine Kd.C_drewN ?_ _) | (with_reducible refine Kd.C_drew ?_))); (case side4 => exact HC0.out); rintro e w143 ⟨rfl, hb⟩; replace HO_7 := Aside0.mk (Kd.R_below (zR HO_7) hb); replace HO_8 := Aside0.mk (Kd.R_below (zR HO_8) hb); replace HO_9 := Aside0.mk (Kd.R_below (zR HO_9) hb); replace HO1003 := Aside0.mk (Kd.R_below (zR HO1003) hb); replace HO1007 := Aside0.mk (Kd.R_below (zR HO1007) hb); replace HO1010 := Aside0.mk (Kd.R_below (zR HO1010) hb); replace BK979 := Aside0.mk (blk_below (g := gb979) (o := .cells #[.bool a2_0, .int .u64 a2_1, .int .u64 a2_2] 36 (0, 0)) (zK BK979) hb); replace HB := Aside0.mk (below_step (zB HB) hb); (try clear hb)))
                 go_ret
                 exact ⟨by first | rfl | (simp [errW_none, errW_some] <;> rfl) | (simp [*, errW_none, errW_some] <;> rfl), by repeat (first | (with_reducible first | exact HB.out | apply below_alloc | apply pw_below_drewN | apply below_drew1 | refine below_set ?_ GE979.out) | exact HB.out)⟩
             · replace c91 := Bool.eq_false_iff.mpr c91
               subst c91
               rw [if_neg zF] at H
               obtain rfl := Option.some.inj H
               obtain ⟨Ao144, co144, eo144⟩ := Kd.R_slice HO_9.out
               subst eo144
               go_wp2_with (first | ((with_reducible refine gate_callee (f := 56) rfl ?_); refine goesL_ (some 76) rfl rfl Try.func56 (by kernel_rfl) rfl #[.slice A0 l0.length c0, .slice Ao144 t988.length co144] rfl (by (try simp only [List.map_toArray, List.map_cons, List.map_nil]); first | done | rfl | (simp only [List.length_drop, List.length_take]; rfl)) ?_; (with_reducible refine (addrset_Minus.calls kj33 _ _ l0 _ _ t988 t1001 _ ?side1 ?side2 ?side3 ?side4 A85.out).mono ?_); (case side1 => repeat (first | exact (Kd.C_below HR0.out HB.out) | (with_reducible refine Kd.C_alloc ?_ _) | (with_reducible refine Kd.C_drewN ?_ _) | (with_reducible refine Kd.C_drew ?_))); (case side2 => exact HC0.out); (case side3 => repeat (first | exact (Kd.R_reads' HO_9.out).2.2 | (with_reducible refine Kd.C_alloc ?_ _) | (with_reducible refine Kd.C_drewN ?_ _) | (with_reducible refine Kd.C_drew ?_))); (case side4 => exact (Kd.R_reads' HO_9.out).2.1); rintro e w145 ⟨v1002, rfl, ho0, hb⟩; refine ⟨_, rfl, ?_⟩; have HO1003 := Aside0.mk (Kd.R_lower (Kd.R_new' (Kd.R_new' (Kd.R_new' ho0 (Kd.R_lt (zR HO_7))) (Kd.R_lt (zR HO_8))) (Kd.R_lt (zR HO_9))) (below_size (zB HB))); replace HO_7 := Aside0.mk (Kd.R_elder' (zR HO_7) (Kd.R_base ho0) hb); replace HO_8 := Aside0.mk (Kd.R_elder' (zR HO_8) (Kd.R_base ho0) hb); replace HO_9 := Aside0.mk (Kd.R_elder' (zR HO_9) (Kd.R_base ho0) hb); replace BK979 := Aside0.mk (blk_below (g := gb979) (o := .cells #[.bool a2_0, .int .u64 a2_1, .int .u64 a2_2] 36 (0, 0)) (zK BK979) hb); replace HB := Aside0.mk (below_step (zB HB) hb); (try clear hb); (try clear ho0); obtain ⟨Ao146, co146, eo146⟩ := Kd.R_slice HO1003.out; subst eo146; obtain ⟨Ao147, co147, eo147⟩ := Kd.R_slice HO_8.out; subst eo147) | ((with_reducible refine gate_callee (f := 37) rfl ?_); refine goesL_ (some 78) rfl rfl Try.func37 (by kernel_rfl) rfl #[.slice Ao146 t1001.length co146, .slice Ao147 t985.length co147] rfl (by (try simp only [List.map_toArray, List.map_cons, List.map_nil]); first | done | rfl | (simp only [List.length_drop, List.length_take]; rfl)) ?_; (with_reducible refine (intrusionref07_Same.calls kj33 _ _ t1001 _ _ t985 true _ ?side1 ?side2 ?side3 ?side4 A86.out).mono ?_); (case side1 => repeat (first | exact (Kd.R_reads' HO1003.out).2.2 | (with_reducible refine Kd.C_alloc ?_ _) | (with_reducible refine Kd.C_drewN ?_ _) | (with_reducible refine Kd.C_drew ?_))); (case side2 => exact (Kd.R_reads' HO1003.out).2.1); (case side3 => repeat (first | exact (Kd.R_reads' HO_8.out).2.2 | (with_reducible refine Kd.C_alloc ?_ _) | (with_reducible refine Kd.C_drewN ?_ _) | (with_reducible refine Kd.C_drew ?_))); (case side4 => exact (Kd.R_reads' HO_8.out).2.1); rintro e w' ⟨rfl, ⟨nd, rfl⟩⟩; refine ⟨_, rfl, ?_⟩) | (go_at_call 52; (with_reducible refine (addrset_Union.calls kj33 (fun k_ => some k_ = (.slice Ao144 t988.length co144 : Value).ownBlock) _ _ t988 (fun k_ => some k_ = (.slice Ao147 t985.length co147 : Value).ownBlock) _ _ t985 t1005 _ ?side1 ?side2 A88.out).mono ?_); (case side1 => exact Kd.R_V (Kd.R_tight rfl (Kd.R_types (HO_9.out) BK979.out (by decide)))); (case side2 => exact Kd.R_V (Kd.R_tight rfl (Kd.R_types (HO_8.out) BK979.out (by decide)))); rintro e w148 ⟨v1006, rfl, ho0, hb⟩; have HO1007 := Aside0.mk (Kd.R_lower (Kd.R_new' (Kd.R_new' (Kd.R_new' (Kd.R_new' (Kd.R_mono (ok' := fun k_ => True) ho0 (fun _ hk_ => trivial)) (Kd.R_lt (zR HO_7))) (Kd.R_lt (zR HO_8))) (Kd.R_lt (zR HO_9))) (Kd.R_lt (zR HO1003))) (below_size (zB HB))); replace HO_7 := Aside0.mk (Kd.R_elder' (zR HO_7) (Kd.R_base ho0) hb); replace HO_8 := Aside0.mk (Kd.R_elder' (zR HO_8) (Kd.R_base ho0) hb); replace HO_9 := Aside0.mk (Kd.R_elder' (zR HO_9) (Kd.R_base ho0) hb); replace HO1003 := Aside0.mk (Kd.R_elder' (zR HO1003) (Kd.R_base ho0) hb); replace BK979 := Aside0.mk (blk_below (g := gb979) (o := .cells #[.bool a2_0, .int .u64 a2_1, .int .u64 a2_2] 36 (0, 0)) (zK BK979) hb); replace HB := Aside0.mk (below_step (zB HB) hb); (try clear hb); (try clear ho0)) | (go_at_call 38; (with_reducible refine (addrset_Normal.calls kj33 _ _ l0 t1008 _ ?side1 ?side2 A89.out).mono ?_); (case side1 => repeat (first | exact (Kd.C_below HR0.out HB.out) | (with_reducible refine Kd.C_alloc ?_ _) | (with_reducible refine Kd.C_drewN ?_ _) | (with_reducible refine Kd.C_drew ?_))); (case side2 => exact HC0.out); rintro e w149 ⟨v1009, rfl, ho0, hb⟩; have HO1010 := Aside0.mk (Kd.R_lower (Kd.R_new' (Kd.R_new' (Kd.R_new' (Kd.R_new' (Kd.R_new' ho0 (Kd.R_lt (zR HO_7))) (Kd.R_lt (zR HO_8))) (Kd.R_lt (zR HO_9))) (Kd.R_lt (zR HO1003))) (Kd.R_lt (zR HO1007))) (below_size (zB HB))); replace HO_7 := Aside0.mk (Kd.R_elder' (zR HO_7) (Kd.R_base ho0) hb); replace HO_8 := Aside0.mk (Kd.R_elder' (zR HO_8) (Kd.R_base ho0) hb); replace HO_9 := Aside0.mk (Kd.R_elder' (zR HO_9) (Kd.R_base ho0) hb); replace HO1003 := Aside0.mk (Kd.R_elder' (zR HO1003) (Kd.R_base ho0) hb); replace HO1007 := Aside0.mk (Kd.R_elder' (zR HO1007) (Kd.R_base ho0) hb); replace BK979 := Aside0.mk (blk_below (g := gb979) (o := .cells #[.bool a2_0, .int .u64 a2_1, .int .u64 a2_2] 36 (0, 0)) (zK BK979) hb); replace HB := Aside0.mk (below_step (zB HB) hb); (try clear hb); (try clear ho0); obtain ⟨Ao150, co150, eo150⟩ := Kd.R_slice HO1007.out; subst eo150; obtain ⟨Ao151, co151, eo151⟩ := Kd.R_slice HO1010.out; subst eo151) | (go_at_call 37; (with_reducible refine (intrusionref07_Same.calls kj33 _ _ t1005 _ _ t1008 false _ ?side1 ?side2 ?side3 ?side4 A90.out).mono ?_); (case side1 => repeat (first | exact (Kd.R_reads' HO1007.out).2.2 | (with_reducible refine Kd.C_alloc ?_ _) | (with_reducible refine Kd.C_drewN ?_ _) | (with_reducible refine Kd.C_drew ?_))); (case side2 => exact (Kd.R_reads' HO1007.out).2.1); (case side3 => repeat (first | exact (Kd.R_reads' HO1010.out).2.2 | (with_reducible refine Kd.C_alloc ?_ _) | (with_reducible refine Kd.C_drewN ?_ _) | (with_reducible refine Kd.C_drew ?_))); (case side4 => exact (Kd.R_reads' HO1010.out).2.1); rintro e w' ⟨rfl, ⟨nd, rfl⟩⟩))
               go_ret
               exact ⟨by first | rfl | (simp [errW_none, errW_some] <;> rfl) | (simp [*, errW_none, errW_some] <;> rfl), by repeat (first | (with_reducible first | exact HB.out | apply below_alloc | apply pw_below_drewN | apply below_drew1 | refine below_set ?_ GE979.out) | exact HB.out)⟩
           · replace c87 := Bool.eq_false_iff.mpr c87
             subst c87
             rw [if_neg zF] at H
             obtain rfl := Option.some.inj H
             obtain ⟨Ao152, co152, eo152⟩ := Kd.R_slice HO_9.out
             subst eo152
             go_wp2_with (first | ((with_reducible refine gate_callee (f := 56) rfl ?_); refine goesL_ (some 76) rfl rfl Try.func56 (by kernel_rfl) rfl #[.slice A0 l0.length c0, .slice Ao152 t988.length co152] rfl (by (try simp only [List.map_toArray, List.map_cons, List.map_nil]); first | done | rfl | (simp only [List.length_drop, List.length_take]; rfl)) ?_; (with_reducible refine (addrset_Minus.calls kj33 _ _ l0 _ _ t988 t1001 _ ?side1 ?side2 ?side3 ?side4 A85.out).mono ?_); (case side1 => repeat (first | exact (Kd.C_below HR0.out HB.out) | (with_reducible refine Kd.C_alloc ?_ _) | (with_reducible refine Kd.C_drewN ?_ _) | (with_reducible refine Kd.C_drew ?_))); (case side2 => exact HC0.out); (case side3 => repeat (first | exact (Kd.R_reads' HO_9.out).2.2 | (with_reducible refine Kd.C_alloc ?_ _) | (with_reducible refine Kd.C_drewN ?_ _) | (with_reducible refine Kd.C_drew ?_))); (case side4 => exact (Kd.R_reads' HO_9.out).2.1); rintro e w153 ⟨v1002, rfl, ho0, hb⟩; refine ⟨_, rfl, ?_⟩; have HO1003 := Aside0.mk (Kd.R_lower (Kd.R_new' (Kd.R_new' (Kd.R_new' ho0 (Kd.R_lt (zR HO_7))) (Kd.R_lt (zR HO_8))) (Kd.R_lt (zR HO_9))) (below_size (zB HB))); replace HO_7 := Aside0.mk (Kd.R_elder' (zR HO_7) (Kd.R_base ho0) hb); replace HO_8 := Aside0.mk (Kd.R_elder' (zR HO_8) (Kd.R_base ho0) hb); replace HO_9 := Aside0.mk (Kd.R_elder' (zR HO_9) (Kd.R_base ho0) hb); replace BK979 := Aside0.mk (blk_below (g := gb979) (o := .cells #[.bool a2_0, .int .u64 a2_1, .int .u64 a2_2] 36 (0, 0)) (zK BK979) hb); replace HB := Aside0.mk (below_step (zB HB) hb); (try clear hb); (try clear ho0); obtain ⟨Ao154, co154, eo154⟩ := Kd.R_slice HO1003.out; subst eo154; obtain ⟨Ao155, co155, eo155⟩ := Kd.R_slice HO_8.out; subst eo155) | ((with_reducible refine gate_callee (f := 37) rfl ?_); refine goesL_ (some 78) rfl rfl Try.func37 (by kernel_rfl) rfl #[.slice Ao154 t1001.length co154, .slice Ao155 t985.length co155] rfl (by (try simp only [List.map_toArray, List.map_cons, List.map_nil]); first | done | rfl | (simp only [List.length_drop, List.length_take]; rfl)) ?_; (with_reducible refine (intrusionref07_Same.calls kj33 _ _ t1001 _ _ t985 false _ ?side1 ?side2 ?side3 ?side4 A86.out).mono ?_); (case side1 => repeat (first | exact (Kd.R_reads' HO1003.out).2.2 | (with_reducible refine Kd.C_alloc ?_ _) | (with_reducible refine Kd.C_drewN ?_ _) | (with_reducible refine Kd.C_drew ?_))); (case side2 => exact (Kd.R_reads' HO1003.out).2.1); (case side3 => repeat (first | exact (Kd.R_reads' HO_8.out).2.2 | (with_reducible refine Kd.C_alloc ?_ _) | (with_reducible refine Kd.C_drewN ?_ _) | (with_reducible refine Kd.C_drew ?_))); (case side4 => exact (Kd.R_reads' HO_8.out).2.1); rintro e w' ⟨rfl, ⟨nd, rfl⟩⟩; refine ⟨_, rfl, ?_⟩))
             go_ret
             exact ⟨by first | rfl | (simp [errW_none, errW_some] <;> rfl) | (simp [*, errW_none, errW_some] <;> rfl), by repeat (first | (with_reducible first | exact HB.out | apply below_alloc | apply pw_below_drewN | apply below_drew1 | refine below_set ?_ GE979.out) | exact HB.out)⟩
 · replace c5 := Bool.eq_false_iff.mpr c5
   subst c5
   rw [if_neg zF] at H
   replace H := Option.bind_eq_some_iff.mp H
   obtain ⟨t981, A1560, H⟩ := H
   try dsimp only at H
   have A156 := Aside0.mk A1560
   clear A1560
   obtain rfl := Option.some.inj H
   go_enter Try.func13, Try.ntmps13
   go_wp2_with (first | ((with_reducible refine gate_dst (N := 5) rfl ?_); (try (refine gate_guard (by rfl) ?_; dsimp only)); refine zx 5 #[.bool a2_0, .int .u64 a2_1, .int .u64 a2_2] 36 ?_; intro gb979 hg w157 hbox hb; have BK979 := Aside0.mk (hbox); have GW979 := Aside0.mk ((by rw [hg]; exact (below_size (zB HB)) : w.heap.size ≤ gb979)); have GE979 := Aside0.mk ((by rw [hg]; exact (below_size (zB HB)) : w.heap.size ≤ gb979)); replace HB := Aside0.mk (below_step (zB HB) hb); clear hb hbox hg) | ((with_reducible refine gate_callee (f := 35) rfl ?_); refine goesL_ (some 14) rfl rfl Try.func35 (by kernel_rfl) rfl #[.slice A0 l0.length c0, .slice A1 l1.length c1] rfl (by (try simp only [List.map_toArray, List.map_cons, List.map_nil]); first | done | rfl | (simp only [List.length_drop, List.length_take]; rfl)) ?_; (with_reducible refine (intrusionlaw07_few.calls _ _ l0 _ _ l1 false _ ?side1 ?side2 ?side3 ?side4 A4.out).mono ?_); (case side1 => repeat (first | exact (Kd.C_below HR0.out HB.out) | (with_reducible refine Kd.C_alloc ?_ _) | (with_reducible refine Kd.C_drewN ?_ _) | (with_reducible refine Kd.C_drew ?_))); (case side2 => exact HC0.out); (case side3 => repeat (first | exact (Kd.C_below HR1.out HB.out) | (with_reducible refine Kd.C_alloc ?_ _) | (with_reducible refine Kd.C_drewN ?_ _) | (with_reducible refine Kd.C_drew ?_))); (case side4 => exact HC1.out); rintro e w' ⟨rfl, ⟨nd, rfl⟩⟩; refine ⟨_, rfl, ?_⟩) | ((with_reducible refine gate_callee (f := 36) rfl ?_); refine goesL_ (some 16) rfl rfl Try.func36 (by kernel_rfl) rfl #[] rfl (by (try simp only [List.map_toArray, List.map_cons, List.map_nil]); first | done | rfl | (simp only [List.length_drop, List.length_take]; rfl)) ?_; (with_reducible refine (intrusionlaw07_awake.calls k  t981 _ A156.out).mono ?_); rintro e w158 ⟨rfl, hb⟩; refine ⟨_, rfl, ?_⟩; replace BK979 := Aside0.mk (blk_below (g := gb979) (o := .cells #[.bool a2_0, .int .u64 a2_1, .int .u64 a2_2] 36 (0, 0)) (zK BK979) hb); replace HB := Aside0.mk (below_step (zB HB) hb); (try clear hb)))
   go_ret
   exact ⟨by first | rfl | (simp [errW_none, errW_some] <;> rfl) | (simp [*, errW_none, errW_some] <;> rfl), by repeat (first | (with_reducible first | exact HB.out | apply below_alloc | apply pw_below_drewN | apply below_drew1 | refine below_set ?_ GE979.out) | exact HB.out)⟩
end Go.Proofs.Ytcgfpffgiimgmaa.Q
end

section
set_option linter.unusedVariables false
namespace Go.Proofs.Ytcgfpffgiimgmaa.Read
open Go.RowKit Go.Deep Go.WideShapes Go.Proofs.YtcgfpffgiimgmaaW.PrintWords
def Reads {α : Type} (P : Program) (W : World) (d : Kd α) (Q : α → Prop) (t : TypeId) : Prop :=
  ∀ (H : Type) (enc : TypeId × Value → H) (fuel : Nat) (cs : List Value) (x : DataW H × List MemPlace), DataW.trod enc P W 0 (fun _ => true) true fuel t cs = some x → ∃ y, d.K W y cs ∧ Q y
section
variable {P : Program} {W : World}
theorem reads_int {k : IntKind} {t : TypeId} (ht : P.underlying t = some (.int k)) : Reads P W (Kd.int k) (fun n => (Lit.int k n).wf = true) t := by
  intro H enc fuel cs x h
  obtain ⟨n, rfl, _, hw⟩ := DataW.trod_int ht h
  exact ⟨n, rfl, hw⟩
theorem reads_bool {t : TypeId} (ht : P.underlying t = some .bool) : Reads P W Kd.bool (fun _ => True) t := by
  intro H enc fuel cs x h
  obtain ⟨n, rfl, _⟩ := DataW.trod_bool ht h
  exact ⟨n, rfl, trivial⟩
theorem cells_at {a : Addr} {n : Nat} {cs : List Value} (h : W.cells? 0 a n = some cs) : ∀ i u, cs[i]? = some u → W.cell? (a.add i) = some u := by
  obtain ⟨_, hl, hc⟩ := World.cells?_some h
  intro i u hi
  have hlt : i < cs.length := (List.getElem?_eq_some_iff.1 hi).1
  rw [hc i (by omega), hi]
theorem reads_slice {α : Type} {d : Kd α} {Q : α → Prop} {t e : TypeId} (ht : P.underlying t = some (.slice e)) (hc : P.cellsOf e = d.sz) (he : Reads P W d Q e) :
    Reads P W (Kd.slice e d) (fun xs => xs.length ≤ maxLen ∧ ∀ x ∈ xs, Q x) t := by
  intro H enc fuel cs x h
  rcases open_slice ht h with ⟨rfl, _⟩ | ⟨a, len, cap, m, n, D, Pl, rfl, _, hl, hm, hmm, _, hx⟩
  · exact ⟨[], ⟨none, 0, rfl, Nat.le_refl _, ⟨rfl, by simp, fun h => absurd h (by simp)⟩⟩, by simp⟩
  · have hml : m = cap := by simpa using hmm
    have hy : ∀ i : Fin len, ∃ y, (∃ cs', cs'.length = d.sz ∧ d.K W y cs' ∧ ∀ j u, cs'[j]? = some u → W.cell? (a.add (i.1 * d.sz + j)) = some u) ∧ Q y := by
      intro i
      obtain ⟨cs', h1, h2⟩ := hx i.1 (by omega)
      obtain ⟨y, hk, hq⟩ := he H enc n cs' _ h2
      refine ⟨y, ⟨cs', d.K_len hk, hk, fun j u hj => ?_⟩, hq⟩
      have := cells_at h1 j u hj
      rwa [hc, Addr.add_add] at this
    have hf : ∃ f : Fin len → α, ∀ i, (∃ cs', cs'.length = d.sz ∧ d.K W (f i) cs' ∧ ∀ j u, cs'[j]? = some u → W.cell? (a.add (i.1 * d.sz + j)) = some u) ∧ Q (f i) := ⟨fun i => Classical.choose (hy i), fun i => Classical.choose_spec (hy i)⟩
    obtain ⟨f, hf⟩ := hf
    refine ⟨List.ofFn f, ⟨some a, cap, by simp, by simpa using hl, ⟨rfl, by simp [maxLen] at hm ⊢; omega, fun _ => ⟨a, rfl, fun j p hj => ?_⟩⟩⟩, by simpa using Nat.le_trans hl hm, fun y hy => ?_⟩
    · obtain ⟨hlt, rfl⟩ := List.getElem?_eq_some_iff.1 hj
      have hjl : j < len := by simpa using hlt
      rw [List.getElem_ofFn]
      exact (hf ⟨j, hjl⟩).1
    · obtain ⟨j, hj, rfl⟩ := List.getElem_of_mem hy
      rw [List.getElem_ofFn]
      exact (hf _).2
theorem pair_mk {α β : Type} {a : Kd α} {b : Kd β} {x : α} {y : β} {cs : List Value} (s : Nat) (h0 : a.K W x (cs.take s)) (h1 : b.K W y (cs.drop s)) : (Kd.pair a b).K W (x, y) cs :=
  ⟨cs.take s, cs.drop s, (List.take_append_drop s cs).symm, h0, h1⟩
theorem field_at {α : Type} {d : Kd α} {Q : α → Prop} {fs : Array Field} {H : Type} {enc : TypeId × Value → H} {n : Nat} {cs : List Value} {xs : List (DataW H × List MemPlace)} (hl : xs.length = fs.size)
    (hf : ∀ (i : Nat) (f : Field), fs[i]? = some f → DataW.trod enc P W 0 (fun _ => true) true n f.type ((cs.drop f.offset).take (P.cellsOf f.type)) = xs[i]?)
    (i : Nat) {f : Field} (hi : fs[i]? = some f) {t off sz : Nat} (ht : f.type = t) (ho : f.offset = off) (hc : P.cellsOf t = sz) (hr : Reads P W d Q t) : ∃ y, d.K W y ((cs.drop off).take sz) ∧ Q y := by
  subst ht ho hc
  have h := hf i f hi
  have hlt : i < xs.length := by rw [hl]; exact (Array.getElem?_eq_some_iff.1 hi).1
  rw [List.getElem?_eq_getElem hlt] at h
  exact hr H enc n _ _ h
end
end Go.Proofs.Ytcgfpffgiimgmaa.Read
end

section
set_option linter.unusedVariables false
namespace Go.Proofs.Ytcgfpffgiimgmaa.Q
open Go.RowKit Go.Proofs.YtcgfpffgiimgmaaW.PrintWords Go.Proofs.Ytcgfpffgiimgmaa.Read
def q36 (x : S36) : Prop := True ∧ (Lit.int .u64 x.f1).wf = true ∧ (Lit.int .u64 x.f2).wf = true
theorem reads_k36 (W : World) : Reads Try.prog W k36 q36 36 := by
  intro H enc fuel cs x h
  obtain ⟨xs, n, rfl, _, hcl, hxl, hf⟩ := DataW.trod_struct Try.underlying36 h
  have hc : cs.length = 3 := hcl.trans (by kernel_rfl)
  obtain ⟨y0, h0, g0⟩ := field_at hxl hf 0 rfl (t := 4) (off := 0) (sz := 1) rfl rfl (by kernel_rfl) (reads_bool Try.underlying4)
  obtain ⟨y1, h1, g1⟩ := field_at hxl hf 1 rfl (t := 34) (off := 1) (sz := 1) rfl rfl (by kernel_rfl) (reads_int Try.underlying34)
  obtain ⟨y2, h2, g2⟩ := field_at hxl hf 2 rfl (t := 34) (off := 2) (sz := 1) rfl rfl (by kernel_rfl) (reads_int Try.underlying34)
  refine ⟨⟨y0, y1, y2⟩, ?_, ⟨g0, g1, g2⟩⟩
  rw [show (cs.drop 0).take 1 = (cs.drop 0).take 1 from rfl] at h0
  rw [show (cs.drop 1).take 1 = (cs.drop 1).take 1 from rfl] at h1
  rw [show (cs.drop 2).take 1 = (cs.drop 2) from List.take_of_length_le (by rw [List.length_drop, hc]; decide)] at h2
  skip
  simp only [show 2 = 1 + 1 from rfl, ← List.drop_drop] at h2
  have e0 : cs.drop 0 = cs := rfl
  rw [e0] at h0
  exact pair_mk (a := Kd.bool) 1 h0 (pair_mk (a := (Kd.int .u64)) 1 h1 (h2))
def q66 (x : S66) : Prop := q36 x.f0 ∧ q36 x.f1
theorem reads_k66 (W : World) : Reads Try.prog W k66 q66 66 := by
  intro H enc fuel cs x h
  obtain ⟨xs, n, rfl, _, hcl, hxl, hf⟩ := DataW.trod_struct Try.underlying66 h
  have hc : cs.length = 6 := hcl.trans (by kernel_rfl)
  obtain ⟨y0, h0, g0⟩ := field_at hxl hf 0 rfl (t := 36) (off := 0) (sz := 3) rfl rfl (by kernel_rfl) (reads_k36 W)
  obtain ⟨y1, h1, g1⟩ := field_at hxl hf 1 rfl (t := 36) (off := 3) (sz := 3) rfl rfl (by kernel_rfl) (reads_k36 W)
  refine ⟨⟨y0, y1⟩, ?_, ⟨g0, g1⟩⟩
  rw [show (cs.drop 0).take 3 = (cs.drop 0).take 3 from rfl] at h0
  rw [show (cs.drop 3).take 3 = (cs.drop 3) from List.take_of_length_le (by rw [List.length_drop, hc]; decide)] at h1
  skip
  have e0 : cs.drop 0 = cs := rfl
  rw [e0] at h0
  exact pair_mk (a := k36) 3 h0 (h1)
end Go.Proofs.Ytcgfpffgiimgmaa.Q
end

section
namespace Go.Proofs.Ytcgfpffgiimgmaa.Canon
abbrev Sp := Int × Int
def Mem (l : List Sp) (n : Int) : Prop := ∃ x, x ∈ l ∧ x.1 ≤ n ∧ n ≤ x.2
def CanFrom : Int → List Sp → Prop
  | _, [] => True
  | lo, x :: t => lo ≤ x.1 ∧ x.1 ≤ x.2 ∧ CanFrom (x.2 + 2) t
theorem mem_nil (n : Int) : Mem [] n ↔ False := by simp [Mem]
theorem mem_cons (x : Sp) (t : List Sp) (n : Int) : Mem (x :: t) n ↔ (x.1 ≤ n ∧ n ≤ x.2) ∨ Mem t n := by
  simp only [Mem, List.mem_cons]
  constructor
  · rintro ⟨y, rfl | hy, h⟩
    · exact .inl h
    · exact .inr ⟨y, hy, h⟩
  · rintro (h | ⟨y, hy, h⟩)
    · exact ⟨x, .inl rfl, h⟩
    · exact ⟨y, .inr hy, h⟩
theorem mem_append (a b : List Sp) (n : Int) : Mem (a ++ b) n ↔ Mem a n ∨ Mem b n := by
  induction a with
  | nil => simp [mem_nil]
  | cons x t ih => simp only [List.cons_append, mem_cons, ih]; exact or_assoc.symm
theorem CanFrom.mono {lo lo' : Int} {l : List Sp} (h : lo' ≤ lo) (c : CanFrom lo l) : CanFrom lo' l := by
  cases l with
  | nil => trivial
  | cons x t => exact ⟨Int.le_trans h c.1, c.2⟩
theorem CanFrom.ge : ∀ {l : List Sp} {lo n : Int}, CanFrom lo l → Mem l n → lo ≤ n
  | [], _, _, _, h => ((mem_nil _).1 h).elim
  | x :: t, lo, n, c, h => by
    rcases (mem_cons x t n).1 h with h | h
    · have := c.1; omega
    · have := CanFrom.ge c.2.2 h; have := c.1; have := c.2.1; omega
theorem uniq : ∀ (a b : List Sp) (lo : Int), CanFrom lo a → CanFrom lo b → (∀ n, Mem a n ↔ Mem b n) → a = b
  | [], [], _, _, _, _ => rfl
  | [], y :: t, _, _, cb, h => by
    have := (h y.1).2 ((mem_cons y t _).2 (.inl ⟨Int.le_refl _, cb.2.1⟩))
    exact ((mem_nil _).1 this).elim
  | x :: s, [], _, ca, _, h => by
    have := (h x.1).1 ((mem_cons x s _).2 (.inl ⟨Int.le_refl _, ca.2.1⟩))
    exact ((mem_nil _).1 this).elim
  | x :: s, y :: t, lo, ca, cb, h => by
    have hx : ∀ n, Mem (x :: s) n → x.1 ≤ n := fun n hn => CanFrom.ge (lo := x.1) (l := x :: s) ⟨Int.le_refl _, ca.2⟩ hn
    have hy : ∀ n, Mem (y :: t) n → y.1 ≤ n := fun n hn => CanFrom.ge (lo := y.1) (l := y :: t) ⟨Int.le_refl _, cb.2⟩ hn
    have e1 : x.1 = y.1 := by
      have a1 := hy _ ((h x.1).1 ((mem_cons x s _).2 (.inl ⟨Int.le_refl _, ca.2.1⟩)))
      have a2 := hx _ ((h y.1).2 ((mem_cons y t _).2 (.inl ⟨Int.le_refl _, cb.2.1⟩)))
      omega
    have e2 : x.2 = y.2 := by
      have k1 : ¬ x.2 < y.2 := fun hlt => by
        have := (h (x.2 + 1)).2 ((mem_cons y t _).2 (.inl ⟨by have := ca.2.1; omega, by omega⟩))
        rcases (mem_cons x s _).1 this with m | m
        · omega
        · have := ca.2.2.ge m; omega
      have k2 : ¬ y.2 < x.2 := fun hlt => by
        have := (h (y.2 + 1)).1 ((mem_cons x s _).2 (.inl ⟨by have := cb.2.1; omega, by omega⟩))
        rcases (mem_cons y t _).1 this with m | m
        · omega
        · have := cb.2.2.ge m; omega
      omega
    have e : x = y := Prod.ext e1 e2
    subst e
    rw [uniq s t (x.2 + 2) ca.2.2 cb.2.2 (fun n => by
      constructor
      · intro hn
        have g := ca.2.2.ge hn
        rcases (mem_cons x t _).1 ((h n).1 ((mem_cons x s _).2 (.inr hn))) with m | m
        · omega
        · exact m
      · intro hn
        have g := cb.2.2.ge hn
        rcases (mem_cons x s _).1 ((h n).2 ((mem_cons x t _).2 (.inr hn))) with m | m
        · omega
        · exact m)]
theorem can_append : ∀ (a b : List Sp) (lo : Int), CanFrom lo (a ++ b) ↔ CanFrom lo a ∧ (∀ x ∈ a, ∀ y ∈ b, x.2 + 1 < y.1) ∧ (∃ lo', CanFrom lo' b) ∧ (∀ y ∈ b, lo ≤ y.1)
  | [], b, lo => by
    constructor
    · intro c
      refine ⟨trivial, by simp, ⟨lo, c⟩, fun y hy => ?_⟩
      have hm : Mem b y.1 → lo ≤ y.1 := c.ge
      refine hm ⟨y, hy, Int.le_refl _, ?_⟩
      have : ∀ (b : List Sp) (lo : Int), CanFrom lo b → ∀ y ∈ b, y.1 ≤ y.2 := by
        intro b
        induction b with
        | nil => simp
        | cons z t ih =>
          intro lo c y hy
          rcases List.mem_cons.1 hy with rfl | hy
          · exact c.2.1
          · exact ih _ c.2.2 y hy
      exact this b lo c y hy
    · rintro ⟨_, _, ⟨lo', c⟩, h⟩
      cases b with
      | nil => trivial
      | cons z t => exact ⟨h z (List.mem_cons_self ..), c.2⟩
  | x :: a, b, lo => by
    have ih := can_append a b (x.2 + 2)
    constructor
    · rintro ⟨c1, c2, c3⟩
      obtain ⟨i1, i2, i3, i4⟩ := ih.1 c3
      refine ⟨⟨c1, c2, i1⟩, fun z hz y hy => ?_, i3, fun y hy => ?_⟩
      · rcases List.mem_cons.1 hz with rfl | hz
        · have := i4 y hy; omega
        · exact i2 z hz y hy
      · have := i4 y hy; omega
    · rintro ⟨⟨c1, c2, c3⟩, h2, h3, h4⟩
      refine ⟨c1, c2, ih.2 ⟨c3, fun z hz => h2 z (List.mem_cons_of_mem _ hz), h3, fun y hy => ?_⟩⟩
      have := h2 x (List.mem_cons_self ..) y hy
      omega
end Go.Proofs.Ytcgfpffgiimgmaa.Canon
end
