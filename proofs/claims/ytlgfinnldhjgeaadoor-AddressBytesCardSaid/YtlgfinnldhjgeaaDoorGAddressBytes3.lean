/- The law AddressBytes answers true for every input and leaves its arguments as they were. No condition. (Part 3 of 3: the kit's printed words and walks, hand-made contracts and plain laws, joined in build order, without what the theorem does not reach.) -/
import Derived.Shelf.SlSortCmp.InsertionK
import Derived.Lib.AppendIntMem
import Derived.Deep.Slices
import Derived.ChangeArms
import Derived.WideShapes
import Derived.DataElems
import Derived.IntWalk
import Derived.Test.YtlgfinnldhjgeaaDoorRows
import Derived.ProofKit
import Derived.OpenShut
import Derived.LaidMore
import Derived.Lay
import Derived.SevenTiedAt
import Derived.Stop.Joined
import Derived.Lib.LaidTab
import Derived.Shelf.Vars
import Derived.HandedShaped
import Derived.WalkKit
import Derived.ShutString
import Derived.ChangeOld
import Derived.Below
import Derived.SizedLaws
import Derived.Carry
import Derived.Test.YtlgfinnldhjgeaaDoorTie
import Derived.Test.YtlgfinnldhjgeaaDoorCards
import Derived.Test.YtlgfinnldhjgeaaDoorGAddressBytes2
section
namespace Go.Proofs.YtlgfinnldhjgeaaDoor.Q
open Go.RowKit Go.Proofs.YtlgfinnldhjgeaaDoorW.PrintWords Go.Proofs.YtlgfinnldhjgeaaDoorW.PrintLast Go.Proofs.YtlgfinnldhjgeaaDoorW.PrintMore
attribute [local go_sem] max2_int min2_int max_two min_two max_three min_three max_four min_four
set_option linter.unusedVariables false
set_option linter.unusedSimpArgs false
def address_Contains.f (a0_0 : Bool) (a0_1 : Int) (a0_2 : Int) (a0_3 : Int) (a1_0 : Bool) (a1_1 : Int) (a1_2 : Int) : Option (Bool) := if (a0_0 != a1_0) = true then (some false) else ((address_mask.f a1_0 a1_1 a1_2 a0_3).bind fun bt184 => (if (Go.bits .andNot .u64 a1_1 bt184.1) = (Go.bits .andNot .u64 a0_1 bt184.1) then (some ((Go.bits .andNot .u64 a1_2 bt184.2) == (Go.bits .andNot .u64 a0_2 bt184.2))) else (some false)))
set_option maxHeartbeats 8000000 in
set_option maxRecDepth 100000 in
theorem address_Contains.calls (a0_0 : Bool) (a0_1 : Int) (a0_2 : Int) (a0_3 : Int) (a1_0 : Bool) (a1_1 : Int) (a1_2 : Int) (r : Bool) (w : World) (h : address_Contains.f a0_0 a0_1 a0_2 a0_3 a1_0 a1_1 a1_2 = some r) :
 Calls Tryd.prog 23 #[.agg #[.bool a0_0, .int .u64 a0_1, .int .u64 a0_2, .int .i64 a0_3], .agg #[.bool a1_0, .int .u64 a1_1, .int .u64 a1_2]] w fun e w' => e = .returned (.bool r) ∧ Below w.heap.size w w' := by
 have hu30 := Tryd.underlying30
 have hu25 := Tryd.underlying25
 have HB := Aside0.mk (Below.refl w.heap.size w)
 unfold address_Contains.f at h; have H := h
 clear h
 by_cases c3 : (a0_0 != a1_0) = true
 · rw [if_pos c3] at H
   have c3b0 : (a0_0 != a1_0) = true := c3
   (try (have c3b1 : decide (a0_0 = a1_0) = false := by first | (simpa using c3) | exact decide_eq_true (Decidable.not_not.1 (fun hn => c3 (bne_iff_ne.2 hn))) | exact beq_iff_eq.2 (Decidable.not_not.1 (fun hn => c3 (bne_iff_ne.2 hn))) | exact decide_eq_false (bne_iff_ne.1 c3) | exact beq_eq_false_iff_ne.2 (bne_iff_ne.1 c3) | exact bne_iff_ne.1 c3))
   (try (have c3b2 : (a0_0 == a1_0) = false := by first | (simpa using c3) | exact decide_eq_true (Decidable.not_not.1 (fun hn => c3 (bne_iff_ne.2 hn))) | exact beq_iff_eq.2 (Decidable.not_not.1 (fun hn => c3 (bne_iff_ne.2 hn))) | exact decide_eq_false (bne_iff_ne.1 c3) | exact beq_eq_false_iff_ne.2 (bne_iff_ne.1 c3) | exact bne_iff_ne.1 c3))
   (try (have c3b3 : ¬ (a0_0 = a1_0) := by first | (simpa using c3) | exact decide_eq_true (Decidable.not_not.1 (fun hn => c3 (bne_iff_ne.2 hn))) | exact beq_iff_eq.2 (Decidable.not_not.1 (fun hn => c3 (bne_iff_ne.2 hn))) | exact decide_eq_false (bne_iff_ne.1 c3) | exact beq_eq_false_iff_ne.2 (bne_iff_ne.1 c3) | exact bne_iff_ne.1 c3))
   clear c3
   obtain rfl := Option.some.inj H
   go_enter Tryd.func23, Tryd.ntmps23
   go_wp2_with (first | ((with_reducible refine gate_dst (N := 2) rfl ?_); refine zx 2 #[.bool a0_0, .int .u64 a0_1, .int .u64 a0_2, .int .i64 a0_3] 30 ?_; intro gb182 hg w4 hbox hb; have BK182 := Aside0.mk (hbox); have GW182 := Aside0.mk ((by rw [hg]; exact (below_size (zB HB)) : w.heap.size ≤ gb182)); have GE182 := Aside0.mk ((by rw [hg]; exact (below_size (zB HB)) : w.heap.size ≤ gb182)); replace HB := Aside0.mk (below_step (zB HB) hb); clear hb hbox hg) | ((with_reducible refine gate_dst (N := 3) rfl ?_); refine zx 3 #[.bool a1_0, .int .u64 a1_1, .int .u64 a1_2] 25 ?_; intro gb183 hg w5 hbox hb; have BK183 := Aside0.mk (hbox); have GW183 := Aside0.mk ((by rw [hg]; exact (below_size (zB HB)) : w.heap.size ≤ gb183)); have GE183 := Aside0.mk ((by rw [hg]; exact (below_size (zB HB)) : w.heap.size ≤ gb183)); replace HB := Aside0.mk (below_step (zB HB) hb); have NB182_183 := Aside0.mk ((by rw [hg]; exact Nat.ne_of_lt (blk_lt (g := gb182) (o := .cells #[.bool a0_0, .int .u64 a0_1, .int .u64 a0_2, .int .i64 a0_3] 30 (0, 0)) (zK BK182)) : gb182 ≠ gb183)); have NB183_182 := Aside0.mk ((by rw [hg]; exact Nat.ne_of_gt (blk_lt (g := gb182) (o := .cells #[.bool a0_0, .int .u64 a0_1, .int .u64 a0_2, .int .i64 a0_3] 30 (0, 0)) (zK BK182)) : gb183 ≠ gb182)); replace BK182 := Aside0.mk (blk_below (g := gb182) (o := .cells #[.bool a0_0, .int .u64 a0_1, .int .u64 a0_2, .int .i64 a0_3] 30 (0, 0)) (zK BK182) hb); clear hb hbox hg; have hnb6 := NB182_183.out; have hnc6 := NB183_182.out; obtain ⟨hcz7_0, hcz7_1, hcz7_2, hcz7_3⟩ := zc4 BK182; obtain ⟨hfz7_0, hfz7_1, hfz7_2, hfz7_3⟩ := zf4 BK182; obtain ⟨hcz8_0, hcz8_1, hcz8_2⟩ := zc3 BK183; obtain ⟨hfz8_0, hfz8_1, hfz8_2⟩ := zf3 BK183))
   go_ret
   exact ⟨by first | rfl | (simp [errW_none, errW_some] <;> rfl) | (simp [*, errW_none, errW_some] <;> rfl), by repeat (first | (with_reducible first | exact HB.out | apply below_alloc | apply pw_below_drewN | apply below_drew1 | refine below_set ?_ GE182.out | refine below_set ?_ GE183.out) | exact HB.out)⟩
 · rw [if_neg c3] at H
   have c3b0 : (a0_0 != a1_0) = false := by simpa using c3
   (try (have c3b1 : decide (a0_0 = a1_0) = true := by first | (simpa using c3) | exact decide_eq_true (Decidable.not_not.1 (fun hn => c3 (bne_iff_ne.2 hn))) | exact beq_iff_eq.2 (Decidable.not_not.1 (fun hn => c3 (bne_iff_ne.2 hn))) | exact decide_eq_false (bne_iff_ne.1 c3) | exact beq_eq_false_iff_ne.2 (bne_iff_ne.1 c3) | exact bne_iff_ne.1 c3))
   (try (have c3b2 : (a0_0 == a1_0) = true := by first | (simpa using c3) | exact decide_eq_true (Decidable.not_not.1 (fun hn => c3 (bne_iff_ne.2 hn))) | exact beq_iff_eq.2 (Decidable.not_not.1 (fun hn => c3 (bne_iff_ne.2 hn))) | exact decide_eq_false (bne_iff_ne.1 c3) | exact beq_eq_false_iff_ne.2 (bne_iff_ne.1 c3) | exact bne_iff_ne.1 c3))
   clear c3
   replace H := Option.bind_eq_some_iff.mp H
   obtain ⟨⟨t184, t185⟩, A90, H⟩ := H
   try dsimp only at H
   have A9 := Aside0.mk A90
   clear A90
   by_cases c10 : (Go.bits .andNot .u64 a1_1 t184) = (Go.bits .andNot .u64 a0_1 t184)
   · rw [if_pos c10] at H
     have c10b0 : ((Go.bits .andNot .u64 a1_1 t184) == (Go.bits .andNot .u64 a0_1 t184)) = true := beq_iff_eq.mpr c10
     have c10b1 : ((Go.bits .andNot .u64 a1_1 t184) != (Go.bits .andNot .u64 a0_1 t184)) = false := bne_eq_false_iff_eq.mpr c10
     clear c10
     obtain rfl := Option.some.inj H
     go_enter Tryd.func23, Tryd.ntmps23
     go_wp2_with (first | ((with_reducible refine gate_dst (N := 2) rfl ?_); refine zx 2 #[.bool a0_0, .int .u64 a0_1, .int .u64 a0_2, .int .i64 a0_3] 30 ?_; intro gb182 hg w11 hbox hb; have BK182 := Aside0.mk (hbox); have GW182 := Aside0.mk ((by rw [hg]; exact (below_size (zB HB)) : w.heap.size ≤ gb182)); have GE182 := Aside0.mk ((by rw [hg]; exact (below_size (zB HB)) : w.heap.size ≤ gb182)); replace HB := Aside0.mk (below_step (zB HB) hb); clear hb hbox hg) | ((with_reducible refine gate_dst (N := 3) rfl ?_); refine zx 3 #[.bool a1_0, .int .u64 a1_1, .int .u64 a1_2] 25 ?_; intro gb183 hg w12 hbox hb; have BK183 := Aside0.mk (hbox); have GW183 := Aside0.mk ((by rw [hg]; exact (below_size (zB HB)) : w.heap.size ≤ gb183)); have GE183 := Aside0.mk ((by rw [hg]; exact (below_size (zB HB)) : w.heap.size ≤ gb183)); replace HB := Aside0.mk (below_step (zB HB) hb); have NB182_183 := Aside0.mk ((by rw [hg]; exact Nat.ne_of_lt (blk_lt (g := gb182) (o := .cells #[.bool a0_0, .int .u64 a0_1, .int .u64 a0_2, .int .i64 a0_3] 30 (0, 0)) (zK BK182)) : gb182 ≠ gb183)); have NB183_182 := Aside0.mk ((by rw [hg]; exact Nat.ne_of_gt (blk_lt (g := gb182) (o := .cells #[.bool a0_0, .int .u64 a0_1, .int .u64 a0_2, .int .i64 a0_3] 30 (0, 0)) (zK BK182)) : gb183 ≠ gb182)); replace BK182 := Aside0.mk (blk_below (g := gb182) (o := .cells #[.bool a0_0, .int .u64 a0_1, .int .u64 a0_2, .int .i64 a0_3] 30 (0, 0)) (zK BK182) hb); clear hb hbox hg; have hnb13 := NB182_183.out; have hnc13 := NB183_182.out; obtain ⟨hcz14_0, hcz14_1, hcz14_2, hcz14_3⟩ := zc4 BK182; obtain ⟨hfz14_0, hfz14_1, hfz14_2, hfz14_3⟩ := zf4 BK182; obtain ⟨hcz15_0, hcz15_1, hcz15_2⟩ := zc3 BK183; obtain ⟨hfz15_0, hfz15_1, hfz15_2⟩ := zf3 BK183) | ((with_reducible refine gate_callee (f := 51) rfl ?_); refine goesL_ (some 17) rfl rfl Tryd.func51 (by kernel_rfl) rfl #[.agg #[.bool a1_0, .int .u64 a1_1, .int .u64 a1_2], .int .i64 a0_3] rfl (by (try simp only [List.map_toArray, List.map_cons, List.map_nil]); first | done | rfl | (simp only [List.length_drop, List.length_take]; rfl)) ?_; (with_reducible refine (address_mask.calls a1_0 a1_1 a1_2 a0_3 t184 t185 _ A9.out).mono ?_); rintro e w16 ⟨rfl, hb⟩; refine ⟨_, rfl, ?_⟩; replace BK182 := Aside0.mk (blk_below (g := gb182) (o := .cells #[.bool a0_0, .int .u64 a0_1, .int .u64 a0_2, .int .i64 a0_3] 30 (0, 0)) (zK BK182) hb); replace BK183 := Aside0.mk (blk_below (g := gb183) (o := .cells #[.bool a1_0, .int .u64 a1_1, .int .u64 a1_2] 25 (0, 0)) (zK BK183) hb); replace HB := Aside0.mk (below_step (zB HB) hb); (try clear hb); obtain ⟨hcz17_0, hcz17_1, hcz17_2⟩ := zc3 BK183; obtain ⟨hfz17_0, hfz17_1, hfz17_2⟩ := zf3 BK183; obtain ⟨hcz18_0, hcz18_1, hcz18_2, hcz18_3⟩ := zc4 BK182; obtain ⟨hfz18_0, hfz18_1, hfz18_2, hfz18_3⟩ := zf4 BK182))
     go_ret
     exact ⟨by first | rfl | (simp [errW_none, errW_some] <;> rfl) | (simp [*, errW_none, errW_some] <;> rfl), by repeat (first | (with_reducible first | exact HB.out | apply below_alloc | apply pw_below_drewN | apply below_drew1 | refine below_set ?_ GE182.out | refine below_set ?_ GE183.out) | exact HB.out)⟩
   · rw [if_neg c10] at H
     have c10b0 : ((Go.bits .andNot .u64 a1_1 t184) == (Go.bits .andNot .u64 a0_1 t184)) = false := beq_eq_false_iff_ne.mpr c10
     have c10b1 : ((Go.bits .andNot .u64 a1_1 t184) != (Go.bits .andNot .u64 a0_1 t184)) = true := bne_iff_ne.mpr c10
     obtain rfl := Option.some.inj H
     go_enter Tryd.func23, Tryd.ntmps23
     go_wp2_with (first | ((with_reducible refine gate_dst (N := 2) rfl ?_); refine zx 2 #[.bool a0_0, .int .u64 a0_1, .int .u64 a0_2, .int .i64 a0_3] 30 ?_; intro gb182 hg w19 hbox hb; have BK182 := Aside0.mk (hbox); have GW182 := Aside0.mk ((by rw [hg]; exact (below_size (zB HB)) : w.heap.size ≤ gb182)); have GE182 := Aside0.mk ((by rw [hg]; exact (below_size (zB HB)) : w.heap.size ≤ gb182)); replace HB := Aside0.mk (below_step (zB HB) hb); clear hb hbox hg) | ((with_reducible refine gate_dst (N := 3) rfl ?_); refine zx 3 #[.bool a1_0, .int .u64 a1_1, .int .u64 a1_2] 25 ?_; intro gb183 hg w20 hbox hb; have BK183 := Aside0.mk (hbox); have GW183 := Aside0.mk ((by rw [hg]; exact (below_size (zB HB)) : w.heap.size ≤ gb183)); have GE183 := Aside0.mk ((by rw [hg]; exact (below_size (zB HB)) : w.heap.size ≤ gb183)); replace HB := Aside0.mk (below_step (zB HB) hb); have NB182_183 := Aside0.mk ((by rw [hg]; exact Nat.ne_of_lt (blk_lt (g := gb182) (o := .cells #[.bool a0_0, .int .u64 a0_1, .int .u64 a0_2, .int .i64 a0_3] 30 (0, 0)) (zK BK182)) : gb182 ≠ gb183)); have NB183_182 := Aside0.mk ((by rw [hg]; exact Nat.ne_of_gt (blk_lt (g := gb182) (o := .cells #[.bool a0_0, .int .u64 a0_1, .int .u64 a0_2, .int .i64 a0_3] 30 (0, 0)) (zK BK182)) : gb183 ≠ gb182)); replace BK182 := Aside0.mk (blk_below (g := gb182) (o := .cells #[.bool a0_0, .int .u64 a0_1, .int .u64 a0_2, .int .i64 a0_3] 30 (0, 0)) (zK BK182) hb); clear hb hbox hg; have hnb21 := NB182_183.out; have hnc21 := NB183_182.out; obtain ⟨hcz22_0, hcz22_1, hcz22_2, hcz22_3⟩ := zc4 BK182; obtain ⟨hfz22_0, hfz22_1, hfz22_2, hfz22_3⟩ := zf4 BK182; obtain ⟨hcz23_0, hcz23_1, hcz23_2⟩ := zc3 BK183; obtain ⟨hfz23_0, hfz23_1, hfz23_2⟩ := zf3 BK183) | ((with_reducible refine gate_callee (f := 51) rfl ?_); refine goesL_ (some 17) rfl rfl Tryd.func51 (by kernel_rfl) rfl #[.agg #[.bool a1_0, .int .u64 a1_1, .int .u64 a1_2], .int .i64 a0_3] rfl (by (try simp only [List.map_toArray, List.map_cons, List.map_nil]); first | done | rfl | (simp only [List.length_drop, List.length_take]; rfl)) ?_; (with_reducible refine (address_mask.calls a1_0 a1_1 a1_2 a0_3 t184 t185 _ A9.out).mono ?_); rintro e w24 ⟨rfl, hb⟩; refine ⟨_, rfl, ?_⟩; replace BK182 := Aside0.mk (blk_below (g := gb182) (o := .cells #[.bool a0_0, .int .u64 a0_1, .int .u64 a0_2, .int .i64 a0_3] 30 (0, 0)) (zK BK182) hb); replace BK183 := Aside0.mk (blk_below (g := gb183) (o := .cells #[.bool a1_0, .int .u64 a1_1, .int .u64 a1_2] 25 (0, 0)) (zK BK183) hb); replace HB := Aside0.mk (below_step (zB HB) hb); (try clear hb); obtain ⟨hcz25_0, hcz25_1, hcz25_2⟩ := zc3 BK183; obtain ⟨hfz25_0, hfz25_1, hfz25_2⟩ := zf3 BK183; obtain ⟨hcz26_0, hcz26_1, hcz26_2, hcz26_3⟩ := zc4 BK182; obtain ⟨hfz26_0, hfz26_1, hfz26_2, hfz26_3⟩ := zf4 BK182))
     go_ret
     exact ⟨by first | rfl | (simp [errW_none, errW_some] <;> rfl) | (simp [*, errW_none, errW_some] <;> rfl), by repeat (first | (with_reducible first | exact HB.out | apply below_alloc | apply pw_below_drewN | apply below_drew1 | refine below_set ?_ GE182.out | refine below_set ?_ GE183.out) | exact HB.out)⟩
end Go.Proofs.YtlgfinnldhjgeaaDoor.Q
end

section
set_option linter.unusedVariables false
set_option linter.unusedSimpArgs false
namespace Go.Proofs.YtlgfinnldhjgeaaDoor.Q
open Go.RowKit Go.Sort Go.Lib Go.Proofs.YtlgfinnldhjgeaaDoorW.PrintWords Go.Proofs.YtlgfinnldhjgeaaDoorW.PrintLast Go.Proofs.YtlgfinnldhjgeaaDoorW.PrintMore
def cmpA (a b : S25) : Int := if a.f0 = b.f0 then (if a.f1 = b.f1 then (if a.f2 = b.f2 then 0 else if a.f2 < b.f2 then -1 else 1) else if a.f1 < b.f1 then -1 else 1) else if b.f0 = true then -1 else 1
def address_Compare.f (a0_0 : Bool) (a0_1 : Int) (a0_2 : Int) (a1_0 : Bool) (a1_1 : Int) (a1_2 : Int) : Option (Int) := some (cmpA ⟨a0_0, a0_1, a0_2⟩ ⟨a1_0, a1_1, a1_2⟩)
set_option maxHeartbeats 2000000 in
set_option maxRecDepth 100000 in
theorem compareX (a b : S25) (w : World) :
    Calls Tryd.prog 18 #[.agg #[.bool a.f0, .int .u64 a.f1, .int .u64 a.f2], .agg #[.bool b.f0, .int .u64 b.f1, .int .u64 b.f2]] w fun e w' => e = .returned (.int .i64 (cmpA a b)) ∧ ∃ q os', w' = grow (w.drewN q) os' := by
  obtain ⟨a0, a1, a2⟩ := a
  obtain ⟨b0, b1, b2⟩ := b
  have hu := Tryd.underlying25
  by_cases h0 : a0 = b0
  · subst h0
    by_cases h1 : a1 = b1
    · subst h1
      by_cases h2 : a2 = b2
      · subst h2
        rw [show cmpA ⟨a0, a1, a2⟩ ⟨a0, a1, a2⟩ = 0 by simp [cmpA]]
        cases a0 <;>
        · go_enter Tryd.func18, Tryd.ntmps18
          go_wp2
          go_ret
          exact ⟨rfl, 0, _, by rw [alloc_eq_grow, alloc_eq_grow, grow_grow]; rfl⟩
      · have e1 : (a2 == b2) = false := by simpa using h2
        have e2 : decide (a2 = b2) = false := by simpa using h2
        by_cases h3 : a2 < b2
        · rw [show cmpA ⟨a0, a1, a2⟩ ⟨a0, a1, b2⟩ = -1 by simp [cmpA, h2, h3]]
          have e3 : decide (a2 < b2) = true := by simpa using h3
          cases a0 <;>
          · go_enter Tryd.func18, Tryd.ntmps18
            go_wp2
            go_ret
            exact ⟨rfl, 0, _, by rw [alloc_eq_grow, alloc_eq_grow, grow_grow]; rfl⟩
        · rw [show cmpA ⟨a0, a1, a2⟩ ⟨a0, a1, b2⟩ = 1 by simp [cmpA, h2, h3]]
          have e3 : decide (a2 < b2) = false := by simpa using h3
          cases a0 <;>
          · go_enter Tryd.func18, Tryd.ntmps18
            go_wp2
            go_ret
            exact ⟨rfl, 0, _, by rw [alloc_eq_grow, alloc_eq_grow, grow_grow]; rfl⟩
    · have e1 : (a1 == b1) = false := by simpa using h1
      have e2 : decide (a1 = b1) = false := by simpa using h1
      have e4 : (a1 != b1) = true := by simpa using h1
      by_cases h3 : a1 < b1
      · rw [show cmpA ⟨a0, a1, a2⟩ ⟨a0, b1, b2⟩ = -1 by simp [cmpA, h1, h3]]
        have e3 : decide (a1 < b1) = true := by simpa using h3
        cases a0 <;>
        · go_enter Tryd.func18, Tryd.ntmps18
          go_wp2
          go_ret
          exact ⟨rfl, 0, _, by rw [alloc_eq_grow, alloc_eq_grow, grow_grow]; rfl⟩
      · rw [show cmpA ⟨a0, a1, a2⟩ ⟨a0, b1, b2⟩ = 1 by simp [cmpA, h1, h3]]
        have e3 : decide (a1 < b1) = false := by simpa using h3
        cases a0 <;>
        · go_enter Tryd.func18, Tryd.ntmps18
          go_wp2
          go_ret
          exact ⟨rfl, 0, _, by rw [alloc_eq_grow, alloc_eq_grow, grow_grow]; rfl⟩
  · cases b0
    · have ha : a0 = true := by simpa using h0
      subst ha
      rw [show cmpA ⟨true, a1, a2⟩ ⟨false, b1, b2⟩ = 1 by simp [cmpA]]
      clear h0
      go_enter Tryd.func18, Tryd.ntmps18
      go_wp2
      go_ret
      exact ⟨rfl, 0, _, by rw [alloc_eq_grow, alloc_eq_grow, grow_grow]; rfl⟩
    · have ha : a0 = false := by simpa using h0
      subst ha
      rw [show cmpA ⟨false, a1, a2⟩ ⟨true, b1, b2⟩ = -1 by simp [cmpA]]
      clear h0
      go_enter Tryd.func18, Tryd.ntmps18
      go_wp2
      go_ret
      exact ⟨rfl, 0, _, by rw [alloc_eq_grow, alloc_eq_grow, grow_grow]; rfl⟩
theorem address_Compare.calls (a0_0 : Bool) (a0_1 : Int) (a0_2 : Int) (a1_0 : Bool) (a1_1 : Int) (a1_2 : Int) (r : Int) (w : World) (h : address_Compare.f a0_0 a0_1 a0_2 a1_0 a1_1 a1_2 = some r) :
    Calls Tryd.prog 18 #[.agg #[.bool a0_0, .int .u64 a0_1, .int .u64 a0_2], .agg #[.bool a1_0, .int .u64 a1_1, .int .u64 a1_2]] w fun e w' => e = .returned (.int .i64 r) ∧ Below w.heap.size w w' := by
  unfold address_Compare.f at h
  injection h with h
  subst h
  refine (compareX ⟨a0_0, a0_1, a0_2⟩ ⟨a1_0, a1_1, a1_2⟩ w).mono ?_
  rintro e w' ⟨rfl, q, os, rfl⟩
  refine ⟨rfl, ?_⟩
  exact below_grow _ _ (Nat.le_refl _) _ _
end Go.Proofs.YtlgfinnldhjgeaaDoor.Q
end

section
set_option linter.unusedVariables false
set_option linter.unusedSimpArgs false
namespace Go.Proofs.YtlgfinnldhjgeaaDoor.Q
open Go.RowKit Go.Proofs.YtlgfinnldhjgeaaDoorW.PrintWords Go.Proofs.YtlgfinnldhjgeaaDoorW.PrintLast Go.Proofs.YtlgfinnldhjgeaaDoorW.PrintMore
def zEnd (l : List Int) : Nat → Nat → Nat
  | 0, k => k
  | d + 1, k => if l.getD k 0 = 0 then zEnd l d (k + 1) else k
def runF (l : List Int) : Nat → Nat → Nat × Nat → Nat × Nat
  | 0, _, b => b
  | d + 1, i, b => runF l d (i + 1) (if b.2 - b.1 < zEnd l (8 - i) i - i then (i, zEnd l (8 - i) i) else b)
theorem zEnd_le (l : List Int) : ∀ (d k : Nat), k ≤ zEnd l d k ∧ zEnd l d k ≤ k + d
  | 0, k => ⟨Nat.le_refl _, Nat.le_refl _⟩
  | d + 1, k => by
    unfold zEnd
    split
    · have := zEnd_le l d (k + 1); omega
    · omega
theorem r_sub {k i : Nat} (h1 : i ≤ k) (h2 : k ≤ 8) : wrap64 ((k : Int) - (i : Int)) = ((k - i : Nat) : Int) := by unfold wrap64; omega
theorem r_suc {k : Nat} (h2 : k ≤ 8) : wrap64 ((k : Int) + 1) = ((k + 1 : Nat) : Int) := by unfold wrap64; omega
theorem r_lt {k : Nat} (h : k < 8) : ((k : Int) < 8) = True := eq_true (by omega)
theorem r_ltd {k : Nat} (h : k < 8) : decide ((k : Int) < 8) = true := decide_eq_true (by omega)
theorem r_ge {k : Nat} (h : ¬ k < 8) : ((k : Int) < 8) = False := eq_false (by omega)
theorem r_ged {k : Nat} (h : ¬ k < 8) : decide ((k : Int) < 8) = false := decide_eq_false (by omega)
theorem r_gt {x y : Nat} (h : y < x) : decide ((x : Int) > (y : Int)) = true := decide_eq_true (by omega)
theorem r_ngt {x y : Nat} (h : ¬ y < x) : decide ((x : Int) > (y : Int)) = false := decide_eq_false (by omega)
theorem zEnd_on {l : List Int} {i k e : Nat} (h : zEnd l (8 - i) i = e) (h2 : zEnd l (8 - i) i = zEnd l (8 - k) k) (hk : k < 8) (hz : l.getD k 0 = 0) : zEnd l (8 - i) i = zEnd l (8 - (k + 1)) (k + 1) := by
  rw [h2, show 8 - k = (8 - (k + 1)) + 1 from by omega, zEnd, if_pos hz]
theorem zEnd_at {l : List Int} {i k : Nat} (h2 : zEnd l (8 - i) i = zEnd l (8 - k) k) (hk : k < 8) (hz : ¬ l.getD k 0 = 0) : zEnd l (8 - i) i = k := by
  rw [h2, show 8 - k = (8 - (k + 1)) + 1 from by omega, zEnd, if_neg hz]
theorem zEnd_8 {l : List Int} {i k : Nat} (h2 : zEnd l (8 - i) i = zEnd l (8 - k) k) (hk : ¬ k < 8) (hk8 : k ≤ 8) : zEnd l (8 - i) i = k := by
  rw [h2, show 8 - k = 0 from by omega, zEnd]
theorem runF_up {l : List Int} {i a b e : Nat} {r : Nat × Nat} (h : runF l (8 - i) i (a, b) = r) (hi : i < 8) (he : zEnd l (8 - i) i = e) (hc : b - a < e - i) : runF l (8 - (i + 1)) (i + 1) (i, e) = r := by
  rw [show 8 - i = (8 - (i + 1)) + 1 from by omega, runF] at h
  rw [he] at h
  simpa [hc] using h
theorem runF_stay {l : List Int} {i a b e : Nat} {r : Nat × Nat} (h : runF l (8 - i) i (a, b) = r) (hi : i < 8) (he : zEnd l (8 - i) i = e) (hc : ¬ b - a < e - i) : runF l (8 - (i + 1)) (i + 1) (a, b) = r := by
  rw [show 8 - i = (8 - (i + 1)) + 1 from by omega, runF] at h
  rw [he] at h
  simpa [hc] using h
theorem runF_8 {l : List Int} {i a b : Nat} {r : Nat × Nat} (h : runF l (8 - i) i (a, b) = r) (hi : ¬ i < 8) : a = r.1 ∧ b = r.2 := by
  rw [show 8 - i = 0 from by omega, runF] at h
  subst h
  exact ⟨rfl, rfl⟩
structure RunI (l : List Int) (gg i a b : Nat) (r : Nat × Nat) : Prop where
  m : 8 - i ≤ gg
  i8 : i ≤ 8
  ab : a ≤ b
  b8 : b ≤ 8
  res : runF l (8 - i) i (a, b) = r
structure RunK (l : List Int) (gg i k : Nat) : Prop where
  m : 8 - k ≤ gg
  ik : i ≤ k
  k8 : k ≤ 8
  e : zEnd l (8 - i) i = zEnd l (8 - k) k
theorem RunK.next {l : List Int} {gg i k : Nat} (h : RunK l gg i k) (hk : k < 8) (hz : l.getD k 0 = 0) : RunK l (8 - (k + 1)) i (k + 1) := ⟨by omega, by have := h.ik; omega, by omega, zEnd_on rfl h.e hk hz⟩
theorem RunK.less {l : List Int} {gg i k : Nat} (h : RunK l gg i k) (hk : k < 8) : 8 - (k + 1) < gg := by have := h.m; omega
theorem RunI.less {l : List Int} {gg i a b : Nat} {r : Nat × Nat} (h : RunI l gg i a b r) (hk : i < 8) : 8 - (i + 1) < gg := by have := h.m; omega
theorem RunI.up {l : List Int} {gg i a b e : Nat} {r : Nat × Nat} (h : RunI l gg i a b r) (hi : i < 8) (he : zEnd l (8 - i) i = e) (hie : i ≤ e) (he8 : e ≤ 8) (hc : b - a < e - i) : RunI l (8 - (i + 1)) (i + 1) i e r := ⟨by omega, by omega, hie, he8, runF_up h.res hi he hc⟩
theorem RunI.stay {l : List Int} {gg i a b e : Nat} {r : Nat × Nat} (h : RunI l gg i a b r) (hi : i < 8) (he : zEnd l (8 - i) i = e) (hc : ¬ b - a < e - i) : RunI l (8 - (i + 1)) (i + 1) a b r := ⟨by omega, by omega, h.ab, h.b8, runF_stay h.res hi he hc⟩
set_option maxHeartbeats 4000000 in
set_option maxRecDepth 100000 in
theorem address_run.calls (l0 l1 l2 l3 l4 l5 l6 l7 : Int) (w : World) :
    Calls Tryd.prog 56 #[.agg #[.int .u64 l0, .int .u64 l1, .int .u64 l2, .int .u64 l3, .int .u64 l4, .int .u64 l5, .int .u64 l6, .int .u64 l7]] w fun e w' => e = .returned (.tuple #[.int .i64 ((runF [l0, l1, l2, l3, l4, l5, l6, l7] 8 0 (0, 0)).1 : Nat), .int .i64 ((runF [l0, l1, l2, l3, l4, l5, l6, l7] 8 0 (0, 0)).2 : Nat)]) ∧ Below w.heap.size w w' := by
  obtain ⟨l, hl⟩ : ∃ l, l = [l0, l1, l2, l3, l4, l5, l6, l7] := ⟨_, rfl⟩
  rw [← hl]
  obtain ⟨res, hres⟩ : ∃ res, runF l 8 0 (0, 0) = res := ⟨_, rfl⟩
  have H0 : Aside0 (RunI l 8 0 0 0 res) := ⟨⟨by omega, by omega, by omega, by omega, hres⟩⟩
  rw [hres]
  clear hres
  have hu := Tryd.underlying68
  have hX : (w.alloc (.cells #[.int .u64 l0, .int .u64 l1, .int .u64 l2, .int .u64 l3, .int .u64 l4, .int .u64 l5, .int .u64 l6, .int .u64 l7] 68)).heap[w.heap.size]? = some (.cells #[.int .u64 l0, .int .u64 l1, .int .u64 l2, .int .u64 l3, .int .u64 l4, .int .u64 l5, .int .u64 l6, .int .u64 l7] 68 (0, 0)) := heap_alloc_new _ _
  have HX : Aside0 (∀ k : Nat, k < 8 → (w.alloc (.cells #[.int .u64 l0, .int .u64 l1, .int .u64 l2, .int .u64 l3, .int .u64 l4, .int .u64 l5, .int .u64 l6, .int .u64 l7] 68)).cell? ⟨w.heap.size, k, none⟩ = some (.int .u64 (l.getD k 0))) := ⟨fun k hk => by
    unfold World.cell?
    simp only [hX]
    rcases k with _ | _ | _ | _ | _ | _ | _ | _ | k <;> first | omega | (subst hl; rfl)⟩
  clear hX hl
  have HB : Aside0 (Below w.heap.size w (w.alloc (.cells #[.int .u64 l0, .int .u64 l1, .int .u64 l2, .int .u64 l3, .int .u64 l4, .int .u64 l5, .int .u64 l6, .int .u64 l7] 68))) := ⟨below_alloc (Below.refl _ _) _⟩
  go_enter Tryd.func56, Tryd.ntmps56
  go_upto_region 1 with (fail)
  obtain ⟨g, hg⟩ : ∃ g, w.heap.size = g := ⟨_, rfl⟩
  rw [hg] at HX
  simp only [hg]
  clear hg
  generalize w.alloc (.cells #[.int .u64 l0, .int .u64 l1, .int .u64 l2, .int .u64 l3, .int .u64 l4, .int .u64 l5, .int .u64 l6, .int .u64 l7] 68) = W at HX HB ⊢
  skip
  go_wp2_with fail
  go_loopg [2, 3, 6] 8 (fun gg v2 v3 v6 wr => ∃ (i a b : Nat), v2 = .int .i64 (a : Int) ∧ v3 = .int .i64 (b : Int) ∧ v6 = .int .i64 (i : Int) ∧ Aside0 (RunI l gg i a b res) ∧ wr = W)
  case atStart => exact ⟨0, 0, 0, rfl, rfl, rfl, H0, rfl⟩
  case round =>
    obtain ⟨i, a, b, rfl, rfl, rfl, HI, hwr⟩ := hrel
    rw [hwr]
    clear hwr
    clear H0
    by_cases hi8 : i < 8
    · have hlt := r_lt hi8
      have hlt2 := r_ltd hi8
      have HI8 := Aside0.mk hi8
      clear hi8
      go_wp2_with fail
      go_loopg [5] 8 (fun gg v5 wr => ∃ (k : Nat), v5 = .int .i64 (k : Int) ∧ Aside0 (RunK l gg i k) ∧ wr = W)
      case atStart => exact ⟨i, rfl, ⟨⟨by omega, Nat.le_refl _, HI.out.i8, rfl⟩⟩, rfl⟩
      case round =>
        clear hlt hlt2
        obtain ⟨k, rfl, HK, hwr2⟩ := hrel
        rw [hwr2]
        clear hwr2
        by_cases hk : k < 8
        · have hlk := r_lt hk
          have hlk2 := r_ltd hk
          have hc : W.cell? ⟨g, k, none⟩ = some (.int .u64 (l.getD k 0)) := HX.out k hk
          by_cases hz : l.getD k 0 = 0
          · rw [hz] at hc
            have HF : Aside0 (RunK l (8 - (k + 1)) i (k + 1)) := ⟨HK.out.next hk hz⟩
            have HL := Aside0.mk (HK.out.less hk)
            have HS : Aside0 (wrap64 ((k : Int) + 1) = ((k + 1 : Nat) : Int)) := ⟨r_suc HK.out.k8⟩
            clear hk hz HK
            go_upto_region 6 with (fail)
            clear hlk hlk2 hc
            go_wp2_with fail
            go_roundg (8 - (k + 1))
            case measure => exact HL.out
            case rel => exact ⟨k + 1, by rw [HS.out], HF, rfl⟩
          · have HZ : Aside0 (zEnd l (8 - i) i = k) := ⟨zEnd_at HK.out.e hk hz⟩
            have hz1 : (l.getD k 0 == 0) = false := by simpa using hz
            have hz2 : decide (l.getD k 0 = 0) = false := by simpa using hz
            have HIK : Aside0 (i ≤ k) := ⟨HK.out.ik⟩
            have HK8 : Aside0 (k ≤ 8) := ⟨HK.out.k8⟩
            clear hk hz HK
            generalize l.getD k 0 = z at hc hz1 hz2
            go_upto_region 7 with (fail)
            clear hlk hlk2 hc hz1 hz2
            by_cases hcmp : b - a < k - i
            · have hcmp1 : decide (wrap64 ((k : Int) - (i : Int)) > wrap64 ((b : Int) - (a : Int))) = true := by rw [r_sub HIK.out HK8.out, r_sub HI.out.ab HI.out.b8]; exact r_gt hcmp
              have hcmp2 : (wrap64 ((k : Int) - (i : Int)) > wrap64 ((b : Int) - (a : Int))) = True := eq_true (of_decide_eq_true hcmp1)
              have HN : Aside0 (RunI l (8 - (i + 1)) (i + 1) i k res) := ⟨HI.out.up HI8.out HZ.out HIK.out HK8.out hcmp⟩
              have HL := Aside0.mk (HI.out.less HI8.out)
              have HS : Aside0 (wrap64 ((i : Int) + 1) = ((i + 1 : Nat) : Int)) := ⟨r_suc HI.out.i8⟩
              clear hcmp
              go_wp2_with fail
              go_roundg (8 - (i + 1))
              case measure => exact HL.out
              case rel => exact ⟨i + 1, i, k, rfl, rfl, by rw [HS.out], HN, rfl⟩
            · have hcmp1 : decide (wrap64 ((k : Int) - (i : Int)) > wrap64 ((b : Int) - (a : Int))) = false := by rw [r_sub HIK.out HK8.out, r_sub HI.out.ab HI.out.b8]; exact r_ngt hcmp
              have hcmp2 : (wrap64 ((k : Int) - (i : Int)) > wrap64 ((b : Int) - (a : Int))) = False := eq_false (of_decide_eq_false hcmp1)
              have HN : Aside0 (RunI l (8 - (i + 1)) (i + 1) a b res) := ⟨HI.out.stay HI8.out HZ.out hcmp⟩
              have HL := Aside0.mk (HI.out.less HI8.out)
              have HS : Aside0 (wrap64 ((i : Int) + 1) = ((i + 1 : Nat) : Int)) := ⟨r_suc HI.out.i8⟩
              clear hcmp
              go_wp2_with fail
              go_roundg (8 - (i + 1))
              case measure => exact HL.out
              case rel => exact ⟨i + 1, a, b, rfl, rfl, by rw [HS.out], HN, rfl⟩
        · have HZ : Aside0 (zEnd l (8 - i) i = k) := ⟨zEnd_8 HK.out.e hk HK.out.k8⟩
          have hlk := r_ge hk
          have hlk2 := r_ged hk
          have HIK : Aside0 (i ≤ k) := ⟨HK.out.ik⟩
          have HK8 : Aside0 (k ≤ 8) := ⟨HK.out.k8⟩
          clear hk HK
          go_upto_region 7 with (fail)
          clear hlk hlk2
          by_cases hcmp : b - a < k - i
          · have hcmp1 : decide (wrap64 ((k : Int) - (i : Int)) > wrap64 ((b : Int) - (a : Int))) = true := by rw [r_sub HIK.out HK8.out, r_sub HI.out.ab HI.out.b8]; exact r_gt hcmp
            have hcmp2 : (wrap64 ((k : Int) - (i : Int)) > wrap64 ((b : Int) - (a : Int))) = True := eq_true (of_decide_eq_true hcmp1)
            have HN : Aside0 (RunI l (8 - (i + 1)) (i + 1) i k res) := ⟨HI.out.up HI8.out HZ.out HIK.out HK8.out hcmp⟩
            have HL := Aside0.mk (HI.out.less HI8.out)
            have HS : Aside0 (wrap64 ((i : Int) + 1) = ((i + 1 : Nat) : Int)) := ⟨r_suc HI.out.i8⟩
            clear hcmp
            go_wp2_with fail
            go_roundg (8 - (i + 1))
            case measure => exact HL.out
            case rel => exact ⟨i + 1, i, k, rfl, rfl, by rw [HS.out], HN, rfl⟩
          · have hcmp1 : decide (wrap64 ((k : Int) - (i : Int)) > wrap64 ((b : Int) - (a : Int))) = false := by rw [r_sub HIK.out HK8.out, r_sub HI.out.ab HI.out.b8]; exact r_ngt hcmp
            have hcmp2 : (wrap64 ((k : Int) - (i : Int)) > wrap64 ((b : Int) - (a : Int))) = False := eq_false (of_decide_eq_false hcmp1)
            have HN : Aside0 (RunI l (8 - (i + 1)) (i + 1) a b res) := ⟨HI.out.stay HI8.out HZ.out hcmp⟩
            have HL := Aside0.mk (HI.out.less HI8.out)
            have HS : Aside0 (wrap64 ((i : Int) + 1) = ((i + 1 : Nat) : Int)) := ⟨r_suc HI.out.i8⟩
            clear hcmp
            go_wp2_with fail
            go_roundg (8 - (i + 1))
            case measure => exact HL.out
            case rel => exact ⟨i + 1, a, b, rfl, rfl, by rw [HS.out], HN, rfl⟩
    · have HR := Aside0.mk (runF_8 HI.out.res hi8)
      have hlt := r_ge hi8
      have hlt2 := r_ged hi8
      clear hi8
      obtain ⟨he1, he2⟩ := HR.out
      subst he1 he2
      clear HR
      go_wp2_with fail
      exact bodyPost_ret (v := .tuple #[.int .i64 (res.1 : Int), .int .i64 (res.2 : Int)]) (by simp [results, Tryd.results56, go_sem]) rfl ⟨rfl, HB.out⟩
end Go.Proofs.YtlgfinnldhjgeaaDoor.Q
end

section
set_option linter.unusedVariables false
set_option linter.unusedSimpArgs false
namespace Go.Proofs.YtlgfinnldhjgeaaDoor.Q
open Go.RowKit Go.Proofs.YtlgfinnldhjgeaaDoorW.PrintWords Go.Proofs.YtlgfinnldhjgeaaDoorW.PrintLast Go.Proofs.YtlgfinnldhjgeaaDoorW.PrintMore
def hexD (n : Nat) : UInt8 := [48, 49, 50, 51, 52, 53, 54, 55, 56, 57, 97, 98, 99, 100, 101, 102].getD n 0
def hexL : Nat → Nat → List UInt8
  | 0, _ => []
  | k + 1, n => if n < 16 then [hexD n] else hexL k (n / 16) ++ [hexD (n % 16)]
theorem pow2_16 (w : World) : Calls Tryd.prog 100 #[.int .i64 16] w fun e w' => e = .returned (.bool true) ∧ Below w.heap.size w w' := by
  go_enter Tryd.func100, Tryd.ntmps100
  go_wp2
  go_ret
  exact ⟨rfl, by repeat (first | (with_reducible apply below_alloc) | (with_reducible apply pw_below_drewN) | (with_reducible apply below_drew1) | exact Below.refl _ _)⟩
theorem tz16 (w : World) (hW : WOK w) : Calls Tryd.prog 101 #[.int .u64 16] w fun e w' => e = .returned (.int .i64 4) ∧ Below w.heap.size w w' := by
  have h := Tryd.bits_TrailingZeros 16 (by decide) w (fun _ => hW.bit)
  rw [show Lib.ctz 64 16 = 4 from by decide] at h
  refine h.mono ?_
  rintro e w' ⟨rfl, rfl⟩
  exact ⟨rfl, Below.refl _ _⟩
theorem bits_and15 (x : Nat) (hx : x < 18446744073709551616) : Go.bits .and .u64 (x : Int) 15 = ((x % 16 : Nat) : Int) := by
  have e : ∀ y : Nat, y < 18446744073709551616 → (BitVec.ofInt 64 (y : Int)).toNat = y := fun y hy => by rw [BitVec.toNat_ofInt]; simp; omega
  unfold Go.bits
  show IntKind.u64.wrap ((((BitVec.ofInt 64 (x : Int)) &&& (BitVec.ofInt 64 ((15 : Nat) : Int))).toNat : Nat) : Int) = _
  rw [BitVec.toNat_and, e x hx, e 15 (by decide), show (15 : Nat) = 2 ^ 4 - 1 from rfl, Nat.and_two_pow_sub_one_eq_mod]
  exact IntWalk.u64_in _ ⟨by omega, by have := Nat.mod_lt x (show 0 < 2 ^ 4 by decide); omega⟩
structure HexAt (w0 : World) (g : Nat) (n0 : Nat) (wr : World) (i u : Nat) : Prop where
  arr : ∃ cs : Array Value, wr.heap[g]? = some (.cells cs 114 (0, 0)) ∧ cs.size = 65 ∧ ∃ ds : List UInt8, cs.toList.drop i = ds.map (fun d => Value.int .u8 d.toNat) ∧ ds.length = 65 - i ∧ hexL 4 n0 = hexL (i - 61) u ++ ds
  lo : 62 ≤ i
  hi : i ≤ 65
  small : u < 16 ^ (i - 61)
  bel : Below w0.heap.size w0 wr
theorem drop_set_self {l : List Value} {j : Nat} (hj : j < l.length) (v : Value) : (l.set j v).drop j = v :: l.drop (j + 1) := by
  rw [List.drop_eq_getElem_cons (by simpa using hj), List.getElem_set_self, List.drop_set_of_lt (by omega)]
theorem HexAt.put {w0 wr : World} {g n0 j n : Nat} (h : HexAt w0 g n0 wr (j + 1) n) (hn : 16 ≤ n) (hg : w0.heap.size ≤ g) (dv : UInt8) (hd : dv = hexD (n % 16)) : HexAt w0 g n0 (wr.setCell ⟨g, j, none⟩ (.int .u8 dv.toNat)) j (n / 16) := by
  obtain ⟨⟨cs, hx, hs, ds, hd1, hd2, hd3⟩, hlo, hhi, hsm, hbl⟩ := h
  have hj : 62 ≤ j := by
    rcases Nat.lt_or_ge j 62 with h | h
    · rw [show j + 1 - 61 = 1 from by omega] at hsm; omega
    · exact h
  have hk : j + 1 - 61 = (j - 61) + 1 := by omega
  rw [hk] at hsm hd3
  refine ⟨⟨_, blk_set hx j _, by simpa using hs, dv :: ds, ?_, by simp; omega, ?_⟩, hj, by omega, ?_, hbl.setCell hg _⟩
  · rw [Array.toList_setIfInBounds, drop_set_self (by simpa using by omega), hd1]
    rfl
  · rw [hd3, hexL, if_neg (by omega), hd, List.append_assoc]
    rfl
  · rw [Nat.pow_succ] at hsm
    exact Nat.div_lt_of_lt_mul (by rw [Nat.mul_comm]; exact hsm)
theorem HexAt.last {w0 wr : World} {g n0 j n : Nat} (h : HexAt w0 g n0 wr (j + 1) n) (hn : n < 16) (hg : w0.heap.size ≤ g) (dv : UInt8) (hd : dv = hexD n) :
    Below w0.heap.size w0 (wr.setCell ⟨g, j, none⟩ (.int .u8 dv.toNat)) ∧ ∃ cs : Array Value, (wr.setCell ⟨g, j, none⟩ (.int .u8 dv.toNat)).heap[g]? = some (.cells cs 114 (0, 0)) ∧ cs.size = 65 ∧ cs.toList.drop j = (hexL 4 n0).map (fun d => Value.int .u8 d.toNat) := by
  obtain ⟨⟨cs, hx, hs, ds, hd1, hd2, hd3⟩, hlo, hhi, hsm, hbl⟩ := h
  refine ⟨hbl.setCell hg _, _, blk_set hx j _, by simpa using hs, ?_⟩
  rw [Array.toList_setIfInBounds, drop_set_self (by simpa using by omega), hd1, hd3, show j + 1 - 61 = (j - 61) + 1 from by omega, hexL, if_pos hn, hd]
  rfl
theorem digit_ix : ∀ d : Nat, d < 16 → ∀ h, (⟨#[48, 49, 50, 51, 52, 53, 54, 55, 56, 57, 97, 98, 99, 100, 101, 102, 103, 104, 105, 106, 107, 108, 109, 110, 111, 112, 113, 114, 115, 116, 117, 118, 119, 120, 121, 122]⟩ : ByteArray)[d]'h = hexD d := by decide
theorem digit_at (n : Nat) (h : (Go.bits .and .u64 (n : Int) 15).toNat < (⟨#[48, 49, 50, 51, 52, 53, 54, 55, 56, 57, 97, 98, 99, 100, 101, 102, 103, 104, 105, 106, 107, 108, 109, 110, 111, 112, 113, 114, 115, 116, 117, 118, 119, 120, 121, 122]⟩ : ByteArray).size) (hb : Go.bits .and .u64 (n : Int) 15 = ((n % 16 : Nat) : Int)) :
    (⟨#[48, 49, 50, 51, 52, 53, 54, 55, 56, 57, 97, 98, 99, 100, 101, 102, 103, 104, 105, 106, 107, 108, 109, 110, 111, 112, 113, 114, 115, 116, 117, 118, 119, 120, 121, 122]⟩ : ByteArray)[(Go.bits .and .u64 (n : Int) 15).toNat]'h = hexD (n % 16) := by
  have e : (Go.bits .and .u64 (n : Int) 15).toNat = n % 16 := by rw [hb]; exact Int.toNat_natCast _
  have hlt : n % 16 < 16 := Nat.mod_lt _ (by decide)
  have key : ∀ m (hm : m < (⟨#[48, 49, 50, 51, 52, 53, 54, 55, 56, 57, 97, 98, 99, 100, 101, 102, 103, 104, 105, 106, 107, 108, 109, 110, 111, 112, 113, 114, 115, 116, 117, 118, 119, 120, 121, 122]⟩ : ByteArray).size), m = n % 16 → (⟨#[48, 49, 50, 51, 52, 53, 54, 55, 56, 57, 97, 98, 99, 100, 101, 102, 103, 104, 105, 106, 107, 108, 109, 110, 111, 112, 113, 114, 115, 116, 117, 118, 119, 120, 121, 122]⟩ : ByteArray)[m]'hm = hexD (n % 16) := fun m hm e2 => by subst e2; exact digit_ix _ hlt _
  exact key _ h e
theorem hex_slice (ga j : Nat) (hj : j < 65) (h0 : 0 < j) : ∀ W, (Instr.sliceAt 114 (.pointer (some ⟨ga, 0, none⟩)) (some (.int .i64 (j : Int))) none none).run Tryd.prog W = .ok (.slice (some ⟨ga, j, none⟩) (65 - j) (65 - j)) W := fun W => by
  have hal : Tryd.prog.arrayLen 114 = 65 := by kernel_rfl
  rw [run_sliceAt_array_l W 114 ⟨ga, 0, none⟩ (by kernel_rfl) .i64 (j : Int) (by omega) (by rw [hal]; omega), hal]
  go_simp
  omega
theorem hex_string {W : World} {ga j : Nat} {cs : Array Value} {l : List UInt8} (hx : W.heap[ga]? = some (.cells cs 114 (0, 0))) (hs : cs.size = 65) (hd : cs.toList.drop j = l.map (fun d => Value.int .u8 d.toNat)) (hj : j < 65) :
    (convert 75 9 (.slice (some ⟨ga, j, none⟩) (65 - j) (65 - j))).run Tryd.prog W = .ok (.string ⟨l.toArray⟩) W := by
  have hlen : l.length = 65 - j := by
    have := congrArg List.length hd
    simp only [List.length_drop, List.length_map, Array.length_toList] at this
    omega
  have hr : ReadsInt W .u8 (some ⟨ga, j, none⟩) (65 - j) (l.map (fun d => (d.toNat : Int))) := by
    refine ⟨by simp [hlen], by omega, fun _ => ⟨_, rfl, fun i hi => ?_⟩⟩
    have e : (⟨ga, j, none⟩ : Addr).add i = ⟨ga, j + i, none⟩ := by
      unfold Addr.add
      by_cases h0 : i = 0
      · rw [if_pos h0, h0]; rfl
      · rw [if_neg h0]
    rw [e]
    unfold World.cell?
    simp only [hx]
    have h2 := congrArg (fun q => q[i]?) hd
    simp only [List.getElem?_drop, List.getElem?_map] at h2
    rw [List.getElem?_eq_getElem (show i < l.length from by omega)] at h2
    simp only [Option.isSome_none, Bool.false_eq_true, if_false]
    rw [← Array.getElem?_toList, h2]
    simp [List.getElem?_eq_getElem (show i < l.length from by omega)]
  have := string_of_reads (P := Tryd.prog) (src := 75) (dst := 9) (e := 5) (c := 65 - j) (by kernel_rfl) (by kernel_rfl) (by kernel_rfl) hr
  have e : strOfNums (l.map (fun d => (d.toNat : Int))) = ⟨l.toArray⟩ := by
    have h2 : ∀ l : List UInt8, (l.map (fun d => (d.toNat : Int))).map (fun n => UInt8.ofNat n.toNat) = l := fun l => by
      induction l with
      | nil => rfl
      | cons a t ih => simp only [List.map_cons, ih, Int.toNat_natCast, UInt8.ofNat_toNat]
    unfold strOfNums
    rw [h2]
  rw [this, e]
set_option maxHeartbeats 4000000 in
set_option maxRecDepth 100000 in
theorem formatBits16 (u : Nat) (hu : u < 65536) (w : World) (hW : WOK w) : Calls Tryd.prog 87 #[.slice none 0 0, .int .u64 (u : Int), .int .i64 16, .bool false, .bool false] w fun e w' => e = .returned (.tuple #[.slice none 0 0, .string ⟨(hexL 4 u).toArray⟩]) ∧ Below w.heap.size w w' := by
  have HW := Aside0.mk hW
  clear hW
  go_enter Tryd.func87, Tryd.ntmps87
  go_wp2_with fail
  refine (pow2_16 _).mono ?_
  rintro e w2 ⟨rfl, hb⟩
  have hX := blk_below (heap_alloc_new w (.cells Tryd.zeroCells114 114)) hb
  have hB := (below_alloc (Below.refl w.heap.size w) (.cells Tryd.zeroCells114 114)).trans (hb.mono (by simp))
  have HX := Aside0.mk hX
  have HB := Aside0.mk hB
  have hG : w.heap.size ≤ w.heap.size := Nat.le_refl _
  revert HX hG
  clear hb hX hB
  generalize hga : w.heap.size = ga
  intro HX hG
  have HG : Aside0 (w.heap.size ≤ ga) := ⟨by omega⟩
  clear hG
  go_wp2_with fail
  refine (tz16 _ (HW.out.below (hga ▸ HB.out))).mono ?_
  rintro e w3 ⟨rfl, hb⟩
  have HX3 := Aside0.mk (blk_below HX.out hb)
  have HB3 := Aside0.mk (HB.out.trans (hb.mono (HB.out.size)))
  clear hb HX HB
  clear hga
  have H0 : Aside0 (HexAt w ga u w3 65 u) := ⟨⟨⟨_, HX3.out, by rfl, [], by rfl, rfl, by simp⟩, by omega, by omega, by simpa using hu, HB3.out⟩⟩
  clear HX3 HB3
  go_wp2_with fail
  go_loopg [1, 13] 65 (fun gg v1 v13 wr => ∃ (i n : Nat), i ≤ gg ∧ v1 = .int .u64 (n : Int) ∧ v13 = .int .i64 (i : Int) ∧ Aside0 (HexAt w ga u wr i n))
  case atStart => exact ⟨65, u, by omega, rfl, rfl, H0⟩
  case round =>
    obtain ⟨i, n, hig, rfl, rfl, HA⟩ := hrel
    clear H0
    by_cases hn : 16 ≤ n
    · have hn1 : ((n : Int) ≥ 16) = True := eq_true (by omega)
      have hn2 : decide ((n : Int) ≥ 16) = true := decide_eq_true (by omega)
      have hA := HA.out
      obtain ⟨⟨cs, hx, hs, ds, hd1, hd2, hd3⟩, hlo, hhi, hsm, hbl⟩ := hA
      have hi2 : 63 ≤ i := by
        rcases Nat.lt_or_ge i 63 with h | h
        · rw [show i - 61 = 1 from by omega] at hsm; omega
        · exact h
      obtain ⟨j, rfl⟩ : ∃ j, i = j + 1 := ⟨i - 1, by omega⟩
      have hw1 : wrap64 (j : Int) = (j : Int) := by unfold wrap64; omega
      have hw0 : ((j + 1 : Nat) : Int) - 1 = (j : Int) := by omega
      have hq0 : Go.bits .and .u64 (n : Int) 15 = ((n % 16 : Nat) : Int) := bits_and15 n (by
        have : 16 ^ (j + 1 - 61) ≤ 16 ^ 4 := Nat.pow_le_pow_right (by decide) (by omega)
        omega)
      have hq1 : (0 ≤ Go.bits .and .u64 (n : Int) 15 ∧ Go.bits .and .u64 (n : Int) 15 < 36) = True := eq_true (by rw [hq0]; omega)
      have hj1 : ((j : Int) < 65) = True := eq_true (by omega)
      have hc1 : ∃ old, wr.cell? ⟨ga, j, none⟩ = some old := by
        unfold World.cell?
        simp only [hx]
        exact ⟨_, Array.getElem?_eq_getElem (show j < cs.size from by omega)⟩
      obtain ⟨old, hc⟩ := hc1
      have hf : wr.frozen? ⟨ga, j, none⟩ = false := by
        unfold World.frozen?
        simp only [hx]
        simp
      clear hx hs hd1 hd2 hd3 hsm hbl
      have HQ0 := Aside0.mk hq0
      clear hq0
      go_wp2_with fail
      go_roundg j
      case measure => omega
      case rel => exact ⟨j, n / 16, Nat.le_refl _, by simp, rfl, ⟨HA.out.put hn HG.out _ (digit_at n _ HQ0.out)⟩⟩
    · have hA := HA.out
      obtain ⟨⟨cs, hx, hs, ds, hd1, hd2, hd3⟩, hlo, hhi, hsm, hbl⟩ := hA
      obtain ⟨j, rfl⟩ : ∃ j, i = j + 1 := ⟨i - 1, by omega⟩
      have hn1 : ((n : Int) ≥ 16) = False := eq_false (by omega)
      have hn2 : decide ((n : Int) ≥ 16) = false := decide_eq_false (by omega)
      have hw1 : wrap64 (j : Int) = (j : Int) := by unfold wrap64; omega
      have hw0 : ((j + 1 : Nat) : Int) - 1 = (j : Int) := by omega
      have hn36 : ((n : Int) < 36) = True := eq_true (by omega)
      have hj1 : ((j : Int) < 65) = True := eq_true (by omega)
      have hc1 : ∃ old, wr.cell? ⟨ga, j, none⟩ = some old := by
        unfold World.cell?
        simp only [hx]
        exact ⟨_, Array.getElem?_eq_getElem (show j < cs.size from by omega)⟩
      obtain ⟨old, hc⟩ := hc1
      have hf : wr.frozen? ⟨ga, j, none⟩ = false := by
        unfold World.frozen?
        simp only [hx]
        simp
      have HJ : Aside0 (62 ≤ j + 1 ∧ j + 1 ≤ 65) := ⟨hlo, hhi⟩
      clear hx hs hd1 hd2 hd3 hsm hbl
      go_upto_region 30 with (fail)
      have hD : ∀ h, (⟨#[48, 49, 50, 51, 52, 53, 54, 55, 56, 57, 97, 98, 99, 100, 101, 102, 103, 104, 105, 106, 107, 108, 109, 110, 111, 112, 113, 114, 115, 116, 117, 118, 119, 120, 121, 122]⟩ : ByteArray)[n]'h = hexD n := fun h => digit_ix n (by omega) h
      have hl := HA.out.last (by omega) HG.out (hexD n) rfl
      simp only [hD]
      obtain ⟨hb, cs, hx, hs, hd⟩ := hl
      have hj2 := HJ.out
      have hsl := hex_slice ga j (by omega) (by omega)
      have hst := hex_string hx hs hd (by omega)
      have HB := Aside0.mk hb
      clear hx hs hd hb hc hf HA hD
      generalize wr.setCell ⟨ga, j, none⟩ (.int .u8 (hexD n).toNat) = W at hst HB ⊢
      go_wp2_with fail
      exact bodyPost_ret (v := .tuple #[.slice none 0 0, .string ⟨(hexL 4 u).toArray⟩]) (by simp [results, Tryd.results87, go_sem]) rfl ⟨rfl, HB.out⟩
set_option maxHeartbeats 1000000 in
theorem formatUint16 (u : Nat) (hu : u < 65536) (w : World) (hW : WOK w) : Calls Tryd.prog 76 #[.int .u64 (u : Int), .int .i64 16] w fun e w' => e = .returned (.string ⟨(hexL 4 u).toArray⟩) ∧ Below w.heap.size w w' := by
  go_enter Tryd.func76, Tryd.ntmps76
  go_wp2_with fail
  refine (formatBits16 u hu _ (hW.below (by repeat (first | (with_reducible apply below_alloc) | (with_reducible apply pw_below_drewN) | (with_reducible apply below_drew1) | exact Below.refl _ _)))).mono ?_
  rintro e w2 ⟨rfl, hb⟩
  have HB := Aside0.mk hb
  clear hb
  go_wp2_with fail
  go_ret
  exact ⟨rfl, by first | exact HB.out | exact (below_alloc (Below.refl _ _) _).trans (HB.out.mono (by simp))⟩
set_option maxHeartbeats 1000000 in
theorem formatUint16p (u : Nat) (hu : u < 65536) (w : World) (hW : WOK w) : Calls Tryd.prog 58 #[.int .u64 (u : Int), .int .i64 16] w fun e w' => e = .returned (.string ⟨(hexL 4 u).toArray⟩) ∧ Below w.heap.size w w' := by
  go_enter Tryd.func58, Tryd.ntmps58
  go_wp2_with fail
  refine (formatUint16 u hu _ (hW.below (by repeat (first | (with_reducible apply below_alloc) | (with_reducible apply pw_below_drewN) | (with_reducible apply below_drew1) | exact Below.refl _ _)))).mono ?_
  rintro e w2 ⟨rfl, hb⟩
  have HB := Aside0.mk hb
  clear hb
  go_wp2_with fail
  go_ret
  exact ⟨rfl, by first | exact HB.out | exact (below_alloc (Below.refl _ _) _).trans (HB.out.mono (by simp))⟩
def strconv_FormatUint.f (i : Int) (base : Int) : Option ByteArray := if base = 16 then if 0 ≤ i ∧ i < 65536 then some ⟨(hexL 4 i.toNat).toArray⟩ else none else none
theorem strconv_FormatUint.calls (i base : Int) (r : ByteArray) (w : World) (h : strconv_FormatUint.f i base = some r) (hW : WOK w) :
    Calls Tryd.prog 58 #[.int .u64 i, .int .i64 base] w fun e w' => e = .returned (.string r) ∧ Below w.heap.size w w' := by
  unfold strconv_FormatUint.f at h
  split at h
  case isFalse => cases h
  rename_i hb
  subst hb
  split at h
  case isFalse => cases h
  rename_i hi
  injection h with h
  subst h
  have := formatUint16p i.toNat (by omega) w hW
  rw [show ((i.toNat : Nat) : Int) = i from by omega] at this
  exact this
end Go.Proofs.YtlgfinnldhjgeaaDoor.Q
end

section
set_option linter.unusedVariables false
set_option linter.unusedSimpArgs false
namespace Go.Proofs.YtlgfinnldhjgeaaDoor.Q
open Go.RowKit Go.Proofs.YtlgfinnldhjgeaaDoorW.PrintWords Go.Proofs.YtlgfinnldhjgeaaDoorW.PrintLast Go.Proofs.YtlgfinnldhjgeaaDoorW.PrintMore
theorem blk_apart {α : Type} {d : Kd α} {W w1 : World} {g base : Nat} {cs : Array Value} {t e : TypeId} {ok : Nat → Prop} {v : Value} {xs : List α} (hX : W.heap[g]? = some (.cells cs t (0, 0))) (ht : t ≠ e) (hR : d.R e W base ok v xs) (hg : W.grownBy w1 v.ownBlock) : w1.heap[g]? = some (.cells cs t (0, 0)) :=
  blk_grown hX hg (fun h => by
    obtain ⟨c, hc⟩ := Kd.R_typed hR g h.symm
    rw [hX] at hc
    injection hc with hc
    injection hc with _ hc
    exact ht hc)
def decB (n : Int) : ByteArray := ⟨(Lib.itoa n).toArray⟩
theorem itoa_b {x : Int} (h : 0 ≤ Go.bits .and .u64 x 255 ∧ Go.bits .and .u64 x 255 < 256) : strconv_Itoa.f (wrap64 (Go.bits .and .u64 x 255)) = some (decB (Go.bits .and .u64 x 255)) := by
  have e : wrap64 (Go.bits .and .u64 x 255) = Go.bits .and .u64 x 255 := by unfold wrap64; omega
  unfold strconv_Itoa.f decB
  rw [e, if_pos (by omega)]
theorem and255 (x : Int) : 0 ≤ Go.bits .and .u64 x 255 ∧ Go.bits .and .u64 x 255 < 256 := by
  unfold Go.bits
  have h1 : ((BitVec.ofInt 64 x) &&& (BitVec.ofInt 64 255)).toNat < 256 := by
    rw [BitVec.toNat_and, show (BitVec.ofInt 64 255).toNat = 2 ^ 8 - 1 from by decide, Nat.and_two_pow_sub_one_eq_mod]
    exact Nat.mod_lt _ (by decide)
  show 0 ≤ IntKind.u64.wrap _ ∧ IntKind.u64.wrap _ < 256
  rw [IntWalk.u64_in _ ⟨by show (0 : Int) ≤ (((BitVec.ofInt 64 x) &&& (BitVec.ofInt 64 255)).toNat : Int); omega, by show (((BitVec.ofInt 64 x) &&& (BitVec.ofInt 64 255)).toNat : Int) ≤ _; omega⟩]
  exact ⟨by show (0 : Int) ≤ (((BitVec.ofInt 64 x) &&& (BitVec.ofInt 64 255)).toNat : Int); omega, by show (((BitVec.ofInt 64 x) &&& (BitVec.ofInt 64 255)).toNat : Int) < 256; omega⟩
set_option maxHeartbeats 4000000 in
set_option maxRecDepth 100000 in
theorem format4 (hi lo : Int) (r : ByteArray) (w : World) (hr : strings_Join.f [decB (Go.bits .and .u64 (lo / 16777216) 255), decB (Go.bits .and .u64 (lo / 65536) 255), decB (Go.bits .and .u64 (lo / 256) 255), decB (Go.bits .and .u64 (lo) 255)] (⟨#[46]⟩ : ByteArray) = some r) (hW : WOK w) : Calls Tryd.prog 33 #[.agg #[.bool false, .int .u64 hi, .int .u64 lo]] w fun e w' => e = .returned (.string r) ∧ Below w.heap.size w w' := by
  have HW := Aside0.mk hW
  have HJ := Aside0.mk hr
  clear hW hr
  have HX : Aside0 ((w.alloc (.cells #[.bool false, .int .u64 hi, .int .u64 lo] 25)).heap[w.heap.size]? = some (.cells #[.bool false, .int .u64 hi, .int .u64 lo] 25 (0, 0))) := ⟨heap_alloc_new _ _⟩
  have HB : Aside0 (Below w.heap.size w (w.alloc (.cells #[.bool false, .int .u64 hi, .int .u64 lo] 25))) := ⟨below_alloc (Below.refl _ _) _⟩
  have HO : Aside0 (Kd.R Kd.string 9 (w.alloc (.cells #[.bool false, .int .u64 hi, .int .u64 lo] 25)) w.heap.size (fun _ => True) (.slice none 0 0) ([] : List ByteArray)) := ⟨Kd.R_nil _ _ _ _ _⟩
  go_enter Tryd.func33, Tryd.ntmps33
  go_upto_region 3 with (fail)
  obtain ⟨g, hg⟩ : ∃ g, w.heap.size = g := ⟨_, rfl⟩
  rw [hg] at HX
  simp only [hg]
  clear hg
  generalize w.alloc (.cells #[.bool false, .int .u64 hi, .int .u64 lo] 25) = W at HX HB HO ⊢
  go_upto_region 4 with (fail)
  refine wp_loop_rounds 5 ?_
  have hc : W.cell? ⟨g, 2, none⟩ = some (.int .u64 lo) := (blk_cell HX.out 2).trans rfl
  rw [rounds_succ]
  go_wp2_with fail
  clear hc
  refine (strconv_Itoa.calls _ _ _ (itoa_b (and255 _)) (HW.out.below HB.out)).mono ?_
  rintro e w2 ⟨rfl, hb⟩
  replace HX := Aside0.mk (blk_below HX.out hb)
  replace HO := Aside0.mk (Kd.R_below HO.out hb)
  replace HB := Aside0.mk (below_step HB.out hb)
  clear hb
  go_wp2_with (first | ((with_reducible refine gate_builtin (b := .append) (xs := #[.tmp 17, .tmp 27]) rfl ?_); at_builtin; refine Kd.R_append Kd.string (w0 := w) w.heap.size rfl (.tmp 17) (.tmp 27) 56 9 (.string ⟨#[]⟩) 16 rfl Tryd.underlying56 info9 rfl (by decide) (by omega) _ ([] : List ByteArray) (decB (Go.bits .and .u64 (lo / 16777216) 255)) [.string (decB (Go.bits .and .u64 (lo / 16777216) 255))] (fun _ => True) (fun _ => False) rfl rfl ?aP (fun _ hk => hk.elim) ?aF ?aO ?aB ?aS ?aL ?_; (case aP => exact rfl); (case aB => exact HB.out); (case aF => exact (fun _ _ => trivial)); (case aO => exact HO.out); (case aS => exact (below_size HB.out)); (case aL => simp); intro v0 W0 ho hb hg hat; replace HX := Aside0.mk (blk_apart HX.out (by decide) HO.out hg); replace HB := Aside0.mk hb; replace HO := Aside0.mk ho; clear ho hb hg hat))
  have hc : W0.cell? ⟨g, 2, none⟩ = some (.int .u64 lo) := (blk_cell HX.out 2).trans rfl
  rw [rounds_succ]
  go_wp2_with fail
  clear hc
  refine (strconv_Itoa.calls _ _ _ (itoa_b (and255 _)) (HW.out.below HB.out)).mono ?_
  rintro e w2 ⟨rfl, hb⟩
  replace HX := Aside0.mk (blk_below HX.out hb)
  replace HO := Aside0.mk (Kd.R_below HO.out hb)
  replace HB := Aside0.mk (below_step HB.out hb)
  clear hb
  go_wp2_with (first | ((with_reducible refine gate_builtin (b := .append) (xs := #[.tmp 17, .tmp 27]) rfl ?_); at_builtin; refine Kd.R_append Kd.string (w0 := w) w.heap.size rfl (.tmp 17) (.tmp 27) 56 9 (.string ⟨#[]⟩) 16 rfl Tryd.underlying56 info9 rfl (by decide) (by omega) _ [decB (Go.bits .and .u64 (lo / 16777216) 255)] (decB (Go.bits .and .u64 (lo / 65536) 255)) [.string (decB (Go.bits .and .u64 (lo / 65536) 255))] (fun _ => True) (fun _ => False) rfl rfl ?aP (fun _ hk => hk.elim) ?aF ?aO ?aB ?aS ?aL ?_; (case aP => exact rfl); (case aB => exact HB.out); (case aF => exact (fun _ _ => trivial)); (case aO => exact HO.out); (case aS => exact (below_size HB.out)); (case aL => simp); intro v1 W1 ho hb hg hat; replace HX := Aside0.mk (blk_apart HX.out (by decide) HO.out hg); replace HB := Aside0.mk hb; replace HO := Aside0.mk ho; clear ho hb hg hat))
  have hc : W1.cell? ⟨g, 2, none⟩ = some (.int .u64 lo) := (blk_cell HX.out 2).trans rfl
  rw [rounds_succ]
  go_wp2_with fail
  clear hc
  refine (strconv_Itoa.calls _ _ _ (itoa_b (and255 _)) (HW.out.below HB.out)).mono ?_
  rintro e w2 ⟨rfl, hb⟩
  replace HX := Aside0.mk (blk_below HX.out hb)
  replace HO := Aside0.mk (Kd.R_below HO.out hb)
  replace HB := Aside0.mk (below_step HB.out hb)
  clear hb
  go_wp2_with (first | ((with_reducible refine gate_builtin (b := .append) (xs := #[.tmp 17, .tmp 27]) rfl ?_); at_builtin; refine Kd.R_append Kd.string (w0 := w) w.heap.size rfl (.tmp 17) (.tmp 27) 56 9 (.string ⟨#[]⟩) 16 rfl Tryd.underlying56 info9 rfl (by decide) (by omega) _ [decB (Go.bits .and .u64 (lo / 16777216) 255), decB (Go.bits .and .u64 (lo / 65536) 255)] (decB (Go.bits .and .u64 (lo / 256) 255)) [.string (decB (Go.bits .and .u64 (lo / 256) 255))] (fun _ => True) (fun _ => False) rfl rfl ?aP (fun _ hk => hk.elim) ?aF ?aO ?aB ?aS ?aL ?_; (case aP => exact rfl); (case aB => exact HB.out); (case aF => exact (fun _ _ => trivial)); (case aO => exact HO.out); (case aS => exact (below_size HB.out)); (case aL => simp); intro v2 W2 ho hb hg hat; replace HX := Aside0.mk (blk_apart HX.out (by decide) HO.out hg); replace HB := Aside0.mk hb; replace HO := Aside0.mk ho; clear ho hb hg hat))
  have hc : W2.cell? ⟨g, 2, none⟩ = some (.int .u64 lo) := (blk_cell HX.out 2).trans rfl
  rw [rounds_succ]
  go_wp2_with fail
  clear hc
  refine (strconv_Itoa.calls _ _ _ (itoa_b (and255 _)) (HW.out.below HB.out)).mono ?_
  rintro e w2 ⟨rfl, hb⟩
  replace HX := Aside0.mk (blk_below HX.out hb)
  replace HO := Aside0.mk (Kd.R_below HO.out hb)
  replace HB := Aside0.mk (below_step HB.out hb)
  clear hb
  go_wp2_with (first | ((with_reducible refine gate_builtin (b := .append) (xs := #[.tmp 17, .tmp 27]) rfl ?_); at_builtin; refine Kd.R_append Kd.string (w0 := w) w.heap.size rfl (.tmp 17) (.tmp 27) 56 9 (.string ⟨#[]⟩) 16 rfl Tryd.underlying56 info9 rfl (by decide) (by omega) _ [decB (Go.bits .and .u64 (lo / 16777216) 255), decB (Go.bits .and .u64 (lo / 65536) 255), decB (Go.bits .and .u64 (lo / 256) 255)] (decB (Go.bits .and .u64 (lo) 255)) [.string (decB (Go.bits .and .u64 (lo) 255))] (fun _ => True) (fun _ => False) rfl rfl ?aP (fun _ hk => hk.elim) ?aF ?aO ?aB ?aS ?aL ?_; (case aP => exact rfl); (case aB => exact HB.out); (case aF => exact (fun _ _ => trivial)); (case aO => exact HO.out); (case aS => exact (below_size HB.out)); (case aL => simp); intro v3 W3 ho hb hg hat; replace HX := Aside0.mk (blk_apart HX.out (by decide) HO.out hg); replace HB := Aside0.mk hb; replace HO := Aside0.mk ho; clear ho hb hg hat))
  rw [rounds_succ]
  obtain ⟨A, c, e⟩ := Kd.R_slice HO.out
  subst e
  go_wp2_with fail
  refine (strings_Join.calls A c _ _ r _ (Kd.R_reads' HO.out).2.2 (Kd.R_reads' HO.out).2.1 HJ.out).mono ?_
  rintro e w2 ⟨rfl, hb⟩
  replace HB := Aside0.mk (below_step HB.out hb)
  clear hb
  go_wp2_with fail
  exact bodyPost_ret (v := .string r) (by simp [results, Tryd.results33, go_sem]) rfl ⟨rfl, HB.out⟩
theorem and65535 (x : Int) : 0 ≤ Go.bits .and .u64 x 65535 ∧ Go.bits .and .u64 x 65535 < 65536 := by
  unfold Go.bits
  have h1 : ((BitVec.ofInt 64 x) &&& (BitVec.ofInt 64 65535)).toNat < 65536 := by
    rw [BitVec.toNat_and, show (BitVec.ofInt 64 65535).toNat = 2 ^ 16 - 1 from by decide, Nat.and_two_pow_sub_one_eq_mod]
    exact Nat.mod_lt _ (by decide)
  show 0 ≤ IntKind.u64.wrap _ ∧ IntKind.u64.wrap _ < 65536
  rw [IntWalk.u64_in _ ⟨by show (0 : Int) ≤ (((BitVec.ofInt 64 x) &&& (BitVec.ofInt 64 65535)).toNat : Int); omega, by show (((BitVec.ofInt 64 x) &&& (BitVec.ofInt 64 65535)).toNat : Int) ≤ _; omega⟩]
  exact ⟨by show (0 : Int) ≤ (((BitVec.ofInt 64 x) &&& (BitVec.ofInt 64 65535)).toNat : Int); omega, by show (((BitVec.ofInt 64 x) &&& (BitVec.ofInt 64 65535)).toNat : Int) < 65536; omega⟩
def grpL (hi lo : Int) : List Int := [Go.bits .and .u64 (hi / 281474976710656) 65535, Go.bits .and .u64 (hi / 4294967296) 65535, Go.bits .and .u64 (hi / 65536) 65535, Go.bits .and .u64 (hi) 65535, Go.bits .and .u64 (lo / 281474976710656) 65535, Go.bits .and .u64 (lo / 4294967296) 65535, Go.bits .and .u64 (lo / 65536) 65535, Go.bits .and .u64 (lo) 65535]
def fmtT (l : List Int) (p q : Nat) : Nat → Nat → ByteArray → ByteArray
  | 0, _, o => o
  | d + 1, i, o => if i < 8 then (if i = p ∧ 1 < q - p then fmtT l p q d q (o ++ ⟨#[58, 58]⟩) else fmtT l p q d (i + 1) ((if o.toList ≠ [] ∧ Lib.hasSuffix o.data.toList [58] = false then o ++ ⟨#[58]⟩ else o) ++ ⟨(hexL 4 (l.getD i 0).toNat).toArray⟩)) else o
theorem runF_le (l : List Int) : ∀ (d i a b : Nat), a ≤ b → b ≤ 8 → i + d ≤ 8 → (runF l d i (a, b)).1 ≤ (runF l d i (a, b)).2 ∧ (runF l d i (a, b)).2 ≤ 8
  | 0, i, a, b, h1, h2, _ => ⟨h1, h2⟩
  | d + 1, i, a, b, h1, h2, h3 => by
    unfold runF
    split
    · have := zEnd_le l (8 - i) i
      exact runF_le l d (i + 1) _ _ this.1 (by omega) (by omega)
    · exact runF_le l d (i + 1) _ _ h1 h2 (by omega)
theorem runF_ok (l : List Int) : (runF l 8 0 (0, 0)).1 ≤ (runF l 8 0 (0, 0)).2 ∧ (runF l 8 0 (0, 0)).2 ≤ 8 := runF_le l 8 0 0 0 (by omega) (by omega) (by omega)
structure TxtI (l : List Int) (p q gg i : Nat) (o r : ByteArray) : Prop where
  m : 8 - i ≤ gg
  i8 : i ≤ 8
  res : fmtT l p q gg i o = r
  sz : o.size + 8 * gg ≤ 64
theorem TxtI.pos {l : List Int} {p q gg i : Nat} {o r : ByteArray} (h : TxtI l p q gg i o r) (hi : i < 8) : ∃ m, gg = m + 1 := ⟨gg - 1, by have := h.m; omega⟩
theorem TxtI.fin {l : List Int} {p q gg i : Nat} {o r : ByteArray} (h : TxtI l p q gg i o r) (hi : ¬ i < 8) : o = r := by
  have := h.res
  cases gg with
  | zero => exact this
  | succ d => rw [fmtT, if_neg hi] at this; exact this
theorem TxtI.gap {l : List Int} {p q d i : Nat} {o r : ByteArray} (h : TxtI l p q (d + 1) i o r) (hi : i < 8) (hp : i = p) (hq : 1 < q - p) (hq8 : q ≤ 8) : TxtI l p q d q (o ++ ⟨#[58, 58]⟩) r := by
  obtain ⟨h1, h2, h3, h4⟩ := h
  refine ⟨by omega, hq8, ?_, ?_⟩
  · rw [fmtT, if_pos hi, if_pos ⟨hp, hq⟩] at h3; exact h3
  · rw [ByteArray.size_append, show (⟨#[58, 58]⟩ : ByteArray).size = 2 from rfl]; omega
theorem hexL_len : ∀ (k n : Nat), (hexL k n).length ≤ k
  | 0, _ => Nat.le_refl _
  | k + 1, n => by
    unfold hexL
    split
    · simp
    · have := hexL_len k (n / 16); simp; omega
theorem hexL_size (k n : Nat) : (⟨(hexL k n).toArray⟩ : ByteArray).size ≤ k := by
  show (hexL k n).toArray.size ≤ k
  rw [List.size_toArray]
  exact hexL_len k n
theorem TxtI.hexA {l : List Int} {p q d i : Nat} {o r : ByteArray} {x : Int} (hx : l.getD i 0 = x) (h : TxtI l p q (d + 1) i o r) (hi : i < 8) (hp : ¬ (i = p ∧ 1 < q - p)) (hs : ¬ (o.toList ≠ [] ∧ Lib.hasSuffix o.data.toList [58] = false)) : TxtI l p q d (i + 1) (o ++ ⟨(hexL 4 x.toNat).toArray⟩) r := by
  subst hx
  obtain ⟨h1, h2, h3, h4⟩ := h
  refine ⟨by omega, by omega, ?_, ?_⟩
  · rw [fmtT, if_pos hi, if_neg hp, if_neg hs] at h3; exact h3
  · have := hexL_size 4 (l.getD i 0).toNat
    rw [ByteArray.size_append]; omega
theorem TxtI.hexB {l : List Int} {p q d i : Nat} {o r : ByteArray} {x : Int} (hx : l.getD i 0 = x) (h : TxtI l p q (d + 1) i o r) (hi : i < 8) (hp : ¬ (i = p ∧ 1 < q - p)) (hs : o.toList ≠ [] ∧ Lib.hasSuffix o.data.toList [58] = false) : TxtI l p q d (i + 1) (o ++ ⟨#[58]⟩ ++ ⟨(hexL 4 x.toNat).toArray⟩) r := by
  subst hx
  obtain ⟨h1, h2, h3, h4⟩ := h
  refine ⟨by omega, by omega, ?_, ?_⟩
  · rw [fmtT, if_pos hi, if_neg hp, if_pos hs] at h3; exact h3
  · have := hexL_size 4 (l.getD i 0).toNat
    rw [ByteArray.size_append, ByteArray.size_append, show (⟨#[58]⟩ : ByteArray).size = 1 from rfl]; omega
theorem hex_u {x : Int} (h : 0 ≤ x ∧ x < 65536) : strconv_FormatUint.f x 16 = some ⟨(hexL 4 x.toNat).toArray⟩ := by unfold strconv_FormatUint.f; rw [if_pos rfl, if_pos h]
theorem suf_u {o : ByteArray} (h : o.size ≤ 64) : strings_HasSuffix.f o ⟨#[58]⟩ = some (Lib.hasSuffix o.data.toList [58]) := by unfold strings_HasSuffix.f; rw [if_pos (by omega)]
theorem i_eq {i p : Nat} (h : i = p) : ((i : Int) == (p : Int)) = true := by simp [h]
theorem i_ne {i p : Nat} (h : ¬ i = p) : ((i : Int) == (p : Int)) = false := beq_eq_false_iff_ne.mpr (fun e => h (by omega))
theorem i_eqd {i p : Nat} (h : i = p) : decide ((i : Int) = (p : Int)) = true := by simp [h]
theorem i_ned {i p : Nat} (h : ¬ i = p) : decide ((i : Int) = (p : Int)) = false := decide_eq_false (fun e => h (by omega))
theorem q_gt {p q : Nat} (h : 1 < q - p) (h8 : q ≤ 8) : decide (wrap64 ((q : Int) - (p : Int)) > 1) = true := decide_eq_true (by unfold wrap64; omega)
theorem q_ngt {p q : Nat} (h : ¬ 1 < q - p) (h8 : p ≤ q ∧ q ≤ 8) : decide (wrap64 ((q : Int) - (p : Int)) > 1) = false := decide_eq_false (by unfold wrap64; omega)
theorem sz_2 {l : List Int} {p q d i : Nat} {o r : ByteArray} (h : TxtI l p q d i o r) : (9223372036854775807 < o.size + 2) = False := eq_false (by have := h.sz; omega)
theorem sz_1 {l : List Int} {p q d i : Nat} {o r : ByteArray} (h : TxtI l p q d i o r) : (9223372036854775807 < o.size + 1) = False := eq_false (by have := h.sz; omega)
theorem sz_h {l : List Int} {p q d i : Nat} {o t r : ByteArray} (h : TxtI l p q d i (o ++ t) r) : (9223372036854775807 < o.size + t.size) = False := eq_false (by have := h.sz; rw [ByteArray.size_append] at this; omega)
theorem q_next {p q : Nat} (h : 1 < q - p) (h8 : q ≤ 8) : wrap64 (wrap64 ((q : Int) - 1) + 1) = (q : Int) := by unfold wrap64; omega
theorem run_g (hi lo : Int) (w : World) : Calls Tryd.prog 56 #[.agg #[.int .u64 (Go.bits .and .u64 (hi / 281474976710656) 65535), .int .u64 (Go.bits .and .u64 (hi / 4294967296) 65535), .int .u64 (Go.bits .and .u64 (hi / 65536) 65535), .int .u64 (Go.bits .and .u64 (hi) 65535), .int .u64 (Go.bits .and .u64 (lo / 281474976710656) 65535), .int .u64 (Go.bits .and .u64 (lo / 4294967296) 65535), .int .u64 (Go.bits .and .u64 (lo / 65536) 65535), .int .u64 (Go.bits .and .u64 (lo) 65535)]] w fun e w' => e = .returned (.tuple #[.int .i64 ((runF (grpL hi lo) 8 0 (0, 0)).1 : Nat), .int .i64 ((runF (grpL hi lo) 8 0 (0, 0)).2 : Nat)]) ∧ Below w.heap.size w w' := address_run.calls _ _ _ _ _ _ _ _ w
def fmt6 (hi lo : Int) : ByteArray := fmtT (grpL hi lo) (runF (grpL hi lo) 8 0 (0, 0)).1 (runF (grpL hi lo) 8 0 (0, 0)).2 8 0 ⟨#[]⟩
def fmt.T13 : Bool × List (List Nat × List Nat) := (true, [([], []), ([], []), ([1], [1]), ([], []), ([3], [3]), ([], []), ([5], [5]), ([6], [6]), ([4, 7], [4, 7]), ([8], [8]), ([], []), ([10], [10]), ([], []), ([12], [12]), ([13], [13]), ([11, 14], [11, 14]), ([15], [15]), ([0, 0, 3, 4, 5, 6, 7, 8, 9], [0]), ([17, 9, 0, 3, 4, 5, 6, 7, 8, 9], [9, 17]), ([2, 0, 1, 2, 3, 4, 5, 6, 7, 8, 9, 10, 11, 12, 13, 14, 15, 16, 17, 18], [2]), ([19, 16, 18, 0, 1, 2, 3, 4, 5, 6, 7, 8, 9, 10, 11, 12, 13, 14, 15, 16, 17, 18], [16, 19])])
def fmt.B13 : List Nat := [0, 0, 2, 0, 8, 0, 32, 96, 248, 504, 0, 1024, 0, 4096, 12288, 31744, 64512, 1017, 132089, 524287, 1048575]
theorem fmt.tab13 : rtab .any (opsOf Tryd.f33 13) = fmt.T13 := by kernel_rfl
theorem fmt.bits13 : waitsOk fmt.T13.2 fmt.B13 = true := by kernel_rfl
set_option maxHeartbeats 4000000 in
set_option maxRecDepth 100000 in
theorem format6 (hi lo : Int) (w : World) (hW : WOK w) : Calls Tryd.prog 33 #[.agg #[.bool true, .int .u64 hi, .int .u64 lo]] w fun e w' => e = .returned (.string (fmt6 hi lo)) ∧ Below w.heap.size w w' := by
  have HW := Aside0.mk hW
  clear hW
  obtain ⟨r, hr⟩ : ∃ r, fmt6 hi lo = r := ⟨_, rfl⟩
  have HR := Aside0.mk hr
  rw [hr]
  clear hr
  have HX : Aside0 ((w.alloc (.cells #[.bool true, .int .u64 hi, .int .u64 lo] 25)).heap[w.heap.size]? = some (.cells #[.bool true, .int .u64 hi, .int .u64 lo] 25 (0, 0))) := ⟨heap_alloc_new _ _⟩
  have HB : Aside0 (Below w.heap.size w (w.alloc (.cells #[.bool true, .int .u64 hi, .int .u64 lo] 25))) := ⟨below_alloc (Below.refl _ _) _⟩
  go_enter Tryd.func33, Tryd.ntmps33
  go_upto_region 9 with (fail)
  obtain ⟨g, hg⟩ : ∃ g, w.heap.size = g := ⟨_, rfl⟩
  rw [hg] at HX
  simp only [hg]
  clear hg
  generalize w.alloc (.cells #[.bool true, .int .u64 hi, .int .u64 lo] 25) = W at HX HB ⊢
  have HY : Aside0 ((W.alloc (.cells #[.int .u64 0, .int .u64 0, .int .u64 0, .int .u64 0, .int .u64 0, .int .u64 0, .int .u64 0, .int .u64 0] 68)).heap[W.heap.size]? = some (.cells #[.int .u64 0, .int .u64 0, .int .u64 0, .int .u64 0, .int .u64 0, .int .u64 0, .int .u64 0, .int .u64 0] 68 (0, 0))) := ⟨heap_alloc_new _ _⟩
  have HL := Aside0.mk (blk_lt HX.out)
  replace HX := Aside0.mk (blk_alloc HX.out (.cells #[.int .u64 0, .int .u64 0, .int .u64 0, .int .u64 0, .int .u64 0, .int .u64 0, .int .u64 0, .int .u64 0] 68))
  have HG := Aside0.mk HB.out.size
  replace HB := Aside0.mk (below_alloc HB.out (.cells #[.int .u64 0, .int .u64 0, .int .u64 0, .int .u64 0, .int .u64 0, .int .u64 0, .int .u64 0, .int .u64 0] 68))
  go_upto_region 11 with (fail)
  obtain ⟨ga, hga⟩ : ∃ ga, W.heap.size = ga := ⟨_, rfl⟩
  rw [hga] at HY HG HL
  simp only [hga]
  clear hga
  have HN := Aside0.mk (Nat.ne_of_lt HL.out)
  clear HL
  generalize W.alloc (.cells #[.int .u64 0, .int .u64 0, .int .u64 0, .int .u64 0, .int .u64 0, .int .u64 0, .int .u64 0, .int .u64 0] 68) = W0 at HX HY HB ⊢
  refine wp_loop_rounds 5 ?_
  rw [rounds_succ]
  go_upto_region 13 with (fail)
  refine start_ (n := 21) (S := fun w' => w'.cell? ⟨g, 1, none⟩ = some (.int .u64 hi) ∧ w'.cell? ⟨g, 2, none⟩ = some (.int .u64 lo)) (ds := [20]) #[false, false, false, false, false, false, false, false, false, false, false, false, false, false, false, false, false, false, false, false, false] (by kernel_rfl) rfl rfl ⟨(blk_cell (blk_drew HX.out) 1).trans rfl, (blk_cell (blk_drew HX.out) 2).trans rfl⟩ (fun hHeld => ?_)
  refine with_tabW fmt.tab13 fmt.bits13 (fun HT_ HW_ => ?_)
  replace HX := Aside0.mk (blk_drew HX.out)
  replace HY := Aside0.mk (blk_drew HY.out)
  replace HB := Aside0.mk (below_drew1 HB.out)
  generalize W0.drew = V0 at HX HY HB hHeld ⊢
  refine zp 0 35 HT_ ?_; refine zp 1 36 HT_ ?_; refine zp (v := .int .i64 4) 2 37 HT_ ?_ (hy := fun _ => rfl); refine zp 3 38 HT_ ?_; refine zt 4 39 HT_ HW_ hHeld ?_; refine zp 5 40 HT_ ?_; refine zp (v := .int .i64 0) 6 41 HT_ ?_ (hy := fun _ => rfl); refine zp (v := .int .i64 48) 7 42 HT_ ?_ (hy := fun _ => rfl); refine zp 8 43 HT_ ?_; refine zp 9 44 HT_ ?_; refine zp 10 45 HT_ ?_; refine zt 11 46 HT_ HW_ hHeld ?_; refine zp 12 47 HT_ ?_; refine zp (v := .int .i64 0) 13 48 HT_ ?_ (hy := fun _ => rfl); refine zp (v := .int .i64 48) 14 49 HT_ ?_ (hy := fun _ => rfl); refine zp 15 50 HT_ ?_; refine zp 16 51 HT_ ?_; refine zp 17 52 HT_ ?_
  have hc : V0.cell? ⟨ga, 0, none⟩ = some (.int .u64 0) := (blk_cell HY.out 0).trans rfl
  have hf : V0.frozen? ⟨ga, 0, none⟩ = false := blk_frozen HY.out 0
  refine one_ (i := 18) (N := none) #[true, true, true, true, true, true, true, true, true, true, true, true, true, true, true, true, true, true, true, false, false] rfl rfl (one_of HT_.out (by kernel_rfl)) (by decide) (fun K hK => ?_)
  refine skip_ (w1 := V0.setCell ⟨ga, 0, none⟩ (.int .u64 (Go.bits .and .u64 (hi / 281474976710656) 65535))) (by rfl) rfl (by go_simp) ?_
  clear hc hf
  replace HX := Aside0.mk (blk_far HX.out (p := ⟨ga, 0, none⟩) HN.out (.int .u64 (Go.bits .and .u64 (hi / 281474976710656) 65535)))
  replace HY : Aside0 ((V0.setCell ⟨ga, 0, none⟩ (.int .u64 (Go.bits .and .u64 (hi / 281474976710656) 65535))).heap[ga]? = some (.cells #[.int .u64 (Go.bits .and .u64 (hi / 281474976710656) 65535), .int .u64 0, .int .u64 0, .int .u64 0, .int .u64 0, .int .u64 0, .int .u64 0, .int .u64 0] 68 (0, 0))) := ⟨blk_put (cs := #[.int .u64 0, .int .u64 0, .int .u64 0, .int .u64 0, .int .u64 0, .int .u64 0, .int .u64 0, .int .u64 0]) HY.out 0 _ rfl⟩
  replace HB := Aside0.mk (HB.out.setCell (p := ⟨ga, 0, none⟩) HG.out (.int .u64 (Go.bits .and .u64 (hi / 281474976710656) 65535)))
  generalize V0.setCell ⟨ga, 0, none⟩ (.int .u64 (Go.bits .and .u64 (hi / 281474976710656) 65535)) = U0 at HX HY HB ⊢
  refine hK.out _ _ ⟨(blk_cell HX.out 1).trans rfl, (blk_cell HX.out 2).trans rfl⟩ (fun _ => ?_)
  clear hK K
  refine zp 19 53 HT_ ?_
  have hc : U0.cell? ⟨ga, 4, none⟩ = some (.int .u64 0) := (blk_cell HY.out 4).trans rfl
  have hf : U0.frozen? ⟨ga, 4, none⟩ = false := blk_frozen HY.out 4
  refine last_ (i := 20) (N := none) #[true, true, true, true, true, true, true, true, true, true, true, true, true, true, true, true, true, true, true, true, true] rfl rfl (one_of HT_.out (by kernel_rfl)) (by decide) (fun K hK => ?_)
  refine skip_ (w1 := U0.setCell ⟨ga, 4, none⟩ (.int .u64 (Go.bits .and .u64 (lo / 281474976710656) 65535))) (by rfl) rfl (by go_simp) ?_
  clear hc hf
  replace HX := Aside0.mk (blk_far HX.out (p := ⟨ga, 4, none⟩) HN.out (.int .u64 (Go.bits .and .u64 (lo / 281474976710656) 65535)))
  replace HY : Aside0 ((U0.setCell ⟨ga, 4, none⟩ (.int .u64 (Go.bits .and .u64 (lo / 281474976710656) 65535))).heap[ga]? = some (.cells #[.int .u64 (Go.bits .and .u64 (hi / 281474976710656) 65535), .int .u64 0, .int .u64 0, .int .u64 0, .int .u64 (Go.bits .and .u64 (lo / 281474976710656) 65535), .int .u64 0, .int .u64 0, .int .u64 0] 68 (0, 0))) := ⟨blk_put (cs := #[.int .u64 (Go.bits .and .u64 (hi / 281474976710656) 65535), .int .u64 0, .int .u64 0, .int .u64 0, .int .u64 0, .int .u64 0, .int .u64 0, .int .u64 0]) HY.out 4 _ rfl⟩
  replace HB := Aside0.mk (HB.out.setCell (p := ⟨ga, 4, none⟩) HG.out (.int .u64 (Go.bits .and .u64 (lo / 281474976710656) 65535)))
  generalize U0.setCell ⟨ga, 4, none⟩ (.int .u64 (Go.bits .and .u64 (lo / 281474976710656) 65535)) = W1 at HX HY HB ⊢
  refine hK.out _ _ ?_
  clear hK K
  refine zd HT_ ?_
  clear hHeld HT_ HW_
  go_wp2_with fail
  rw [rounds_succ]
  go_upto_region 13 with (fail)
  refine start_ (n := 21) (S := fun w' => w'.cell? ⟨g, 1, none⟩ = some (.int .u64 hi) ∧ w'.cell? ⟨g, 2, none⟩ = some (.int .u64 lo)) (ds := [20]) #[false, false, false, false, false, false, false, false, false, false, false, false, false, false, false, false, false, false, false, false, false] (by kernel_rfl) rfl rfl ⟨(blk_cell (blk_drew HX.out) 1).trans rfl, (blk_cell (blk_drew HX.out) 2).trans rfl⟩ (fun hHeld => ?_)
  refine with_tabW fmt.tab13 fmt.bits13 (fun HT_ HW_ => ?_)
  replace HX := Aside0.mk (blk_drew HX.out)
  replace HY := Aside0.mk (blk_drew HY.out)
  replace HB := Aside0.mk (below_drew1 HB.out)
  generalize W1.drew = V1 at HX HY HB hHeld ⊢
  refine zp 0 35 HT_ ?_; refine zp 1 36 HT_ ?_; refine zp (v := .int .i64 5) 2 37 HT_ ?_ (hy := fun _ => rfl); refine zp 3 38 HT_ ?_; refine zt 4 39 HT_ HW_ hHeld ?_; refine zp 5 40 HT_ ?_; refine zp (v := .int .i64 16) 6 41 HT_ ?_ (hy := fun _ => rfl); refine zp (v := .int .i64 32) 7 42 HT_ ?_ (hy := fun _ => rfl); refine zp 8 43 HT_ ?_; refine zp 9 44 HT_ ?_; refine zp 10 45 HT_ ?_; refine zt 11 46 HT_ HW_ hHeld ?_; refine zp 12 47 HT_ ?_; refine zp (v := .int .i64 16) 13 48 HT_ ?_ (hy := fun _ => rfl); refine zp (v := .int .i64 32) 14 49 HT_ ?_ (hy := fun _ => rfl); refine zp 15 50 HT_ ?_; refine zp 16 51 HT_ ?_; refine zp 17 52 HT_ ?_
  have hc : V1.cell? ⟨ga, 1, none⟩ = some (.int .u64 0) := (blk_cell HY.out 1).trans rfl
  have hf : V1.frozen? ⟨ga, 1, none⟩ = false := blk_frozen HY.out 1
  refine one_ (i := 18) (N := none) #[true, true, true, true, true, true, true, true, true, true, true, true, true, true, true, true, true, true, true, false, false] rfl rfl (one_of HT_.out (by kernel_rfl)) (by decide) (fun K hK => ?_)
  refine skip_ (w1 := V1.setCell ⟨ga, 1, none⟩ (.int .u64 (Go.bits .and .u64 (hi / 4294967296) 65535))) (by rfl) rfl (by go_simp) ?_
  clear hc hf
  replace HX := Aside0.mk (blk_far HX.out (p := ⟨ga, 1, none⟩) HN.out (.int .u64 (Go.bits .and .u64 (hi / 4294967296) 65535)))
  replace HY : Aside0 ((V1.setCell ⟨ga, 1, none⟩ (.int .u64 (Go.bits .and .u64 (hi / 4294967296) 65535))).heap[ga]? = some (.cells #[.int .u64 (Go.bits .and .u64 (hi / 281474976710656) 65535), .int .u64 (Go.bits .and .u64 (hi / 4294967296) 65535), .int .u64 0, .int .u64 0, .int .u64 (Go.bits .and .u64 (lo / 281474976710656) 65535), .int .u64 0, .int .u64 0, .int .u64 0] 68 (0, 0))) := ⟨blk_put (cs := #[.int .u64 (Go.bits .and .u64 (hi / 281474976710656) 65535), .int .u64 0, .int .u64 0, .int .u64 0, .int .u64 (Go.bits .and .u64 (lo / 281474976710656) 65535), .int .u64 0, .int .u64 0, .int .u64 0]) HY.out 1 _ rfl⟩
  replace HB := Aside0.mk (HB.out.setCell (p := ⟨ga, 1, none⟩) HG.out (.int .u64 (Go.bits .and .u64 (hi / 4294967296) 65535)))
  generalize V1.setCell ⟨ga, 1, none⟩ (.int .u64 (Go.bits .and .u64 (hi / 4294967296) 65535)) = U1 at HX HY HB ⊢
  refine hK.out _ _ ⟨(blk_cell HX.out 1).trans rfl, (blk_cell HX.out 2).trans rfl⟩ (fun _ => ?_)
  clear hK K
  refine zp 19 53 HT_ ?_
  have hc : U1.cell? ⟨ga, 5, none⟩ = some (.int .u64 0) := (blk_cell HY.out 5).trans rfl
  have hf : U1.frozen? ⟨ga, 5, none⟩ = false := blk_frozen HY.out 5
  refine last_ (i := 20) (N := none) #[true, true, true, true, true, true, true, true, true, true, true, true, true, true, true, true, true, true, true, true, true] rfl rfl (one_of HT_.out (by kernel_rfl)) (by decide) (fun K hK => ?_)
  refine skip_ (w1 := U1.setCell ⟨ga, 5, none⟩ (.int .u64 (Go.bits .and .u64 (lo / 4294967296) 65535))) (by rfl) rfl (by go_simp) ?_
  clear hc hf
  replace HX := Aside0.mk (blk_far HX.out (p := ⟨ga, 5, none⟩) HN.out (.int .u64 (Go.bits .and .u64 (lo / 4294967296) 65535)))
  replace HY : Aside0 ((U1.setCell ⟨ga, 5, none⟩ (.int .u64 (Go.bits .and .u64 (lo / 4294967296) 65535))).heap[ga]? = some (.cells #[.int .u64 (Go.bits .and .u64 (hi / 281474976710656) 65535), .int .u64 (Go.bits .and .u64 (hi / 4294967296) 65535), .int .u64 0, .int .u64 0, .int .u64 (Go.bits .and .u64 (lo / 281474976710656) 65535), .int .u64 (Go.bits .and .u64 (lo / 4294967296) 65535), .int .u64 0, .int .u64 0] 68 (0, 0))) := ⟨blk_put (cs := #[.int .u64 (Go.bits .and .u64 (hi / 281474976710656) 65535), .int .u64 (Go.bits .and .u64 (hi / 4294967296) 65535), .int .u64 0, .int .u64 0, .int .u64 (Go.bits .and .u64 (lo / 281474976710656) 65535), .int .u64 0, .int .u64 0, .int .u64 0]) HY.out 5 _ rfl⟩
  replace HB := Aside0.mk (HB.out.setCell (p := ⟨ga, 5, none⟩) HG.out (.int .u64 (Go.bits .and .u64 (lo / 4294967296) 65535)))
  generalize U1.setCell ⟨ga, 5, none⟩ (.int .u64 (Go.bits .and .u64 (lo / 4294967296) 65535)) = W2 at HX HY HB ⊢
  refine hK.out _ _ ?_
  clear hK K
  refine zd HT_ ?_
  clear hHeld HT_ HW_
  go_wp2_with fail
  rw [rounds_succ]
  go_upto_region 13 with (fail)
  refine start_ (n := 21) (S := fun w' => w'.cell? ⟨g, 1, none⟩ = some (.int .u64 hi) ∧ w'.cell? ⟨g, 2, none⟩ = some (.int .u64 lo)) (ds := [20]) #[false, false, false, false, false, false, false, false, false, false, false, false, false, false, false, false, false, false, false, false, false] (by kernel_rfl) rfl rfl ⟨(blk_cell (blk_drew HX.out) 1).trans rfl, (blk_cell (blk_drew HX.out) 2).trans rfl⟩ (fun hHeld => ?_)
  refine with_tabW fmt.tab13 fmt.bits13 (fun HT_ HW_ => ?_)
  replace HX := Aside0.mk (blk_drew HX.out)
  replace HY := Aside0.mk (blk_drew HY.out)
  replace HB := Aside0.mk (below_drew1 HB.out)
  generalize W2.drew = V2 at HX HY HB hHeld ⊢
  refine zp 0 35 HT_ ?_; refine zp 1 36 HT_ ?_; refine zp (v := .int .i64 6) 2 37 HT_ ?_ (hy := fun _ => rfl); refine zp 3 38 HT_ ?_; refine zt 4 39 HT_ HW_ hHeld ?_; refine zp 5 40 HT_ ?_; refine zp (v := .int .i64 32) 6 41 HT_ ?_ (hy := fun _ => rfl); refine zp (v := .int .i64 16) 7 42 HT_ ?_ (hy := fun _ => rfl); refine zp 8 43 HT_ ?_; refine zp 9 44 HT_ ?_; refine zp 10 45 HT_ ?_; refine zt 11 46 HT_ HW_ hHeld ?_; refine zp 12 47 HT_ ?_; refine zp (v := .int .i64 32) 13 48 HT_ ?_ (hy := fun _ => rfl); refine zp (v := .int .i64 16) 14 49 HT_ ?_ (hy := fun _ => rfl); refine zp 15 50 HT_ ?_; refine zp 16 51 HT_ ?_; refine zp 17 52 HT_ ?_
  have hc : V2.cell? ⟨ga, 2, none⟩ = some (.int .u64 0) := (blk_cell HY.out 2).trans rfl
  have hf : V2.frozen? ⟨ga, 2, none⟩ = false := blk_frozen HY.out 2
  refine one_ (i := 18) (N := none) #[true, true, true, true, true, true, true, true, true, true, true, true, true, true, true, true, true, true, true, false, false] rfl rfl (one_of HT_.out (by kernel_rfl)) (by decide) (fun K hK => ?_)
  refine skip_ (w1 := V2.setCell ⟨ga, 2, none⟩ (.int .u64 (Go.bits .and .u64 (hi / 65536) 65535))) (by rfl) rfl (by go_simp) ?_
  clear hc hf
  replace HX := Aside0.mk (blk_far HX.out (p := ⟨ga, 2, none⟩) HN.out (.int .u64 (Go.bits .and .u64 (hi / 65536) 65535)))
  replace HY : Aside0 ((V2.setCell ⟨ga, 2, none⟩ (.int .u64 (Go.bits .and .u64 (hi / 65536) 65535))).heap[ga]? = some (.cells #[.int .u64 (Go.bits .and .u64 (hi / 281474976710656) 65535), .int .u64 (Go.bits .and .u64 (hi / 4294967296) 65535), .int .u64 (Go.bits .and .u64 (hi / 65536) 65535), .int .u64 0, .int .u64 (Go.bits .and .u64 (lo / 281474976710656) 65535), .int .u64 (Go.bits .and .u64 (lo / 4294967296) 65535), .int .u64 0, .int .u64 0] 68 (0, 0))) := ⟨blk_put (cs := #[.int .u64 (Go.bits .and .u64 (hi / 281474976710656) 65535), .int .u64 (Go.bits .and .u64 (hi / 4294967296) 65535), .int .u64 0, .int .u64 0, .int .u64 (Go.bits .and .u64 (lo / 281474976710656) 65535), .int .u64 (Go.bits .and .u64 (lo / 4294967296) 65535), .int .u64 0, .int .u64 0]) HY.out 2 _ rfl⟩
  replace HB := Aside0.mk (HB.out.setCell (p := ⟨ga, 2, none⟩) HG.out (.int .u64 (Go.bits .and .u64 (hi / 65536) 65535)))
  generalize V2.setCell ⟨ga, 2, none⟩ (.int .u64 (Go.bits .and .u64 (hi / 65536) 65535)) = U2 at HX HY HB ⊢
  refine hK.out _ _ ⟨(blk_cell HX.out 1).trans rfl, (blk_cell HX.out 2).trans rfl⟩ (fun _ => ?_)
  clear hK K
  refine zp 19 53 HT_ ?_
  have hc : U2.cell? ⟨ga, 6, none⟩ = some (.int .u64 0) := (blk_cell HY.out 6).trans rfl
  have hf : U2.frozen? ⟨ga, 6, none⟩ = false := blk_frozen HY.out 6
  refine last_ (i := 20) (N := none) #[true, true, true, true, true, true, true, true, true, true, true, true, true, true, true, true, true, true, true, true, true] rfl rfl (one_of HT_.out (by kernel_rfl)) (by decide) (fun K hK => ?_)
  refine skip_ (w1 := U2.setCell ⟨ga, 6, none⟩ (.int .u64 (Go.bits .and .u64 (lo / 65536) 65535))) (by rfl) rfl (by go_simp) ?_
  clear hc hf
  replace HX := Aside0.mk (blk_far HX.out (p := ⟨ga, 6, none⟩) HN.out (.int .u64 (Go.bits .and .u64 (lo / 65536) 65535)))
  replace HY : Aside0 ((U2.setCell ⟨ga, 6, none⟩ (.int .u64 (Go.bits .and .u64 (lo / 65536) 65535))).heap[ga]? = some (.cells #[.int .u64 (Go.bits .and .u64 (hi / 281474976710656) 65535), .int .u64 (Go.bits .and .u64 (hi / 4294967296) 65535), .int .u64 (Go.bits .and .u64 (hi / 65536) 65535), .int .u64 0, .int .u64 (Go.bits .and .u64 (lo / 281474976710656) 65535), .int .u64 (Go.bits .and .u64 (lo / 4294967296) 65535), .int .u64 (Go.bits .and .u64 (lo / 65536) 65535), .int .u64 0] 68 (0, 0))) := ⟨blk_put (cs := #[.int .u64 (Go.bits .and .u64 (hi / 281474976710656) 65535), .int .u64 (Go.bits .and .u64 (hi / 4294967296) 65535), .int .u64 (Go.bits .and .u64 (hi / 65536) 65535), .int .u64 0, .int .u64 (Go.bits .and .u64 (lo / 281474976710656) 65535), .int .u64 (Go.bits .and .u64 (lo / 4294967296) 65535), .int .u64 0, .int .u64 0]) HY.out 6 _ rfl⟩
  replace HB := Aside0.mk (HB.out.setCell (p := ⟨ga, 6, none⟩) HG.out (.int .u64 (Go.bits .and .u64 (lo / 65536) 65535)))
  generalize U2.setCell ⟨ga, 6, none⟩ (.int .u64 (Go.bits .and .u64 (lo / 65536) 65535)) = W3 at HX HY HB ⊢
  refine hK.out _ _ ?_
  clear hK K
  refine zd HT_ ?_
  clear hHeld HT_ HW_
  go_wp2_with fail
  rw [rounds_succ]
  go_upto_region 13 with (fail)
  refine start_ (n := 21) (S := fun w' => w'.cell? ⟨g, 1, none⟩ = some (.int .u64 hi) ∧ w'.cell? ⟨g, 2, none⟩ = some (.int .u64 lo)) (ds := [20]) #[false, false, false, false, false, false, false, false, false, false, false, false, false, false, false, false, false, false, false, false, false] (by kernel_rfl) rfl rfl ⟨(blk_cell (blk_drew HX.out) 1).trans rfl, (blk_cell (blk_drew HX.out) 2).trans rfl⟩ (fun hHeld => ?_)
  refine with_tabW fmt.tab13 fmt.bits13 (fun HT_ HW_ => ?_)
  replace HX := Aside0.mk (blk_drew HX.out)
  replace HY := Aside0.mk (blk_drew HY.out)
  replace HB := Aside0.mk (below_drew1 HB.out)
  generalize W3.drew = V3 at HX HY HB hHeld ⊢
  refine zp 0 35 HT_ ?_; refine zp 1 36 HT_ ?_; refine zp (v := .int .i64 7) 2 37 HT_ ?_ (hy := fun _ => rfl); refine zp 3 38 HT_ ?_; refine zt 4 39 HT_ HW_ hHeld ?_; refine zp 5 40 HT_ ?_; refine zp (v := .int .i64 48) 6 41 HT_ ?_ (hy := fun _ => rfl); refine zp (v := .int .i64 0) 7 42 HT_ ?_ (hy := fun _ => rfl); refine zp 8 43 HT_ ?_; refine zp 9 44 HT_ ?_; refine zp 10 45 HT_ ?_; refine zt 11 46 HT_ HW_ hHeld ?_; refine zp 12 47 HT_ ?_; refine zp (v := .int .i64 48) 13 48 HT_ ?_ (hy := fun _ => rfl); refine zp (v := .int .i64 0) 14 49 HT_ ?_ (hy := fun _ => rfl); refine zp 15 50 HT_ ?_; refine zp 16 51 HT_ ?_; refine zp 17 52 HT_ ?_
  have hc : V3.cell? ⟨ga, 3, none⟩ = some (.int .u64 0) := (blk_cell HY.out 3).trans rfl
  have hf : V3.frozen? ⟨ga, 3, none⟩ = false := blk_frozen HY.out 3
  refine one_ (i := 18) (N := none) #[true, true, true, true, true, true, true, true, true, true, true, true, true, true, true, true, true, true, true, false, false] rfl rfl (one_of HT_.out (by kernel_rfl)) (by decide) (fun K hK => ?_)
  refine skip_ (w1 := V3.setCell ⟨ga, 3, none⟩ (.int .u64 (Go.bits .and .u64 (hi) 65535))) (by rfl) rfl (by go_simp) ?_
  clear hc hf
  replace HX := Aside0.mk (blk_far HX.out (p := ⟨ga, 3, none⟩) HN.out (.int .u64 (Go.bits .and .u64 (hi) 65535)))
  replace HY : Aside0 ((V3.setCell ⟨ga, 3, none⟩ (.int .u64 (Go.bits .and .u64 (hi) 65535))).heap[ga]? = some (.cells #[.int .u64 (Go.bits .and .u64 (hi / 281474976710656) 65535), .int .u64 (Go.bits .and .u64 (hi / 4294967296) 65535), .int .u64 (Go.bits .and .u64 (hi / 65536) 65535), .int .u64 (Go.bits .and .u64 (hi) 65535), .int .u64 (Go.bits .and .u64 (lo / 281474976710656) 65535), .int .u64 (Go.bits .and .u64 (lo / 4294967296) 65535), .int .u64 (Go.bits .and .u64 (lo / 65536) 65535), .int .u64 0] 68 (0, 0))) := ⟨blk_put (cs := #[.int .u64 (Go.bits .and .u64 (hi / 281474976710656) 65535), .int .u64 (Go.bits .and .u64 (hi / 4294967296) 65535), .int .u64 (Go.bits .and .u64 (hi / 65536) 65535), .int .u64 0, .int .u64 (Go.bits .and .u64 (lo / 281474976710656) 65535), .int .u64 (Go.bits .and .u64 (lo / 4294967296) 65535), .int .u64 (Go.bits .and .u64 (lo / 65536) 65535), .int .u64 0]) HY.out 3 _ rfl⟩
  replace HB := Aside0.mk (HB.out.setCell (p := ⟨ga, 3, none⟩) HG.out (.int .u64 (Go.bits .and .u64 (hi) 65535)))
  generalize V3.setCell ⟨ga, 3, none⟩ (.int .u64 (Go.bits .and .u64 (hi) 65535)) = U3 at HX HY HB ⊢
  refine hK.out _ _ ⟨(blk_cell HX.out 1).trans rfl, (blk_cell HX.out 2).trans rfl⟩ (fun _ => ?_)
  clear hK K
  refine zp 19 53 HT_ ?_
  have hc : U3.cell? ⟨ga, 7, none⟩ = some (.int .u64 0) := (blk_cell HY.out 7).trans rfl
  have hf : U3.frozen? ⟨ga, 7, none⟩ = false := blk_frozen HY.out 7
  refine last_ (i := 20) (N := none) #[true, true, true, true, true, true, true, true, true, true, true, true, true, true, true, true, true, true, true, true, true] rfl rfl (one_of HT_.out (by kernel_rfl)) (by decide) (fun K hK => ?_)
  refine skip_ (w1 := U3.setCell ⟨ga, 7, none⟩ (.int .u64 (Go.bits .and .u64 (lo) 65535))) (by rfl) rfl (by go_simp) ?_
  clear hc hf
  replace HX := Aside0.mk (blk_far HX.out (p := ⟨ga, 7, none⟩) HN.out (.int .u64 (Go.bits .and .u64 (lo) 65535)))
  replace HY : Aside0 ((U3.setCell ⟨ga, 7, none⟩ (.int .u64 (Go.bits .and .u64 (lo) 65535))).heap[ga]? = some (.cells #[.int .u64 (Go.bits .and .u64 (hi / 281474976710656) 65535), .int .u64 (Go.bits .and .u64 (hi / 4294967296) 65535), .int .u64 (Go.bits .and .u64 (hi / 65536) 65535), .int .u64 (Go.bits .and .u64 (hi) 65535), .int .u64 (Go.bits .and .u64 (lo / 281474976710656) 65535), .int .u64 (Go.bits .and .u64 (lo / 4294967296) 65535), .int .u64 (Go.bits .and .u64 (lo / 65536) 65535), .int .u64 (Go.bits .and .u64 (lo) 65535)] 68 (0, 0))) := ⟨blk_put (cs := #[.int .u64 (Go.bits .and .u64 (hi / 281474976710656) 65535), .int .u64 (Go.bits .and .u64 (hi / 4294967296) 65535), .int .u64 (Go.bits .and .u64 (hi / 65536) 65535), .int .u64 (Go.bits .and .u64 (hi) 65535), .int .u64 (Go.bits .and .u64 (lo / 281474976710656) 65535), .int .u64 (Go.bits .and .u64 (lo / 4294967296) 65535), .int .u64 (Go.bits .and .u64 (lo / 65536) 65535), .int .u64 0]) HY.out 7 _ rfl⟩
  replace HB := Aside0.mk (HB.out.setCell (p := ⟨ga, 7, none⟩) HG.out (.int .u64 (Go.bits .and .u64 (lo) 65535)))
  generalize U3.setCell ⟨ga, 7, none⟩ (.int .u64 (Go.bits .and .u64 (lo) 65535)) = W4 at HX HY HB ⊢
  refine hK.out _ _ ?_
  clear hK K
  refine zd HT_ ?_
  clear hHeld HT_ HW_
  go_wp2_with fail
  rw [rounds_succ]
  have hc0 : W4.cell? ⟨ga, 0, none⟩ = some (.int .u64 (Go.bits .and .u64 (hi / 281474976710656) 65535)) := (blk_cell HY.out 0).trans rfl
  have hc1 : W4.cell? ⟨ga, 1, none⟩ = some (.int .u64 (Go.bits .and .u64 (hi / 4294967296) 65535)) := (blk_cell HY.out 1).trans rfl
  have hc2 : W4.cell? ⟨ga, 2, none⟩ = some (.int .u64 (Go.bits .and .u64 (hi / 65536) 65535)) := (blk_cell HY.out 2).trans rfl
  have hc3 : W4.cell? ⟨ga, 3, none⟩ = some (.int .u64 (Go.bits .and .u64 (hi) 65535)) := (blk_cell HY.out 3).trans rfl
  have hc4 : W4.cell? ⟨ga, 4, none⟩ = some (.int .u64 (Go.bits .and .u64 (lo / 281474976710656) 65535)) := (blk_cell HY.out 4).trans rfl
  have hc5 : W4.cell? ⟨ga, 5, none⟩ = some (.int .u64 (Go.bits .and .u64 (lo / 4294967296) 65535)) := (blk_cell HY.out 5).trans rfl
  have hc6 : W4.cell? ⟨ga, 6, none⟩ = some (.int .u64 (Go.bits .and .u64 (lo / 65536) 65535)) := (blk_cell HY.out 6).trans rfl
  have hc7 : W4.cell? ⟨ga, 7, none⟩ = some (.int .u64 (Go.bits .and .u64 (lo) 65535)) := (blk_cell HY.out 7).trans rfl
  go_wp2_with fail
  clear hc0 hc1 hc2 hc3 hc4 hc5 hc6 hc7
  refine (run_g hi lo _).mono ?_
  rintro e w2 ⟨rfl, hb⟩
  replace HX := Aside0.mk (blk_below HX.out hb)
  replace HY := Aside0.mk (blk_below HY.out hb)
  replace HB := Aside0.mk (below_step HB.out hb)
  clear hb
  have HC : Aside0 (∀ k : Nat, k < 8 → (#[.int .u64 (Go.bits .and .u64 (hi / 281474976710656) 65535), .int .u64 (Go.bits .and .u64 (hi / 4294967296) 65535), .int .u64 (Go.bits .and .u64 (hi / 65536) 65535), .int .u64 (Go.bits .and .u64 (hi) 65535), .int .u64 (Go.bits .and .u64 (lo / 281474976710656) 65535), .int .u64 (Go.bits .and .u64 (lo / 4294967296) 65535), .int .u64 (Go.bits .and .u64 (lo / 65536) 65535), .int .u64 (Go.bits .and .u64 (lo) 65535)] : Array Value)[k]? = some (.int .u64 ((grpL hi lo).getD k 0))) := ⟨fun k hk => by
    rcases k with _ | _ | _ | _ | _ | _ | _ | _ | k <;> first | omega | rfl⟩
  have HH : Aside0 (∀ k : Nat, k < 8 → 0 ≤ (grpL hi lo).getD k 0 ∧ (grpL hi lo).getD k 0 < 65536) := ⟨fun k hk => by
    rcases k with _ | _ | _ | _ | _ | _ | _ | _ | k <;> first | omega | exact and65535 _⟩
  have HP := Aside0.mk (runF_ok (grpL hi lo))
  have H0 : Aside0 (TxtI (grpL hi lo) (runF (grpL hi lo) 8 0 (0, 0)).1 (runF (grpL hi lo) 8 0 (0, 0)).2 8 0 ⟨#[]⟩ r) := ⟨⟨by omega, by omega, HR.out, by decide⟩⟩
  clear HR
  generalize grpL hi lo = l at HC HH HP H0 ⊢
  generalize (#[.int .u64 (Go.bits .and .u64 (hi / 281474976710656) 65535), .int .u64 (Go.bits .and .u64 (hi / 4294967296) 65535), .int .u64 (Go.bits .and .u64 (hi / 65536) 65535), .int .u64 (Go.bits .and .u64 (hi) 65535), .int .u64 (Go.bits .and .u64 (lo / 281474976710656) 65535), .int .u64 (Go.bits .and .u64 (lo / 4294967296) 65535), .int .u64 (Go.bits .and .u64 (lo / 65536) 65535), .int .u64 (Go.bits .and .u64 (lo) 65535)] : Array Value) = C at HC HY
  obtain ⟨pq, hpq⟩ : ∃ pq, runF l 8 0 (0, 0) = pq := ⟨_, rfl⟩
  rw [hpq] at HP H0
  simp only [hpq]
  clear hpq
  obtain ⟨p, q⟩ := pq
  dsimp only at HP H0 ⊢
  go_wp2_with fail
  go_loopg [9, 10] 8 (fun gg v9 v10 wr => ∃ (i : Nat) (o : ByteArray), v9 = .string o ∧ v10 = .int .i64 (i : Int) ∧ Aside0 (TxtI l p q gg i o r) ∧ Aside0 (wr.heap[ga]? = some (.cells C 68 (0, 0))) ∧ Aside0 (Below w.heap.size w wr))
  case atStart => exact ⟨0, _, rfl, rfl, H0, HY, HB⟩
  case round =>
    obtain ⟨i, o, rfl, rfl, HT, HY, HB⟩ := hrel
    clear H0
    by_cases hi8 : i < 8
    · obtain ⟨m, rfl⟩ := HT.out.pos hi8
      have hlt := r_lt hi8
      have hlt2 := r_ltd hi8
      have hc : wr.cell? ⟨ga, i, none⟩ = some (.int .u64 (l.getD i 0)) := (blk_cell HY.out i).trans (HC.out i hi8)
      have HV := Aside0.mk (HH.out i hi8)
      obtain ⟨x, hx⟩ : ∃ x, l.getD i 0 = x := ⟨_, rfl⟩
      rw [hx] at hc HV
      have HS := Aside0.mk (r_suc (Nat.le_of_lt hi8))
      have HE := Aside0.mk hx
      clear hx
      have HI := Aside0.mk hi8
      clear hi8
      by_cases hip : i = p
      · have he1 := i_eq hip
        have he2 := i_eqd hip
        by_cases hq : 1 < q - p
        · have hg1 := q_gt hq HP.out.2
          have HN := Aside0.mk (HT.out.gap HI.out hip hq HP.out.2)
          have hs2 := sz_2 HT.out
          have HS2 := Aside0.mk (q_next hq HP.out.2)
          clear hip hq
          go_wp2_with fail
          go_roundg m
          case measure => exact Nat.lt_succ_self m
          case rel => exact ⟨q, _, rfl, by rw [HS2.out], HN, HY, HB⟩
        · have hg1 := q_ngt hq HP.out
          have HNP : Aside0 (¬ (i = p ∧ 1 < q - p)) := ⟨fun h => hq h.2⟩
          clear hip hq
          by_cases ho : o.toList = []
          · have ho1 : (o.toList == ([] : List UInt8)) = true := beq_iff_eq.mpr ho
            have ho2 : (o.toList != ([] : List UInt8)) = false := bne_eq_false_iff_eq.mpr ho
            have HN := Aside0.mk (HT.out.hexA HE.out HI.out HNP.out (fun h => h.1 ho))
            clear ho
            go_wp2_with fail
            refine (strconv_FormatUint.calls _ _ _ _ (hex_u HV.out) (HW.out.below HB.out)).mono ?_
            rintro e w4 ⟨rfl, hb⟩
            replace HY := Aside0.mk (blk_below HY.out hb)
            replace HB := Aside0.mk (below_step HB.out hb)
            clear hb
            generalize (⟨(hexL 4 x.toNat).toArray⟩ : ByteArray) = hx at HN ⊢
            have hs4 := sz_h HN.out
            try rw [ByteArray.size_append, show (⟨#[58]⟩ : ByteArray).size = 1 from rfl] at hs4
            go_wp2_with fail
            go_roundg m
            case measure => exact Nat.lt_succ_self m
            case rel => exact ⟨i + 1, _, rfl, by rw [HS.out], HN, HY, HB⟩
          · have ho1 : (o.toList == ([] : List UInt8)) = false := beq_eq_false_iff_ne.mpr ho
            have ho2 : (o.toList != ([] : List UInt8)) = true := bne_iff_ne.mpr ho
            have HO := Aside0.mk ho
            clear ho
            go_wp2_with fail
            refine (strings_HasSuffix.calls _ _ _ _ (suf_u (Nat.le_trans (Nat.le_add_right _ _) HT.out.sz))).mono ?_
            rintro e w3 ⟨rfl, hb⟩
            replace HY := Aside0.mk (blk_below HY.out hb)
            replace HB := Aside0.mk (below_step HB.out hb)
            clear hb hc
            have hc : w3.cell? ⟨ga, i, none⟩ = some (.int .u64 x) := (blk_cell HY.out i).trans ((HC.out i HI.out).trans (by rw [HE.out]))
            cases hs : Lib.hasSuffix o.data.toList [58] with
            | true =>
              have HN := Aside0.mk (HT.out.hexA HE.out HI.out HNP.out (fun h => Bool.noConfusion (hs.symm.trans h.2)))
              clear hs
              go_wp2_with fail
              refine (strconv_FormatUint.calls _ _ _ _ (hex_u HV.out) (HW.out.below HB.out)).mono ?_
              rintro e w4 ⟨rfl, hb⟩
              replace HY := Aside0.mk (blk_below HY.out hb)
              replace HB := Aside0.mk (below_step HB.out hb)
              clear hb
              generalize (⟨(hexL 4 x.toNat).toArray⟩ : ByteArray) = hx at HN ⊢
              have hs4 := sz_h HN.out
              try rw [ByteArray.size_append, show (⟨#[58]⟩ : ByteArray).size = 1 from rfl] at hs4
              go_wp2_with fail
              go_roundg m
              case measure => exact Nat.lt_succ_self m
              case rel => exact ⟨i + 1, _, rfl, by rw [HS.out], HN, HY, HB⟩
            | false =>
              have HN := Aside0.mk (HT.out.hexB HE.out HI.out HNP.out ⟨HO.out, hs⟩)
              have hs1 := sz_1 HT.out
              clear hs
              go_wp2_with fail
              refine (strconv_FormatUint.calls _ _ _ _ (hex_u HV.out) (HW.out.below HB.out)).mono ?_
              rintro e w4 ⟨rfl, hb⟩
              replace HY := Aside0.mk (blk_below HY.out hb)
              replace HB := Aside0.mk (below_step HB.out hb)
              clear hb
              generalize (⟨(hexL 4 x.toNat).toArray⟩ : ByteArray) = hx at HN ⊢
              have hs4 := sz_h HN.out
              try rw [ByteArray.size_append, show (⟨#[58]⟩ : ByteArray).size = 1 from rfl] at hs4
              go_wp2_with fail
              go_roundg m
              case measure => exact Nat.lt_succ_self m
              case rel => exact ⟨i + 1, _, rfl, by rw [HS.out], HN, HY, HB⟩
      · have he1 := i_ne hip
        have he2 := i_ned hip
        have HNP : Aside0 (¬ (i = p ∧ 1 < q - p)) := ⟨fun h => hip h.1⟩
        clear hip
        by_cases ho : o.toList = []
        · have ho1 : (o.toList == ([] : List UInt8)) = true := beq_iff_eq.mpr ho
          have ho2 : (o.toList != ([] : List UInt8)) = false := bne_eq_false_iff_eq.mpr ho
          have HN := Aside0.mk (HT.out.hexA HE.out HI.out HNP.out (fun h => h.1 ho))
          clear ho
          go_wp2_with fail
          refine (strconv_FormatUint.calls _ _ _ _ (hex_u HV.out) (HW.out.below HB.out)).mono ?_
          rintro e w4 ⟨rfl, hb⟩
          replace HY := Aside0.mk (blk_below HY.out hb)
          replace HB := Aside0.mk (below_step HB.out hb)
          clear hb
          generalize (⟨(hexL 4 x.toNat).toArray⟩ : ByteArray) = hx at HN ⊢
          have hs4 := sz_h HN.out
          try rw [ByteArray.size_append, show (⟨#[58]⟩ : ByteArray).size = 1 from rfl] at hs4
          go_wp2_with fail
          go_roundg m
          case measure => exact Nat.lt_succ_self m
          case rel => exact ⟨i + 1, _, rfl, by rw [HS.out], HN, HY, HB⟩
        · have ho1 : (o.toList == ([] : List UInt8)) = false := beq_eq_false_iff_ne.mpr ho
          have ho2 : (o.toList != ([] : List UInt8)) = true := bne_iff_ne.mpr ho
          have HO := Aside0.mk ho
          clear ho
          go_wp2_with fail
          refine (strings_HasSuffix.calls _ _ _ _ (suf_u (Nat.le_trans (Nat.le_add_right _ _) HT.out.sz))).mono ?_
          rintro e w3 ⟨rfl, hb⟩
          replace HY := Aside0.mk (blk_below HY.out hb)
          replace HB := Aside0.mk (below_step HB.out hb)
          clear hb hc
          have hc : w3.cell? ⟨ga, i, none⟩ = some (.int .u64 x) := (blk_cell HY.out i).trans ((HC.out i HI.out).trans (by rw [HE.out]))
          cases hs : Lib.hasSuffix o.data.toList [58] with
          | true =>
            have HN := Aside0.mk (HT.out.hexA HE.out HI.out HNP.out (fun h => Bool.noConfusion (hs.symm.trans h.2)))
            clear hs
            go_wp2_with fail
            refine (strconv_FormatUint.calls _ _ _ _ (hex_u HV.out) (HW.out.below HB.out)).mono ?_
            rintro e w4 ⟨rfl, hb⟩
            replace HY := Aside0.mk (blk_below HY.out hb)
            replace HB := Aside0.mk (below_step HB.out hb)
            clear hb
            generalize (⟨(hexL 4 x.toNat).toArray⟩ : ByteArray) = hx at HN ⊢
            have hs4 := sz_h HN.out
            try rw [ByteArray.size_append, show (⟨#[58]⟩ : ByteArray).size = 1 from rfl] at hs4
            go_wp2_with fail
            go_roundg m
            case measure => exact Nat.lt_succ_self m
            case rel => exact ⟨i + 1, _, rfl, by rw [HS.out], HN, HY, HB⟩
          | false =>
            have HN := Aside0.mk (HT.out.hexB HE.out HI.out HNP.out ⟨HO.out, hs⟩)
            have hs1 := sz_1 HT.out
            clear hs
            go_wp2_with fail
            refine (strconv_FormatUint.calls _ _ _ _ (hex_u HV.out) (HW.out.below HB.out)).mono ?_
            rintro e w4 ⟨rfl, hb⟩
            replace HY := Aside0.mk (blk_below HY.out hb)
            replace HB := Aside0.mk (below_step HB.out hb)
            clear hb
            generalize (⟨(hexL 4 x.toNat).toArray⟩ : ByteArray) = hx at HN ⊢
            have hs4 := sz_h HN.out
            try rw [ByteArray.size_append, show (⟨#[58]⟩ : ByteArray).size = 1 from rfl] at hs4
            go_wp2_with fail
            go_roundg m
            case measure => exact Nat.lt_succ_self m
            case rel => exact ⟨i + 1, _, rfl, by rw [HS.out], HN, HY, HB⟩
    · have hlt := r_ge hi8
      have hlt2 := r_ged hi8
      have e := HT.out.fin hi8
      subst e
      clear hi8
      go_wp2_with fail
      exact bodyPost_ret (v := .string o) (by simp [results, Tryd.results33, go_sem]) rfl ⟨rfl, HB.out⟩
def address_Format.f (a0 : Bool) (a1 a2 : Int) : Option ByteArray := if a0 = true then some (fmt6 a1 a2) else strings_Join.f [decB (Go.bits .and .u64 (a2 / 16777216) 255), decB (Go.bits .and .u64 (a2 / 65536) 255), decB (Go.bits .and .u64 (a2 / 256) 255), decB (Go.bits .and .u64 (a2) 255)] (⟨#[46]⟩ : ByteArray)
theorem address_Format.calls (a0 : Bool) (a1 a2 : Int) (r : ByteArray) (w : World) (h : address_Format.f a0 a1 a2 = some r) (hW : WOK w) :
    Calls Tryd.prog 33 #[.agg #[.bool a0, .int .u64 a1, .int .u64 a2]] w fun e w' => e = .returned (.string r) ∧ Below w.heap.size w w' := by
  unfold address_Format.f at h
  cases a0 with
  | true =>
    rw [if_pos rfl] at h
    injection h with h
    subst h
    exact format6 a1 a2 w hW
  | false =>
    rw [if_neg (by decide)] at h
    exact format4 a1 a2 r w h hW
end Go.Proofs.YtlgfinnldhjgeaaDoor.Q
end

section
set_option linter.unusedVariables false
set_option linter.unusedSimpArgs false
namespace Go.Proofs.YtlgfinnldhjgeaaDoor.Q
open Go.RowKit Go.Proofs.YtlgfinnldhjgeaaDoorW.PrintWords Go.Proofs.YtlgfinnldhjgeaaDoorW.PrintLast Go.Proofs.YtlgfinnldhjgeaaDoorW.PrintMore
theorem lives06.e1 : address_Parse.f 40 (⟨#[58, 58, 49, 58, 48]⟩ : ByteArray) = some (true, 0, 65536, 0) := by kernel_rfl
theorem lives06.e2 : address_ParsePrefix.f 40 (⟨#[49, 48, 46, 48, 46, 48, 46, 48, 47, 56]⟩ : ByteArray) = some (false, 0, 167772160, 8, 0) := by kernel_rfl
theorem lives06.e3 : address_Parse.f 40 (⟨#[49, 48, 46, 49, 46, 50, 46, 51]⟩ : ByteArray) = some (false, 0, 167838211, 0) := by kernel_rfl
theorem lives06.e4 : address_Next.f false 0 255 = some (false, 0, 256, true) := by kernel_rfl
theorem lives06.e5 : address_Contains.f false 0 167772160 8 false 0 167838211 = some true := by kernel_rfl
theorem lives06.e6 : address_Format.f false 0 167838211 = some ⟨#[49, 48, 46, 49, 46, 50, 46, 51]⟩ := by kernel_rfl
theorem lives06.e7 : address_Format.f true 0 65536 = some ⟨#[58, 58, 49, 58, 48]⟩ := by kernel_rfl
theorem lives06.e8 : address_Compare.f false 0 167838211 true 0 65536 = some (-1) := by kernel_rfl
theorem lives06.e9 : address_Valid.f false 0 167838211 = some true := by kernel_rfl
def intrusionlaw06_lives.f : Option Bool := some true
set_option maxHeartbeats 4000000 in
set_option maxRecDepth 100000 in
theorem intrusionlaw06_lives.calls (r : Bool) (w : World) (h : intrusionlaw06_lives.f = some r) (hW : WOK w) :
    Calls Tryd.prog 10 #[] w fun e w' => e = .returned (.bool r) ∧ Below w.heap.size w w' := by
  injection h with h
  subst h
  have HW := Aside0.mk hW
  have HB : Aside0 (Below w.heap.size w w) := ⟨Below.refl _ _⟩
  clear hW
  go_enter Tryd.func10, Tryd.ntmps10
  go_wp2_with fail
  refine (address_Parse.calls 40 _ _ _ _ _ _ lives06.e1 (HW.out.below HB.out)).mono ?_
  rintro e w1 ⟨rfl, hb⟩
  replace HB := Aside0.mk (below_step HB.out hb)
  clear hb
  have HXa : Aside0 ((w1.alloc (.cells #[.bool true, .int .u64 0, .int .u64 65536] 25)).heap[w1.heap.size]? = some (.cells #[.bool true, .int .u64 0, .int .u64 65536] 25 (0, 0))) := ⟨heap_alloc_new _ _⟩
  replace HB := Aside0.mk (below_alloc HB.out (.cells #[.bool true, .int .u64 0, .int .u64 65536] 25))
  go_wp2_with fail
  obtain ⟨ga, hg⟩ : ∃ g, w1.heap.size = g := ⟨_, rfl⟩
  rw [hg] at HXa
  simp only [hg]
  clear hg
  generalize w1.alloc (.cells #[.bool true, .int .u64 0, .int .u64 65536] 25) = Wa at HXa HB ⊢
  refine (address_ParsePrefix.calls 40 _ _ _ _ _ _ _ lives06.e2 (HW.out.below HB.out)).mono ?_
  rintro e w2 ⟨rfl, hb⟩
  replace HB := Aside0.mk (below_step HB.out hb)
  replace HXa := Aside0.mk (blk_below HXa.out hb)
  clear hb
  have HXp : Aside0 ((w2.alloc (.cells #[.bool false, .int .u64 0, .int .u64 167772160, .int .i64 8] 30)).heap[w2.heap.size]? = some (.cells #[.bool false, .int .u64 0, .int .u64 167772160, .int .i64 8] 30 (0, 0))) := ⟨heap_alloc_new _ _⟩
  replace HXa := Aside0.mk (blk_alloc HXa.out (.cells #[.bool false, .int .u64 0, .int .u64 167772160, .int .i64 8] 30))
  replace HB := Aside0.mk (below_alloc HB.out (.cells #[.bool false, .int .u64 0, .int .u64 167772160, .int .i64 8] 30))
  go_wp2_with fail
  obtain ⟨gp, hg⟩ : ∃ g, w2.heap.size = g := ⟨_, rfl⟩
  rw [hg] at HXp
  simp only [hg]
  clear hg
  generalize w2.alloc (.cells #[.bool false, .int .u64 0, .int .u64 167772160, .int .i64 8] 30) = Wp at HXa HXp HB ⊢
  refine (address_Parse.calls 40 _ _ _ _ _ _ lives06.e3 (HW.out.below HB.out)).mono ?_
  rintro e w3 ⟨rfl, hb⟩
  replace HB := Aside0.mk (below_step HB.out hb)
  replace HXa := Aside0.mk (blk_below HXa.out hb)
  replace HXp := Aside0.mk (blk_below HXp.out hb)
  clear hb
  have HXb : Aside0 ((w3.alloc (.cells #[.bool false, .int .u64 0, .int .u64 167838211] 25)).heap[w3.heap.size]? = some (.cells #[.bool false, .int .u64 0, .int .u64 167838211] 25 (0, 0))) := ⟨heap_alloc_new _ _⟩
  replace HXa := Aside0.mk (blk_alloc HXa.out (.cells #[.bool false, .int .u64 0, .int .u64 167838211] 25))
  replace HXp := Aside0.mk (blk_alloc HXp.out (.cells #[.bool false, .int .u64 0, .int .u64 167838211] 25))
  replace HB := Aside0.mk (below_alloc HB.out (.cells #[.bool false, .int .u64 0, .int .u64 167838211] 25))
  go_wp2_with fail
  obtain ⟨gb, hg⟩ : ∃ g, w3.heap.size = g := ⟨_, rfl⟩
  rw [hg] at HXb
  simp only [hg]
  clear hg
  generalize w3.alloc (.cells #[.bool false, .int .u64 0, .int .u64 167838211] 25) = Wb at HXa HXp HXb HB ⊢
  refine (address_Next.calls _ _ _ _ _ _ _ _ lives06.e4).mono ?_
  rintro e w4 ⟨rfl, hb⟩
  replace HB := Aside0.mk (below_step HB.out hb)
  replace HXa := Aside0.mk (blk_below HXa.out hb)
  replace HXp := Aside0.mk (blk_below HXp.out hb)
  replace HXb := Aside0.mk (blk_below HXb.out hb)
  clear hb
  have HXn : Aside0 ((w4.alloc (.cells #[.bool false, .int .u64 0, .int .u64 256] 25)).heap[w4.heap.size]? = some (.cells #[.bool false, .int .u64 0, .int .u64 256] 25 (0, 0))) := ⟨heap_alloc_new _ _⟩
  replace HXa := Aside0.mk (blk_alloc HXa.out (.cells #[.bool false, .int .u64 0, .int .u64 256] 25))
  replace HXp := Aside0.mk (blk_alloc HXp.out (.cells #[.bool false, .int .u64 0, .int .u64 256] 25))
  replace HXb := Aside0.mk (blk_alloc HXb.out (.cells #[.bool false, .int .u64 0, .int .u64 256] 25))
  replace HB := Aside0.mk (below_alloc HB.out (.cells #[.bool false, .int .u64 0, .int .u64 256] 25))
  go_upto_region 5 with (fail)
  obtain ⟨gn, hg⟩ : ∃ g, w4.heap.size = g := ⟨_, rfl⟩
  rw [hg] at HXn
  simp only [hg]
  clear hg
  generalize w4.alloc (.cells #[.bool false, .int .u64 0, .int .u64 256] 25) = Wn at HXa HXp HXb HXn HB ⊢
  obtain ⟨ca0, ca1, ca2⟩ := zc3 HXa
  obtain ⟨cp0, cp1, cp2, cp3⟩ := zc4 HXp
  obtain ⟨cb0, cb1, cb2⟩ := zc3 HXb
  obtain ⟨cn0, cn1, cn2⟩ := zc3 HXn
  go_wp2_with fail
  clear ca0 ca1 ca2
  clear cp0 cp1 cp2 cp3
  clear cb0 cb1 cb2
  clear cn0 cn1 cn2
  refine (address_Contains.calls _ _ _ _ _ _ _ _ _ lives06.e5).mono ?_
  rintro e w5 ⟨rfl, hb⟩
  replace HB := Aside0.mk (below_step HB.out hb)
  replace HXa := Aside0.mk (blk_below HXa.out hb)
  replace HXp := Aside0.mk (blk_below HXp.out hb)
  replace HXb := Aside0.mk (blk_below HXb.out hb)
  replace HXn := Aside0.mk (blk_below HXn.out hb)
  clear hb
  obtain ⟨ca0, ca1, ca2⟩ := zc3 HXa
  obtain ⟨cp0, cp1, cp2, cp3⟩ := zc4 HXp
  obtain ⟨cb0, cb1, cb2⟩ := zc3 HXb
  obtain ⟨cn0, cn1, cn2⟩ := zc3 HXn
  go_wp2_with fail
  clear ca0 ca1 ca2
  clear cp0 cp1 cp2 cp3
  clear cb0 cb1 cb2
  clear cn0 cn1 cn2
  refine (address_Valid.calls _ _ _ _ _ lives06.e9).mono ?_
  rintro e w6 ⟨rfl, hb⟩
  replace HB := Aside0.mk (below_step HB.out hb)
  replace HXa := Aside0.mk (blk_below HXa.out hb)
  replace HXp := Aside0.mk (blk_below HXp.out hb)
  replace HXb := Aside0.mk (blk_below HXb.out hb)
  replace HXn := Aside0.mk (blk_below HXn.out hb)
  clear hb
  obtain ⟨ca0, ca1, ca2⟩ := zc3 HXa
  obtain ⟨cp0, cp1, cp2, cp3⟩ := zc4 HXp
  obtain ⟨cb0, cb1, cb2⟩ := zc3 HXb
  obtain ⟨cn0, cn1, cn2⟩ := zc3 HXn
  go_wp2_with fail
  clear ca0 ca1 ca2
  clear cp0 cp1 cp2 cp3
  clear cb0 cb1 cb2
  clear cn0 cn1 cn2
  refine (address_Format.calls _ _ _ _ _ lives06.e6 (HW.out.below HB.out)).mono ?_
  rintro e w7 ⟨rfl, hb⟩
  replace HB := Aside0.mk (below_step HB.out hb)
  replace HXa := Aside0.mk (blk_below HXa.out hb)
  replace HXp := Aside0.mk (blk_below HXp.out hb)
  replace HXb := Aside0.mk (blk_below HXb.out hb)
  replace HXn := Aside0.mk (blk_below HXn.out hb)
  clear hb
  obtain ⟨ca0, ca1, ca2⟩ := zc3 HXa
  obtain ⟨cp0, cp1, cp2, cp3⟩ := zc4 HXp
  obtain ⟨cb0, cb1, cb2⟩ := zc3 HXb
  obtain ⟨cn0, cn1, cn2⟩ := zc3 HXn
  go_wp2_with fail
  clear ca0 ca1 ca2
  clear cp0 cp1 cp2 cp3
  clear cb0 cb1 cb2
  clear cn0 cn1 cn2
  refine (address_Format.calls _ _ _ _ _ lives06.e7 (HW.out.below HB.out)).mono ?_
  rintro e w8 ⟨rfl, hb⟩
  replace HB := Aside0.mk (below_step HB.out hb)
  replace HXa := Aside0.mk (blk_below HXa.out hb)
  replace HXp := Aside0.mk (blk_below HXp.out hb)
  replace HXb := Aside0.mk (blk_below HXb.out hb)
  replace HXn := Aside0.mk (blk_below HXn.out hb)
  clear hb
  obtain ⟨ca0, ca1, ca2⟩ := zc3 HXa
  obtain ⟨cp0, cp1, cp2, cp3⟩ := zc4 HXp
  obtain ⟨cb0, cb1, cb2⟩ := zc3 HXb
  obtain ⟨cn0, cn1, cn2⟩ := zc3 HXn
  go_wp2_with fail
  clear ca0 ca1 ca2
  clear cp0 cp1 cp2 cp3
  clear cb0 cb1 cb2
  clear cn0 cn1 cn2
  refine (address_Compare.calls _ _ _ _ _ _ _ _ lives06.e8).mono ?_
  rintro e w9 ⟨rfl, hb⟩
  replace HB := Aside0.mk (below_step HB.out hb)
  replace HXa := Aside0.mk (blk_below HXa.out hb)
  replace HXp := Aside0.mk (blk_below HXp.out hb)
  replace HXb := Aside0.mk (blk_below HXb.out hb)
  replace HXn := Aside0.mk (blk_below HXn.out hb)
  clear hb
  obtain ⟨ca0, ca1, ca2⟩ := zc3 HXa
  obtain ⟨cp0, cp1, cp2, cp3⟩ := zc4 HXp
  obtain ⟨cb0, cb1, cb2⟩ := zc3 HXb
  obtain ⟨cn0, cn1, cn2⟩ := zc3 HXn
  go_wp2_with fail
  exact bodyPost_ret (v := .bool true) (by simp [results, Tryd.results10, go_sem]) rfl ⟨rfl, HB.out⟩
end Go.Proofs.YtlgfinnldhjgeaaDoor.Q
end

section
namespace Go.Proofs.YtlgfinnldhjgeaaDoor.Q
open Go.RowKit Go.Proofs.YtlgfinnldhjgeaaDoorW.PrintWords Go.Proofs.YtlgfinnldhjgeaaDoorW.PrintLast Go.Proofs.YtlgfinnldhjgeaaDoorW.PrintMore
attribute [local go_sem] max2_int min2_int max_two min_two max_three min_three max_four min_four
set_option linter.unusedVariables false
set_option linter.unusedSimpArgs false
attribute [local go_sem high] eqA25
def intrusionlaw06_AddressBytes.f (k : Nat) (a0 : ByteArray) : Option (Bool) := if (a0.size : Int) > 40 then ((intrusionlaw06_lives.f).bind fun t412 => (some t412)) else ((address_FromBytes.f k a0).bind fun bt413 => ((intrusionref06_FromBytes.f k a0).bind fun bt418 => (if (bt413.1 == bt418.1 && (bt413.2.1 == bt418.2.1 && (bt413.2.2.1 == bt418.2.2.1))) = true then (if bt413.2.2.2 = bt418.2.2.2 then (if bt413.2.2.2 = 0 then ((address_Bytes.f k bt413.1 bt413.2.1 bt413.2.2.1).bind fun t423 => (if t423.toList = a0.toList then ((intrusionlaw06_lives.f).bind fun t424 => (some t424)) else (some false))) else ((intrusionlaw06_lives.f).bind fun t425 => (some t425))) else (some false)) else (some false))))
theorem intrusionlaw06_AddressBytes.mono : ∀ a0 k, LeO (intrusionlaw06_AddressBytes.f k a0) (intrusionlaw06_AddressBytes.f (k + 1) a0) := by
  intro a0 k
  unfold intrusionlaw06_AddressBytes.f
  repeat' first
      | (with_reducible exact address_Bytes.mono _ _ _ _)
      | (with_reducible exact address_FromBytes.mono _ _)
      | (with_reducible exact intrusionref06_FromBytes.mono _ _)
      | (with_reducible exact LeO.refl _)
      | (with_reducible exact LeO.none _)
      | (with_reducible refine LeO.ite ?_ ?_)
      | (with_reducible refine LeO.bind ?_ (fun _ => ?_))
      | exact address_Bytes.mono _ _ _ _
      | exact address_FromBytes.mono _ _
      | exact intrusionref06_FromBytes.mono _ _
      | exact LeO.none _
      | refine LeO.ite ?_ ?_
      | refine LeO.bind ?_ (fun _ => ?_)
set_option maxHeartbeats 8000000 in
set_option maxRecDepth 100000 in
theorem intrusionlaw06_AddressBytes.calls (k : Nat) (a0 : ByteArray) (r : Bool) (w : World) (h : intrusionlaw06_AddressBytes.f k a0 = some r) (hW_ : WOK w) :
 Calls Tryd.prog 7 #[.string a0] w fun e w' => e = .returned (.bool r) ∧ Below w.heap.size w w' := by
 have hu25 := Tryd.underlying25
 have HB := Aside0.mk (Below.refl w.heap.size w)
 unfold intrusionlaw06_AddressBytes.f at h; have H := h
 clear h
 by_cases c2 : (a0.size : Int) > 40
 · rw [if_pos c2] at H
   have c2b0 : decide (40 < (a0.size : Int)) = true := decide_eq_true c2
   have c2b1 : decide (40 < a0.size) = true := decide_eq_true (by omega)
   clear c2
   replace H := Option.bind_eq_some_iff.mp H
   obtain ⟨t412, A30, H⟩ := H
   try dsimp only at H
   have A3 := Aside0.mk A30
   clear A30
   obtain rfl := Option.some.inj H
   go_enter Tryd.func7, Tryd.ntmps7
   go_wp2_with (first | ((with_reducible refine gate_callee (f := 10) rfl ?_); refine goesL_ (some 10) rfl rfl Tryd.func10 (by kernel_rfl) rfl #[] rfl (by (try simp only [List.map_toArray, List.map_cons, List.map_nil]); first | done | rfl | (simp only [List.length_drop, List.length_take]; rfl)) ?_; (with_reducible refine (intrusionlaw06_lives.calls  t412 _ A3.out (WOK.below hW_ (zB HB))).mono ?_); rintro e w4 ⟨rfl, hb⟩; refine ⟨_, rfl, ?_⟩; replace HB := Aside0.mk (below_step (zB HB) hb); (try clear hb)))
   go_ret
   exact ⟨by first | rfl | (simp [errW_none, errW_some] <;> rfl) | (simp [*, errW_none, errW_some] <;> rfl), by repeat (first | (with_reducible first | exact HB.out | apply below_alloc | apply pw_below_drewN | apply below_drew1) | exact HB.out)⟩
 · rw [if_neg c2] at H
   have c2b0 : decide (40 < (a0.size : Int)) = false := decide_eq_false c2
   have c2b1 : decide (40 < a0.size) = false := decide_eq_false (by omega)
   clear c2
   replace H := Option.bind_eq_some_iff.mp H
   obtain ⟨⟨t413, t414, t415, t416⟩, A50, H⟩ := H
   try dsimp only at H
   have A5 := Aside0.mk A50
   clear A50
   replace H := Option.bind_eq_some_iff.mp H
   obtain ⟨⟨t418, t419, t420, t421⟩, A60, H⟩ := H
   try dsimp only at H
   have A6 := Aside0.mk A60
   clear A60
   by_cases c7 : (t413 == t418 && (t414 == t419 && (t415 == t420))) = true
   · rw [if_pos c7] at H
     have c7b0 : (t413 == t418 && (t414 == t419 && (t415 == t420))) = true := c7
     (try (have c7b1 : decide (t413 = t418 && (t414 == t419 && (t415 == t420))) = true := by first | (simpa using c7) | exact decide_eq_true (Decidable.not_not.1 (fun hn => c7 (bne_iff_ne.2 hn))) | exact beq_iff_eq.2 (Decidable.not_not.1 (fun hn => c7 (bne_iff_ne.2 hn))) | exact decide_eq_false (bne_iff_ne.1 c7) | exact beq_eq_false_iff_ne.2 (bne_iff_ne.1 c7) | exact bne_iff_ne.1 c7))
     (try (have c7b2 : (t413 == t418 && (t414 == t419 && (t415 == t420))) = true := by first | (simpa using c7) | exact decide_eq_true (Decidable.not_not.1 (fun hn => c7 (bne_iff_ne.2 hn))) | exact beq_iff_eq.2 (Decidable.not_not.1 (fun hn => c7 (bne_iff_ne.2 hn))) | exact decide_eq_false (bne_iff_ne.1 c7) | exact beq_eq_false_iff_ne.2 (bne_iff_ne.1 c7) | exact bne_iff_ne.1 c7))
     clear c7
     by_cases c8 : t416 = t421
     · rw [if_pos c8] at H
       have c8b0 : (t416 == t421) = true := beq_iff_eq.mpr c8
       have c8b1 : (t416 != t421) = false := bne_eq_false_iff_eq.mpr c8
       clear c8
       by_cases c9 : t416 = 0
       · rw [if_pos c9] at H
         have c9b0 : (t416 == 0) = true := beq_iff_eq.mpr c9
         have c9b1 : (t416 != 0) = false := bne_eq_false_iff_eq.mpr c9
         clear c9
         replace H := Option.bind_eq_some_iff.mp H
         obtain ⟨t423, A100, H⟩ := H
         try dsimp only at H
         have A10 := Aside0.mk A100
         clear A100
         by_cases c11 : t423.toList = a0.toList
         · rw [if_pos c11] at H
           have c11b0 : (t423.toList == a0.toList) = true := beq_iff_eq.mpr c11
           have c11b1 : (t423.toList != a0.toList) = false := bne_eq_false_iff_eq.mpr c11
           clear c11
           replace H := Option.bind_eq_some_iff.mp H
           obtain ⟨t424, A120, H⟩ := H
           try dsimp only at H
           have A12 := Aside0.mk A120
           clear A120
           obtain rfl := Option.some.inj H
           go_enter Tryd.func7, Tryd.ntmps7
           go_wp2_with (first | ((with_reducible refine gate_callee (f := 28) rfl ?_); refine goesL_ (some 13) rfl rfl Tryd.func28 (by kernel_rfl) rfl #[.string a0] rfl (by (try simp only [List.map_toArray, List.map_cons, List.map_nil]); first | done | rfl | (simp only [List.length_drop, List.length_take]; rfl)) ?_; (with_reducible refine (address_FromBytes.calls k a0 t413 t414 t415 t416 _ A5.out).mono ?_); rintro e w13 ⟨rfl, hb⟩; refine ⟨_, rfl, ?_⟩; replace HB := Aside0.mk (below_step (zB HB) hb); (try clear hb)) | ((with_reducible refine gate_dst (N := 3) rfl ?_); refine zx 3 #[.bool false, .int .u64 0, .int .u64 0] 25 ?_; intro gb417 hg w14 hbox hb; have BK417 := Aside0.mk (hbox); have GW417 := Aside0.mk ((by rw [hg]; exact (below_size (zB HB)) : w.heap.size ≤ gb417)); have GE417 := Aside0.mk ((by rw [hg]; exact (below_size (zB HB)) : w.heap.size ≤ gb417)); replace HB := Aside0.mk (below_step (zB HB) hb); clear hb hbox hg; obtain ⟨hcz15_0, hcz15_1, hcz15_2⟩ := zc3 BK417; obtain ⟨hfz15_0, hfz15_1, hfz15_2⟩ := zf3 BK417) | ((with_reducible refine gate_callee (f := 29) rfl ?_); refine goesL_ (some 18) rfl rfl Tryd.func29 (by kernel_rfl) rfl #[.string a0] rfl (by (try simp only [List.map_toArray, List.map_cons, List.map_nil]); first | done | rfl | (simp only [List.length_drop, List.length_take]; rfl)) ?_; (with_reducible refine (intrusionref06_FromBytes.calls k a0 t418 t419 t420 t421 _ A6.out).mono ?_); rintro e w16 ⟨rfl, hb⟩; refine ⟨_, rfl, ?_⟩; replace BK417 := Aside0.mk (blk_below (g := gb417) (o := .cells #[.bool t413, .int .u64 t414, .int .u64 t415] 25 (0, 0)) (by refine zL ?_; refine blk_put (cs := #[.bool t413, .int .u64 t414, .int .u64 0]) ?_ 2 _ rfl; refine zL ?_; refine blk_put (cs := #[.bool t413, .int .u64 0, .int .u64 0]) ?_ 1 _ rfl; refine zL ?_; refine blk_put (cs := #[.bool false, .int .u64 0, .int .u64 0]) ?_ 0 _ rfl; refine zL ?_; exact BK417.out) hb); replace HB := Aside0.mk (below_step (zB HB) hb); (try clear hb)) | ((with_reducible refine gate_dst (N := 5) rfl ?_); refine zx 5 #[.bool false, .int .u64 0, .int .u64 0] 25 ?_; intro gb422 hg w17 hbox hb; have BK422 := Aside0.mk (hbox); have GW422 := Aside0.mk ((by rw [hg]; exact (below_size (zB HB)) : w.heap.size ≤ gb422)); have GE422 := Aside0.mk ((by rw [hg]; exact (below_size (zB HB)) : w.heap.size ≤ gb422)); replace HB := Aside0.mk (below_step (zB HB) hb); have NB417_422 := Aside0.mk ((by rw [hg]; exact Nat.ne_of_lt (blk_lt (g := gb417) (o := .cells #[.bool t413, .int .u64 t414, .int .u64 t415] 25 (0, 0)) (zK BK417)) : gb417 ≠ gb422)); have NB422_417 := Aside0.mk ((by rw [hg]; exact Nat.ne_of_gt (blk_lt (g := gb417) (o := .cells #[.bool t413, .int .u64 t414, .int .u64 t415] 25 (0, 0)) (zK BK417)) : gb422 ≠ gb417)); replace BK417 := Aside0.mk (blk_below (g := gb417) (o := .cells #[.bool t413, .int .u64 t414, .int .u64 t415] 25 (0, 0)) (zK BK417) hb); clear hb hbox hg; have hnb18 := NB422_417.out; have hnc18 := NB417_422.out; obtain ⟨hcz19_0, hcz19_1, hcz19_2⟩ := zc3 BK422; obtain ⟨hfz19_0, hfz19_1, hfz19_2⟩ := zf3 BK422; obtain ⟨hcz20_0, hcz20_1, hcz20_2⟩ := zc3 BK417; obtain ⟨hfz20_0, hfz20_1, hfz20_2⟩ := zf3 BK417) | (go_at_call 30; (with_reducible refine (address_Bytes.calls k t413 t414 t415 t423 _ A10.out).mono ?_); rintro e w21 ⟨rfl, hb⟩; replace BK417 := Aside0.mk (blk_below (g := gb417) (o := .cells #[.bool t413, .int .u64 t414, .int .u64 t415] 25 (0, 0)) (by refine zL ?_; refine blk_far ?_ NB417_422.out _; refine zL ?_; refine blk_far ?_ NB417_422.out _; refine zL ?_; refine blk_far ?_ NB417_422.out _; refine zL ?_; exact BK417.out) hb); replace BK422 := Aside0.mk (blk_below (g := gb422) (o := .cells #[.bool t418, .int .u64 t419, .int .u64 t420] 25 (0, 0)) (by refine zL ?_; refine blk_put (cs := #[.bool t418, .int .u64 t419, .int .u64 0]) ?_ 2 _ rfl; refine zL ?_; refine blk_put (cs := #[.bool t418, .int .u64 0, .int .u64 0]) ?_ 1 _ rfl; refine zL ?_; refine blk_put (cs := #[.bool false, .int .u64 0, .int .u64 0]) ?_ 0 _ rfl; refine zL ?_; exact BK422.out) hb); replace HB := Aside0.mk (below_step (zB HB) hb); (try clear hb)) | (go_at_call 10; (with_reducible refine (intrusionlaw06_lives.calls  t424 _ A12.out (WOK.below hW_ (zB HB))).mono ?_); rintro e w22 ⟨rfl, hb⟩; replace BK417 := Aside0.mk (blk_below (g := gb417) (o := .cells #[.bool t413, .int .u64 t414, .int .u64 t415] 25 (0, 0)) (zK BK417) hb); replace BK422 := Aside0.mk (blk_below (g := gb422) (o := .cells #[.bool t418, .int .u64 t419, .int .u64 t420] 25 (0, 0)) (zK BK422) hb); replace HB := Aside0.mk (below_step (zB HB) hb); (try clear hb)))
           go_ret
           exact ⟨by first | rfl | (simp [errW_none, errW_some] <;> rfl) | (simp [*, errW_none, errW_some] <;> rfl), by repeat (first | (with_reducible first | exact HB.out | apply below_alloc | apply pw_below_drewN | apply below_drew1 | refine below_set ?_ GE417.out | refine below_set ?_ GE422.out) | exact HB.out)⟩
         · rw [if_neg c11] at H
           have c11b0 : (t423.toList == a0.toList) = false := beq_eq_false_iff_ne.mpr c11
           have c11b1 : (t423.toList != a0.toList) = true := bne_iff_ne.mpr c11
           obtain rfl := Option.some.inj H
           go_enter Tryd.func7, Tryd.ntmps7
           go_wp2_with (first | ((with_reducible refine gate_callee (f := 28) rfl ?_); refine goesL_ (some 13) rfl rfl Tryd.func28 (by kernel_rfl) rfl #[.string a0] rfl (by (try simp only [List.map_toArray, List.map_cons, List.map_nil]); first | done | rfl | (simp only [List.length_drop, List.length_take]; rfl)) ?_; (with_reducible refine (address_FromBytes.calls k a0 t413 t414 t415 t416 _ A5.out).mono ?_); rintro e w23 ⟨rfl, hb⟩; refine ⟨_, rfl, ?_⟩; replace HB := Aside0.mk (below_step (zB HB) hb); (try clear hb)) | ((with_reducible refine gate_dst (N := 3) rfl ?_); refine zx 3 #[.bool false, .int .u64 0, .int .u64 0] 25 ?_; intro gb417 hg w24 hbox hb; have BK417 := Aside0.mk (hbox); have GW417 := Aside0.mk ((by rw [hg]; exact (below_size (zB HB)) : w.heap.size ≤ gb417)); have GE417 := Aside0.mk ((by rw [hg]; exact (below_size (zB HB)) : w.heap.size ≤ gb417)); replace HB := Aside0.mk (below_step (zB HB) hb); clear hb hbox hg; obtain ⟨hcz25_0, hcz25_1, hcz25_2⟩ := zc3 BK417; obtain ⟨hfz25_0, hfz25_1, hfz25_2⟩ := zf3 BK417) | ((with_reducible refine gate_callee (f := 29) rfl ?_); refine goesL_ (some 18) rfl rfl Tryd.func29 (by kernel_rfl) rfl #[.string a0] rfl (by (try simp only [List.map_toArray, List.map_cons, List.map_nil]); first | done | rfl | (simp only [List.length_drop, List.length_take]; rfl)) ?_; (with_reducible refine (intrusionref06_FromBytes.calls k a0 t418 t419 t420 t421 _ A6.out).mono ?_); rintro e w26 ⟨rfl, hb⟩; refine ⟨_, rfl, ?_⟩; replace BK417 := Aside0.mk (blk_below (g := gb417) (o := .cells #[.bool t413, .int .u64 t414, .int .u64 t415] 25 (0, 0)) (by refine zL ?_; refine blk_put (cs := #[.bool t413, .int .u64 t414, .int .u64 0]) ?_ 2 _ rfl; refine zL ?_; refine blk_put (cs := #[.bool t413, .int .u64 0, .int .u64 0]) ?_ 1 _ rfl; refine zL ?_; refine blk_put (cs := #[.bool false, .int .u64 0, .int .u64 0]) ?_ 0 _ rfl; refine zL ?_; exact BK417.out) hb); replace HB := Aside0.mk (below_step (zB HB) hb); (try clear hb)) | ((with_reducible refine gate_dst (N := 5) rfl ?_); refine zx 5 #[.bool false, .int .u64 0, .int .u64 0] 25 ?_; intro gb422 hg w27 hbox hb; have BK422 := Aside0.mk (hbox); have GW422 := Aside0.mk ((by rw [hg]; exact (below_size (zB HB)) : w.heap.size ≤ gb422)); have GE422 := Aside0.mk ((by rw [hg]; exact (below_size (zB HB)) : w.heap.size ≤ gb422)); replace HB := Aside0.mk (below_step (zB HB) hb); have NB417_422 := Aside0.mk ((by rw [hg]; exact Nat.ne_of_lt (blk_lt (g := gb417) (o := .cells #[.bool t413, .int .u64 t414, .int .u64 t415] 25 (0, 0)) (zK BK417)) : gb417 ≠ gb422)); have NB422_417 := Aside0.mk ((by rw [hg]; exact Nat.ne_of_gt (blk_lt (g := gb417) (o := .cells #[.bool t413, .int .u64 t414, .int .u64 t415] 25 (0, 0)) (zK BK417)) : gb422 ≠ gb417)); replace BK417 := Aside0.mk (blk_below (g := gb417) (o := .cells #[.bool t413, .int .u64 t414, .int .u64 t415] 25 (0, 0)) (zK BK417) hb); clear hb hbox hg; have hnb28 := NB422_417.out; have hnc28 := NB417_422.out; obtain ⟨hcz29_0, hcz29_1, hcz29_2⟩ := zc3 BK422; obtain ⟨hfz29_0, hfz29_1, hfz29_2⟩ := zf3 BK422; obtain ⟨hcz30_0, hcz30_1, hcz30_2⟩ := zc3 BK417; obtain ⟨hfz30_0, hfz30_1, hfz30_2⟩ := zf3 BK417) | (go_at_call 30; (with_reducible refine (address_Bytes.calls k t413 t414 t415 t423 _ A10.out).mono ?_); rintro e w31 ⟨rfl, hb⟩; replace BK417 := Aside0.mk (blk_below (g := gb417) (o := .cells #[.bool t413, .int .u64 t414, .int .u64 t415] 25 (0, 0)) (by refine zL ?_; refine blk_far ?_ NB417_422.out _; refine zL ?_; refine blk_far ?_ NB417_422.out _; refine zL ?_; refine blk_far ?_ NB417_422.out _; refine zL ?_; exact BK417.out) hb); replace BK422 := Aside0.mk (blk_below (g := gb422) (o := .cells #[.bool t418, .int .u64 t419, .int .u64 t420] 25 (0, 0)) (by refine zL ?_; refine blk_put (cs := #[.bool t418, .int .u64 t419, .int .u64 0]) ?_ 2 _ rfl; refine zL ?_; refine blk_put (cs := #[.bool t418, .int .u64 0, .int .u64 0]) ?_ 1 _ rfl; refine zL ?_; refine blk_put (cs := #[.bool false, .int .u64 0, .int .u64 0]) ?_ 0 _ rfl; refine zL ?_; exact BK422.out) hb); replace HB := Aside0.mk (below_step (zB HB) hb); (try clear hb)))
           go_ret
           exact ⟨by first | rfl | (simp [errW_none, errW_some] <;> rfl) | (simp [*, errW_none, errW_some] <;> rfl), by repeat (first | (with_reducible first | exact HB.out | apply below_alloc | apply pw_below_drewN | apply below_drew1 | refine below_set ?_ GE417.out | refine below_set ?_ GE422.out) | exact HB.out)⟩
       · rw [if_neg c9] at H
         have c9b0 : (t416 == 0) = false := beq_eq_false_iff_ne.mpr c9
         have c9b1 : (t416 != 0) = true := bne_iff_ne.mpr c9
         replace H := Option.bind_eq_some_iff.mp H
         obtain ⟨t425, A320, H⟩ := H
         try dsimp only at H
         have A32 := Aside0.mk A320
         clear A320
         obtain rfl := Option.some.inj H
         go_enter Tryd.func7, Tryd.ntmps7
         go_wp2_with (first | ((with_reducible refine gate_callee (f := 28) rfl ?_); refine goesL_ (some 13) rfl rfl Tryd.func28 (by kernel_rfl) rfl #[.string a0] rfl (by (try simp only [List.map_toArray, List.map_cons, List.map_nil]); first | done | rfl | (simp only [List.length_drop, List.length_take]; rfl)) ?_; (with_reducible refine (address_FromBytes.calls k a0 t413 t414 t415 t416 _ A5.out).mono ?_); rintro e w33 ⟨rfl, hb⟩; refine ⟨_, rfl, ?_⟩; replace HB := Aside0.mk (below_step (zB HB) hb); (try clear hb)) | ((with_reducible refine gate_dst (N := 3) rfl ?_); refine zx 3 #[.bool false, .int .u64 0, .int .u64 0] 25 ?_; intro gb417 hg w34 hbox hb; have BK417 := Aside0.mk (hbox); have GW417 := Aside0.mk ((by rw [hg]; exact (below_size (zB HB)) : w.heap.size ≤ gb417)); have GE417 := Aside0.mk ((by rw [hg]; exact (below_size (zB HB)) : w.heap.size ≤ gb417)); replace HB := Aside0.mk (below_step (zB HB) hb); clear hb hbox hg; obtain ⟨hcz35_0, hcz35_1, hcz35_2⟩ := zc3 BK417; obtain ⟨hfz35_0, hfz35_1, hfz35_2⟩ := zf3 BK417) | ((with_reducible refine gate_callee (f := 29) rfl ?_); refine goesL_ (some 18) rfl rfl Tryd.func29 (by kernel_rfl) rfl #[.string a0] rfl (by (try simp only [List.map_toArray, List.map_cons, List.map_nil]); first | done | rfl | (simp only [List.length_drop, List.length_take]; rfl)) ?_; (with_reducible refine (intrusionref06_FromBytes.calls k a0 t418 t419 t420 t421 _ A6.out).mono ?_); rintro e w36 ⟨rfl, hb⟩; refine ⟨_, rfl, ?_⟩; replace BK417 := Aside0.mk (blk_below (g := gb417) (o := .cells #[.bool t413, .int .u64 t414, .int .u64 t415] 25 (0, 0)) (by refine zL ?_; refine blk_put (cs := #[.bool t413, .int .u64 t414, .int .u64 0]) ?_ 2 _ rfl; refine zL ?_; refine blk_put (cs := #[.bool t413, .int .u64 0, .int .u64 0]) ?_ 1 _ rfl; refine zL ?_; refine blk_put (cs := #[.bool false, .int .u64 0, .int .u64 0]) ?_ 0 _ rfl; refine zL ?_; exact BK417.out) hb); replace HB := Aside0.mk (below_step (zB HB) hb); (try clear hb)) | ((with_reducible refine gate_dst (N := 5) rfl ?_); refine zx 5 #[.bool false, .int .u64 0, .int .u64 0] 25 ?_; intro gb422 hg w37 hbox hb; have BK422 := Aside0.mk (hbox); have GW422 := Aside0.mk ((by rw [hg]; exact (below_size (zB HB)) : w.heap.size ≤ gb422)); have GE422 := Aside0.mk ((by rw [hg]; exact (below_size (zB HB)) : w.heap.size ≤ gb422)); replace HB := Aside0.mk (below_step (zB HB) hb); have NB417_422 := Aside0.mk ((by rw [hg]; exact Nat.ne_of_lt (blk_lt (g := gb417) (o := .cells #[.bool t413, .int .u64 t414, .int .u64 t415] 25 (0, 0)) (zK BK417)) : gb417 ≠ gb422)); have NB422_417 := Aside0.mk ((by rw [hg]; exact Nat.ne_of_gt (blk_lt (g := gb417) (o := .cells #[.bool t413, .int .u64 t414, .int .u64 t415] 25 (0, 0)) (zK BK417)) : gb422 ≠ gb417)); replace BK417 := Aside0.mk (blk_below (g := gb417) (o := .cells #[.bool t413, .int .u64 t414, .int .u64 t415] 25 (0, 0)) (zK BK417) hb); clear hb hbox hg; have hnb38 := NB422_417.out; have hnc38 := NB417_422.out; obtain ⟨hcz39_0, hcz39_1, hcz39_2⟩ := zc3 BK422; obtain ⟨hfz39_0, hfz39_1, hfz39_2⟩ := zf3 BK422; obtain ⟨hcz40_0, hcz40_1, hcz40_2⟩ := zc3 BK417; obtain ⟨hfz40_0, hfz40_1, hfz40_2⟩ := zf3 BK417) | (go_at_call 10; (with_reducible refine (intrusionlaw06_lives.calls  t425 _ A32.out (WOK.below hW_ (zB HB))).mono ?_); rintro e w41 ⟨rfl, hb⟩; replace BK417 := Aside0.mk (blk_below (g := gb417) (o := .cells #[.bool t413, .int .u64 t414, .int .u64 t415] 25 (0, 0)) (by refine zL ?_; refine blk_far ?_ NB417_422.out _; refine zL ?_; refine blk_far ?_ NB417_422.out _; refine zL ?_; refine blk_far ?_ NB417_422.out _; refine zL ?_; exact BK417.out) hb); replace BK422 := Aside0.mk (blk_below (g := gb422) (o := .cells #[.bool t418, .int .u64 t419, .int .u64 t420] 25 (0, 0)) (by refine zL ?_; refine blk_put (cs := #[.bool t418, .int .u64 t419, .int .u64 0]) ?_ 2 _ rfl; refine zL ?_; refine blk_put (cs := #[.bool t418, .int .u64 0, .int .u64 0]) ?_ 1 _ rfl; refine zL ?_; refine blk_put (cs := #[.bool false, .int .u64 0, .int .u64 0]) ?_ 0 _ rfl; refine zL ?_; exact BK422.out) hb); replace HB := Aside0.mk (below_step (zB HB) hb); (try clear hb)))
         go_ret
         exact ⟨by first | rfl | (simp [errW_none, errW_some] <;> rfl) | (simp [*, errW_none, errW_some] <;> rfl), by repeat (first | (with_reducible first | exact HB.out | apply below_alloc | apply pw_below_drewN | apply below_drew1 | refine below_set ?_ GE417.out | refine below_set ?_ GE422.out) | exact HB.out)⟩
     · rw [if_neg c8] at H
       have c8b0 : (t416 == t421) = false := beq_eq_false_iff_ne.mpr c8
       have c8b1 : (t416 != t421) = true := bne_iff_ne.mpr c8
       obtain rfl := Option.some.inj H
       go_enter Tryd.func7, Tryd.ntmps7
       go_wp2_with (first | ((with_reducible refine gate_callee (f := 28) rfl ?_); refine goesL_ (some 13) rfl rfl Tryd.func28 (by kernel_rfl) rfl #[.string a0] rfl (by (try simp only [List.map_toArray, List.map_cons, List.map_nil]); first | done | rfl | (simp only [List.length_drop, List.length_take]; rfl)) ?_; (with_reducible refine (address_FromBytes.calls k a0 t413 t414 t415 t416 _ A5.out).mono ?_); rintro e w42 ⟨rfl, hb⟩; refine ⟨_, rfl, ?_⟩; replace HB := Aside0.mk (below_step (zB HB) hb); (try clear hb)) | ((with_reducible refine gate_dst (N := 3) rfl ?_); refine zx 3 #[.bool false, .int .u64 0, .int .u64 0] 25 ?_; intro gb417 hg w43 hbox hb; have BK417 := Aside0.mk (hbox); have GW417 := Aside0.mk ((by rw [hg]; exact (below_size (zB HB)) : w.heap.size ≤ gb417)); have GE417 := Aside0.mk ((by rw [hg]; exact (below_size (zB HB)) : w.heap.size ≤ gb417)); replace HB := Aside0.mk (below_step (zB HB) hb); clear hb hbox hg; obtain ⟨hcz44_0, hcz44_1, hcz44_2⟩ := zc3 BK417; obtain ⟨hfz44_0, hfz44_1, hfz44_2⟩ := zf3 BK417) | ((with_reducible refine gate_callee (f := 29) rfl ?_); refine goesL_ (some 18) rfl rfl Tryd.func29 (by kernel_rfl) rfl #[.string a0] rfl (by (try simp only [List.map_toArray, List.map_cons, List.map_nil]); first | done | rfl | (simp only [List.length_drop, List.length_take]; rfl)) ?_; (with_reducible refine (intrusionref06_FromBytes.calls k a0 t418 t419 t420 t421 _ A6.out).mono ?_); rintro e w45 ⟨rfl, hb⟩; refine ⟨_, rfl, ?_⟩; replace BK417 := Aside0.mk (blk_below (g := gb417) (o := .cells #[.bool t413, .int .u64 t414, .int .u64 t415] 25 (0, 0)) (by refine zL ?_; refine blk_put (cs := #[.bool t413, .int .u64 t414, .int .u64 0]) ?_ 2 _ rfl; refine zL ?_; refine blk_put (cs := #[.bool t413, .int .u64 0, .int .u64 0]) ?_ 1 _ rfl; refine zL ?_; refine blk_put (cs := #[.bool false, .int .u64 0, .int .u64 0]) ?_ 0 _ rfl; refine zL ?_; exact BK417.out) hb); replace HB := Aside0.mk (below_step (zB HB) hb); (try clear hb)) | ((with_reducible refine gate_dst (N := 5) rfl ?_); refine zx 5 #[.bool false, .int .u64 0, .int .u64 0] 25 ?_; intro gb422 hg w46 hbox hb; have BK422 := Aside0.mk (hbox); have GW422 := Aside0.mk ((by rw [hg]; exact (below_size (zB HB)) : w.heap.size ≤ gb422)); have GE422 := Aside0.mk ((by rw [hg]; exact (below_size (zB HB)) : w.heap.size ≤ gb422)); replace HB := Aside0.mk (below_step (zB HB) hb); have NB417_422 := Aside0.mk ((by rw [hg]; exact Nat.ne_of_lt (blk_lt (g := gb417) (o := .cells #[.bool t413, .int .u64 t414, .int .u64 t415] 25 (0, 0)) (zK BK417)) : gb417 ≠ gb422)); have NB422_417 := Aside0.mk ((by rw [hg]; exact Nat.ne_of_gt (blk_lt (g := gb417) (o := .cells #[.bool t413, .int .u64 t414, .int .u64 t415] 25 (0, 0)) (zK BK417)) : gb422 ≠ gb417)); replace BK417 := Aside0.mk (blk_below (g := gb417) (o := .cells #[.bool t413, .int .u64 t414, .int .u64 t415] 25 (0, 0)) (zK BK417) hb); clear hb hbox hg; have hnb47 := NB422_417.out; have hnc47 := NB417_422.out; obtain ⟨hcz48_0, hcz48_1, hcz48_2⟩ := zc3 BK422; obtain ⟨hfz48_0, hfz48_1, hfz48_2⟩ := zf3 BK422; obtain ⟨hcz49_0, hcz49_1, hcz49_2⟩ := zc3 BK417; obtain ⟨hfz49_0, hfz49_1, hfz49_2⟩ := zf3 BK417))
       go_ret
       exact ⟨by first | rfl | (simp [errW_none, errW_some] <;> rfl) | (simp [*, errW_none, errW_some] <;> rfl), by repeat (first | (with_reducible first | exact HB.out | apply below_alloc | apply pw_below_drewN | apply below_drew1 | refine below_set ?_ GE417.out | refine below_set ?_ GE422.out) | exact HB.out)⟩
   · rw [if_neg c7] at H
     have c7b0 : (t413 == t418 && (t414 == t419 && (t415 == t420))) = false := by simpa using c7
     (try (have c7b1 : decide (t413 = t418 && (t414 == t419 && (t415 == t420))) = false := by first | (simpa using c7) | exact decide_eq_true (Decidable.not_not.1 (fun hn => c7 (bne_iff_ne.2 hn))) | exact beq_iff_eq.2 (Decidable.not_not.1 (fun hn => c7 (bne_iff_ne.2 hn))) | exact decide_eq_false (bne_iff_ne.1 c7) | exact beq_eq_false_iff_ne.2 (bne_iff_ne.1 c7) | exact bne_iff_ne.1 c7))
     (try (have c7b2 : (t413 == t418 && (t414 == t419 && (t415 == t420))) = false := by first | (simpa using c7) | exact decide_eq_true (Decidable.not_not.1 (fun hn => c7 (bne_iff_ne.2 hn))) | exact beq_iff_eq.2 (Decidable.not_not.1 (fun hn => c7 (bne_iff_ne.2 hn))) | exact decide_eq_false (bne_iff_ne.1 c7) | exact beq_eq_false_iff_ne.2 (bne_iff_ne.1 c7) | exact bne_iff_ne.1 c7))
     (try (have c7b3 : ¬ (t413 = t418 && (t414 == t419 && (t415 == t420))) := by first | (simpa using c7) | exact decide_eq_true (Decidable.not_not.1 (fun hn => c7 (bne_iff_ne.2 hn))) | exact beq_iff_eq.2 (Decidable.not_not.1 (fun hn => c7 (bne_iff_ne.2 hn))) | exact decide_eq_false (bne_iff_ne.1 c7) | exact beq_eq_false_iff_ne.2 (bne_iff_ne.1 c7) | exact bne_iff_ne.1 c7))
     clear c7
     obtain rfl := Option.some.inj H
     go_enter Tryd.func7, Tryd.ntmps7
     go_wp2_with (first | ((with_reducible refine gate_callee (f := 28) rfl ?_); refine goesL_ (some 13) rfl rfl Tryd.func28 (by kernel_rfl) rfl #[.string a0] rfl (by (try simp only [List.map_toArray, List.map_cons, List.map_nil]); first | done | rfl | (simp only [List.length_drop, List.length_take]; rfl)) ?_; (with_reducible refine (address_FromBytes.calls k a0 t413 t414 t415 t416 _ A5.out).mono ?_); rintro e w50 ⟨rfl, hb⟩; refine ⟨_, rfl, ?_⟩; replace HB := Aside0.mk (below_step (zB HB) hb); (try clear hb)) | ((with_reducible refine gate_dst (N := 3) rfl ?_); refine zx 3 #[.bool false, .int .u64 0, .int .u64 0] 25 ?_; intro gb417 hg w51 hbox hb; have BK417 := Aside0.mk (hbox); have GW417 := Aside0.mk ((by rw [hg]; exact (below_size (zB HB)) : w.heap.size ≤ gb417)); have GE417 := Aside0.mk ((by rw [hg]; exact (below_size (zB HB)) : w.heap.size ≤ gb417)); replace HB := Aside0.mk (below_step (zB HB) hb); clear hb hbox hg; obtain ⟨hcz52_0, hcz52_1, hcz52_2⟩ := zc3 BK417; obtain ⟨hfz52_0, hfz52_1, hfz52_2⟩ := zf3 BK417) | ((with_reducible refine gate_callee (f := 29) rfl ?_); refine goesL_ (some 18) rfl rfl Tryd.func29 (by kernel_rfl) rfl #[.string a0] rfl (by (try simp only [List.map_toArray, List.map_cons, List.map_nil]); first | done | rfl | (simp only [List.length_drop, List.length_take]; rfl)) ?_; (with_reducible refine (intrusionref06_FromBytes.calls k a0 t418 t419 t420 t421 _ A6.out).mono ?_); rintro e w53 ⟨rfl, hb⟩; refine ⟨_, rfl, ?_⟩; replace BK417 := Aside0.mk (blk_below (g := gb417) (o := .cells #[.bool t413, .int .u64 t414, .int .u64 t415] 25 (0, 0)) (by refine zL ?_; refine blk_put (cs := #[.bool t413, .int .u64 t414, .int .u64 0]) ?_ 2 _ rfl; refine zL ?_; refine blk_put (cs := #[.bool t413, .int .u64 0, .int .u64 0]) ?_ 1 _ rfl; refine zL ?_; refine blk_put (cs := #[.bool false, .int .u64 0, .int .u64 0]) ?_ 0 _ rfl; refine zL ?_; exact BK417.out) hb); replace HB := Aside0.mk (below_step (zB HB) hb); (try clear hb)) | ((with_reducible refine gate_dst (N := 5) rfl ?_); refine zx 5 #[.bool false, .int .u64 0, .int .u64 0] 25 ?_; intro gb422 hg w54 hbox hb; have BK422 := Aside0.mk (hbox); have GW422 := Aside0.mk ((by rw [hg]; exact (below_size (zB HB)) : w.heap.size ≤ gb422)); have GE422 := Aside0.mk ((by rw [hg]; exact (below_size (zB HB)) : w.heap.size ≤ gb422)); replace HB := Aside0.mk (below_step (zB HB) hb); have NB417_422 := Aside0.mk ((by rw [hg]; exact Nat.ne_of_lt (blk_lt (g := gb417) (o := .cells #[.bool t413, .int .u64 t414, .int .u64 t415] 25 (0, 0)) (zK BK417)) : gb417 ≠ gb422)); have NB422_417 := Aside0.mk ((by rw [hg]; exact Nat.ne_of_gt (blk_lt (g := gb417) (o := .cells #[.bool t413, .int .u64 t414, .int .u64 t415] 25 (0, 0)) (zK BK417)) : gb422 ≠ gb417)); replace BK417 := Aside0.mk (blk_below (g := gb417) (o := .cells #[.bool t413, .int .u64 t414, .int .u64 t415] 25 (0, 0)) (zK BK417) hb); clear hb hbox hg; have hnb55 := NB422_417.out; have hnc55 := NB417_422.out; obtain ⟨hcz56_0, hcz56_1, hcz56_2⟩ := zc3 BK422; obtain ⟨hfz56_0, hfz56_1, hfz56_2⟩ := zf3 BK422; obtain ⟨hcz57_0, hcz57_1, hcz57_2⟩ := zc3 BK417; obtain ⟨hfz57_0, hfz57_1, hfz57_2⟩ := zf3 BK417))
     go_ret
     exact ⟨by first | rfl | (simp [errW_none, errW_some] <;> rfl) | (simp [*, errW_none, errW_some] <;> rfl), by repeat (first | (with_reducible first | exact HB.out | apply below_alloc | apply pw_below_drewN | apply below_drew1 | refine below_set ?_ GE417.out | refine below_set ?_ GE422.out) | exact HB.out)⟩
end Go.Proofs.YtlgfinnldhjgeaaDoor.Q
end

section
set_option linter.unusedVariables false
set_option linter.unusedSimpArgs false
namespace Go.Proofs.YtlgfinnldhjgeaaDoor.Q
open Go.RowKit Go.Sort Go.Lib Go.Proofs.YtlgfinnldhjgeaaDoorW.PrintWords Go.Proofs.YtlgfinnldhjgeaaDoorW.PrintLast Go.Proofs.YtlgfinnldhjgeaaDoorW.PrintMore
def intrusionref06_Compare.f (a0_0 : Bool) (a0_1 : Int) (a0_2 : Int) (a1_0 : Bool) (a1_1 : Int) (a1_2 : Int) : Option (Int) := some (cmpA ⟨a0_0, a0_1, a0_2⟩ ⟨a1_0, a1_1, a1_2⟩)
end Go.Proofs.YtlgfinnldhjgeaaDoor.Q
end

section
set_option linter.unusedVariables false
set_option linter.unusedSimpArgs false
namespace Go.Proofs.YtlgfinnldhjgeaaDoor.Q
open Go.RowKit Go.Proofs.YtlgfinnldhjgeaaDoorW.PrintWords Go.Proofs.YtlgfinnldhjgeaaDoorW.PrintLast Go.Proofs.YtlgfinnldhjgeaaDoorW.PrintMore
def address_Previous.f (a0_0 : Bool) (a0_1 : Int) (a0_2 : Int) : Option (Bool × Int × Int × Bool) := if (a0_1 == 0 && (a0_2 == 0)) = true then (some (false, 0, 0, false)) else some (a0_0, (if a0_2 = 0 then IntKind.u64.wrap (a0_1 - 1) else a0_1), IntKind.u64.wrap (a0_2 - 1), true)
end Go.Proofs.YtlgfinnldhjgeaaDoor.Q
end

section
namespace Go.Proofs.YtlgfinnldhjgeaaDoor.Q
open Go.RowKit Go.Proofs.YtlgfinnldhjgeaaDoorW.PrintWords Go.Proofs.YtlgfinnldhjgeaaDoorW.PrintLast Go.Proofs.YtlgfinnldhjgeaaDoorW.PrintMore
attribute [local go_sem] max2_int min2_int max_two min_two max_three min_three max_four min_four
set_option linter.unusedVariables false
set_option linter.unusedSimpArgs false
def intrusionref06_Valid.f (a0_0 : Bool) (a0_1 : Int) (a0_2 : Int) : Option (Bool) := if a0_0 = true then (some true) else (if a0_1 = 0 then (some (decide (a0_2 < 4294967296))) else (some false))
end Go.Proofs.YtlgfinnldhjgeaaDoor.Q
end

section
namespace Go.Proofs.YtlgfinnldhjgeaaDoor.Q
open Go.RowKit Go.Proofs.YtlgfinnldhjgeaaDoorW.PrintWords Go.Proofs.YtlgfinnldhjgeaaDoorW.PrintLast Go.Proofs.YtlgfinnldhjgeaaDoorW.PrintMore
attribute [local go_sem] max2_int min2_int max_two min_two max_three min_three max_four min_four
set_option linter.unusedVariables false
set_option linter.unusedSimpArgs false
def intrusionref06_Next.j0 : Nat → Bool → Bool → Int → Int → Option (Bool × Int × Int × Bool)
  | 0, _, _, _, _ => none
  | k + 1, x14, x294000, x294001, x294002 => if x14 = true then (if x294000 = true then (if x294002 = 0 then (if (IntKind.u64.wrap (x294001 + 1)) = 0 then (some (false, 0, 0, false)) else (some (x294000, IntKind.u64.wrap (x294001 + 1), x294002, true))) else (some (x294000, IntKind.u64.wrap (x294001 + 1), x294002, true))) else (if x294002 = 4294967296 then (some (false, 0, 0, false)) else (some (x294000, IntKind.u64.wrap (x294001 + 1), x294002, true)))) else (if x294000 = true then (if x294002 = 0 then (if x294001 = 0 then (some (false, 0, 0, false)) else (some (x294000, x294001, x294002, true))) else (some (x294000, x294001, x294002, true))) else (if x294002 = 4294967296 then (some (false, 0, 0, false)) else (some (x294000, x294001, x294002, true))))
def intrusionref06_Next.f (k : Nat) (a0_0 : Bool) (a0_1 : Int) (a0_2 : Int) : Option (Bool × Int × Int × Bool) := if a0_0 = true then (intrusionref06_Next.j0 k ((IntKind.u64.wrap (a0_2 + 1)) == 0) a0_0 a0_1 (IntKind.u64.wrap (a0_2 + 1))) else (intrusionref06_Next.j0 k false a0_0 a0_1 (IntKind.u64.wrap (a0_2 + 1)))
theorem intrusionref06_Next.mono_l : ∀ k, (∀ y0 y1 y2 y3, LeO (intrusionref06_Next.j0 k y0 y1 y2 y3) (intrusionref06_Next.j0 (k + 1) y0 y1 y2 y3))
  | 0 => fun _ _ _ _ r h => by simp [intrusionref06_Next.j0] at h
  | k + 1 => by
    have ih0 := intrusionref06_Next.mono_l k
    · intro y0 y1 y2 y3
      unfold intrusionref06_Next.j0
      repeat' first
      | (with_reducible exact ih0 _ _ _ _)
      | (with_reducible exact LeO.refl _)
      | (with_reducible exact LeO.none _)
      | (with_reducible refine LeO.ite ?_ ?_)
      | (with_reducible refine LeO.bind ?_ (fun _ => ?_))
      | exact ih0 _ _ _ _
      | exact LeO.none _
      | refine LeO.ite ?_ ?_
      | refine LeO.bind ?_ (fun _ => ?_)
theorem intrusionref06_Next.mono : ∀ a0 a1 a2 k, LeO (intrusionref06_Next.f k a0 a1 a2) (intrusionref06_Next.f (k + 1) a0 a1 a2) := by
  intro a0 a1 a2 k
  have ih0 := intrusionref06_Next.mono_l k
  unfold intrusionref06_Next.f
  repeat' first
      | (with_reducible exact ih0 _ _ _ _)
      | (with_reducible exact LeO.refl _)
      | (with_reducible exact LeO.none _)
      | (with_reducible refine LeO.ite ?_ ?_)
      | (with_reducible refine LeO.bind ?_ (fun _ => ?_))
      | exact ih0 _ _ _ _
      | exact LeO.none _
      | refine LeO.ite ?_ ?_
      | refine LeO.bind ?_ (fun _ => ?_)
end Go.Proofs.YtlgfinnldhjgeaaDoor.Q
end

section
namespace Go.Proofs.YtlgfinnldhjgeaaDoor.Q
open Go.RowKit Go.Proofs.YtlgfinnldhjgeaaDoorW.PrintWords Go.Proofs.YtlgfinnldhjgeaaDoorW.PrintLast Go.Proofs.YtlgfinnldhjgeaaDoorW.PrintMore
attribute [local go_sem] max2_int min2_int max_two min_two max_three min_three max_four min_four
set_option linter.unusedVariables false
set_option linter.unusedSimpArgs false
def intrusionref06_Previous.j0 : Nat → Bool → Bool → Int → Int → Option (Bool × Int × Int × Bool)
  | 0, _, _, _, _ => none
  | k + 1, x11, x296000, x296001, x296002 => if x11 = true then (some (false, 0, 0, false)) else (if x296002 = 0 then (some (x296000, IntKind.u64.wrap (x296001 - 1), IntKind.u64.wrap (x296002 - 1), true)) else (some (x296000, x296001, IntKind.u64.wrap (x296002 - 1), true)))
def intrusionref06_Previous.f (k : Nat) (a0_0 : Bool) (a0_1 : Int) (a0_2 : Int) : Option (Bool × Int × Int × Bool) := if a0_2 = 0 then (intrusionref06_Previous.j0 k (a0_1 == 0) a0_0 a0_1 a0_2) else (intrusionref06_Previous.j0 k false a0_0 a0_1 a0_2)
theorem intrusionref06_Previous.mono_l : ∀ k, (∀ y0 y1 y2 y3, LeO (intrusionref06_Previous.j0 k y0 y1 y2 y3) (intrusionref06_Previous.j0 (k + 1) y0 y1 y2 y3))
  | 0 => fun _ _ _ _ r h => by simp [intrusionref06_Previous.j0] at h
  | k + 1 => by
    have ih0 := intrusionref06_Previous.mono_l k
    · intro y0 y1 y2 y3
      unfold intrusionref06_Previous.j0
      repeat' first
      | (with_reducible exact ih0 _ _ _ _)
      | (with_reducible exact LeO.refl _)
      | (with_reducible exact LeO.none _)
      | (with_reducible refine LeO.ite ?_ ?_)
      | (with_reducible refine LeO.bind ?_ (fun _ => ?_))
      | exact ih0 _ _ _ _
      | exact LeO.none _
      | refine LeO.ite ?_ ?_
      | refine LeO.bind ?_ (fun _ => ?_)
theorem intrusionref06_Previous.mono : ∀ a0 a1 a2 k, LeO (intrusionref06_Previous.f k a0 a1 a2) (intrusionref06_Previous.f (k + 1) a0 a1 a2) := by
  intro a0 a1 a2 k
  have ih0 := intrusionref06_Previous.mono_l k
  unfold intrusionref06_Previous.f
  repeat' first
      | (with_reducible exact ih0 _ _ _ _)
      | (with_reducible exact LeO.refl _)
      | (with_reducible exact LeO.none _)
      | (with_reducible refine LeO.ite ?_ ?_)
      | (with_reducible refine LeO.bind ?_ (fun _ => ?_))
      | exact ih0 _ _ _ _
      | exact LeO.none _
      | refine LeO.ite ?_ ?_
      | refine LeO.bind ?_ (fun _ => ?_)
end Go.Proofs.YtlgfinnldhjgeaaDoor.Q
end

section
set_option linter.unusedVariables false
set_option linter.unusedSimpArgs false
namespace Go.Proofs.YtlgfinnldhjgeaaDoor.Q
open Go.RowKit Go.Proofs.YtlgfinnldhjgeaaDoorW.PrintWords Go.Proofs.YtlgfinnldhjgeaaDoorW.PrintLast Go.Proofs.YtlgfinnldhjgeaaDoorW.PrintMore
abbrev Ad := S25
def AW (a : Ad) : Prop := 0 ≤ a.f1 ∧ a.f1 < 18446744073709551616 ∧ 0 ≤ a.f2 ∧ a.f2 < 18446744073709551616
theorem u64_id {n : Int} (h0 : 0 ≤ n) (h1 : n < 18446744073709551616) : IntKind.u64.wrap n = n := IntWalk.u64_in n ⟨h0, by omega⟩
end Go.Proofs.YtlgfinnldhjgeaaDoor.Q
end

section
set_option linter.unusedVariables false
set_option linter.unusedSimpArgs false
namespace Go.Proofs.YtlgfinnldhjgeaaDoor.Q
open Go.RowKit Go.Proofs.YtlgfinnldhjgeaaDoorW.PrintWords Go.Proofs.YtlgfinnldhjgeaaDoorW.PrintLast Go.Proofs.YtlgfinnldhjgeaaDoorW.PrintMore
def address_Bounds.f (a0_0 : Bool) (a0_1 : Int) (a0_2 : Int) (a0_3 : Int) : Option (Bool × Int × Int × Bool × Int × Int) := (address_mask.f a0_0 a0_1 a0_2 a0_3).bind fun bt => some (a0_0, a0_1, a0_2, a0_0, Go.bits .or .u64 a0_1 bt.1, Go.bits .or .u64 a0_2 bt.2)
end Go.Proofs.YtlgfinnldhjgeaaDoor.Q
end

section
namespace Go.Proofs.YtlgfinnldhjgeaaDoor.Q
open Go.RowKit Go.Proofs.YtlgfinnldhjgeaaDoorW.PrintWords Go.Proofs.YtlgfinnldhjgeaaDoorW.PrintLast Go.Proofs.YtlgfinnldhjgeaaDoorW.PrintMore
attribute [local go_sem] max2_int min2_int max_two min_two max_three min_three max_four min_four
set_option linter.unusedVariables false
set_option linter.unusedSimpArgs false
def address_MakePrefix.f (a0_0 : Bool) (a0_1 : Int) (a0_2 : Int) (a1 : Int) : Option (Bool × Int × Int × Int × Int) := if a1 < 0 then (some (false, 0, 0, 0, 4)) else ((address_size.f a0_0 a0_1 a0_2).bind fun t372 => (if a1 > t372 then (some (false, 0, 0, 0, 4)) else ((address_mask.f a0_0 a0_1 a0_2 a1).bind fun bt373 => (some (a0_0, Go.bits .andNot .u64 a0_1 bt373.1, Go.bits .andNot .u64 a0_2 bt373.2, a1, 0)))))
end Go.Proofs.YtlgfinnldhjgeaaDoor.Q
end

section
namespace Go.Proofs.YtlgfinnldhjgeaaDoor.Q
open Go.RowKit Go.Proofs.YtlgfinnldhjgeaaDoorW.PrintWords Go.Proofs.YtlgfinnldhjgeaaDoorW.PrintLast Go.Proofs.YtlgfinnldhjgeaaDoorW.PrintMore
attribute [local go_sem] max2_int min2_int max_two min_two max_three min_three max_four min_four
set_option linter.unusedVariables false
set_option linter.unusedSimpArgs false
def intrusionref06_Width.f (a0_0 : Bool) (a0_1 : Int) (a0_2 : Int) : Option (Int) := if a0_0 = true then (some 128) else (some 32)
end Go.Proofs.YtlgfinnldhjgeaaDoor.Q
end

section
namespace Go.Proofs.YtlgfinnldhjgeaaDoor.Q
open Go.RowKit Go.Proofs.YtlgfinnldhjgeaaDoorW.PrintWords Go.Proofs.YtlgfinnldhjgeaaDoorW.PrintLast Go.Proofs.YtlgfinnldhjgeaaDoorW.PrintMore
attribute [local go_sem] max2_int min2_int max_two min_two max_three min_three max_four min_four
set_option linter.unusedVariables false
set_option linter.unusedSimpArgs false
def intrusionref06_Bit.f (a0_0 : Bool) (a0_1 : Int) (a0_2 : Int) (a1 : Int) : Option (Bool) := if a0_0 = true then (if a1 < 64 then (if 0 ≤ (IntKind.u64.wrap (wrap64 (63 - a1))) then (some ((Go.bits .and .u64 (shr .u64 a0_1 (IntKind.u64.wrap (wrap64 (63 - a1)))) 1) == 1)) else (none)) else (if 0 ≤ (IntKind.u64.wrap (wrap64 (127 - a1))) then (some ((Go.bits .and .u64 (shr .u64 a0_2 (IntKind.u64.wrap (wrap64 (127 - a1)))) 1) == 1)) else (none))) else (if 0 ≤ (IntKind.u64.wrap (wrap64 (31 - a1))) then (some ((Go.bits .and .u64 (shr .u64 a0_2 (IntKind.u64.wrap (wrap64 (31 - a1)))) 1) == 1)) else (none))
end Go.Proofs.YtlgfinnldhjgeaaDoor.Q
end

section
namespace Go.Proofs.YtlgfinnldhjgeaaDoor.Q
open Go.RowKit Go.Proofs.YtlgfinnldhjgeaaDoorW.PrintWords Go.Proofs.YtlgfinnldhjgeaaDoorW.PrintLast Go.Proofs.YtlgfinnldhjgeaaDoorW.PrintMore
attribute [local go_sem] max2_int min2_int max_two min_two max_three min_three max_four min_four
set_option linter.unusedVariables false
set_option linter.unusedSimpArgs false
def intrusionref06_with.l0 : Nat → Bool → Int → Bool → Int → Int → Option (Bool × Int × Int)
  | 0, _, _, _, _, _ => none
  | k + 1, x2, x7, x244000, x244001, x244002 => (intrusionref06_Width.f x244000 x244001 x244002).bind fun t245 => (if x7 < t245 then ((intrusionref06_Bit.f x244000 x244001 x244002 x7).bind fun t246 => (if (t246 == x2) = true then (intrusionref06_with.l0 k x2 (wrap64 (x7 + 1)) x244000 x244001 x244002) else (if x244000 = true then (if x7 < 64 then (if 0 ≤ (IntKind.u64.wrap (wrap64 (63 - x7))) then (intrusionref06_with.l0 k x2 (wrap64 (x7 + 1)) x244000 (Go.bits .xor .u64 x244001 (shl .u64 1 (IntKind.u64.wrap (wrap64 (63 - x7))))) x244002) else (none)) else (if 0 ≤ (IntKind.u64.wrap (wrap64 (127 - x7))) then (intrusionref06_with.l0 k x2 (wrap64 (x7 + 1)) x244000 x244001 (Go.bits .xor .u64 x244002 (shl .u64 1 (IntKind.u64.wrap (wrap64 (127 - x7)))))) else (none))) else (if 0 ≤ (IntKind.u64.wrap (wrap64 (31 - x7))) then (intrusionref06_with.l0 k x2 (wrap64 (x7 + 1)) x244000 x244001 (Go.bits .xor .u64 x244002 (shl .u64 1 (IntKind.u64.wrap (wrap64 (31 - x7)))))) else (none))))) else (some (x244000, x244001, x244002)))
def intrusionref06_with.f (k : Nat) (a0_0 : Bool) (a0_1 : Int) (a0_2 : Int) (a1 : Int) (a2 : Bool) : Option (Bool × Int × Int) := intrusionref06_with.l0 k a2 a1 a0_0 a0_1 a0_2
theorem intrusionref06_with.mono_l : ∀ k, (∀ y0 y1 y2 y3 y4, LeO (intrusionref06_with.l0 k y0 y1 y2 y3 y4) (intrusionref06_with.l0 (k + 1) y0 y1 y2 y3 y4))
  | 0 => fun _ _ _ _ _ r h => by simp [intrusionref06_with.l0] at h
  | k + 1 => by
    have ih0 := intrusionref06_with.mono_l k
    · intro y0 y1 y2 y3 y4
      unfold intrusionref06_with.l0
      repeat' first
      | (with_reducible exact ih0 _ _ _ _ _)
      | (with_reducible exact LeO.refl _)
      | (with_reducible exact LeO.none _)
      | (with_reducible refine LeO.ite ?_ ?_)
      | (with_reducible refine LeO.bind ?_ (fun _ => ?_))
      | exact ih0 _ _ _ _ _
      | exact LeO.none _
      | refine LeO.ite ?_ ?_
      | refine LeO.bind ?_ (fun _ => ?_)
theorem intrusionref06_with.mono : ∀ a0 a1 a2 a3 a4 k, LeO (intrusionref06_with.f k a0 a1 a2 a3 a4) (intrusionref06_with.f (k + 1) a0 a1 a2 a3 a4) := by
  intro a0 a1 a2 a3 a4 k
  have ih0 := intrusionref06_with.mono_l k
  unfold intrusionref06_with.f
  repeat' first
      | (with_reducible exact ih0 _ _ _ _ _)
      | (with_reducible exact LeO.refl _)
      | (with_reducible exact LeO.none _)
      | (with_reducible refine LeO.ite ?_ ?_)
      | (with_reducible refine LeO.bind ?_ (fun _ => ?_))
      | exact ih0 _ _ _ _ _
      | exact LeO.none _
      | refine LeO.ite ?_ ?_
      | refine LeO.bind ?_ (fun _ => ?_)
end Go.Proofs.YtlgfinnldhjgeaaDoor.Q
end

section
namespace Go.Proofs.YtlgfinnldhjgeaaDoor.Q
open Go.RowKit Go.Proofs.YtlgfinnldhjgeaaDoorW.PrintWords Go.Proofs.YtlgfinnldhjgeaaDoorW.PrintLast Go.Proofs.YtlgfinnldhjgeaaDoorW.PrintMore
attribute [local go_sem] max2_int min2_int max_two min_two max_three min_three max_four min_four
set_option linter.unusedVariables false
set_option linter.unusedSimpArgs false
def intrusionref06_MakePrefix.f (k : Nat) (a0_0 : Bool) (a0_1 : Int) (a0_2 : Int) (a1 : Int) : Option (Bool × Int × Int × Int × Int) := if a1 < 0 then (some (false, 0, 0, 0, 4)) else ((intrusionref06_Width.f a0_0 a0_1 a0_2).bind fun t299 => (if a1 > t299 then (some (false, 0, 0, 0, 4)) else ((intrusionref06_with.f k a0_0 a0_1 a0_2 a1 false).bind fun bt300 => (some (bt300.1, bt300.2.1, bt300.2.2, a1, 0)))))
theorem intrusionref06_MakePrefix.mono : ∀ a0 a1 a2 a3 k, LeO (intrusionref06_MakePrefix.f k a0 a1 a2 a3) (intrusionref06_MakePrefix.f (k + 1) a0 a1 a2 a3) := by
  intro a0 a1 a2 a3 k
  unfold intrusionref06_MakePrefix.f
  repeat' first
      | (with_reducible exact intrusionref06_with.mono _ _ _ _ _ _)
      | (with_reducible exact LeO.refl _)
      | (with_reducible exact LeO.none _)
      | (with_reducible refine LeO.ite ?_ ?_)
      | (with_reducible refine LeO.bind ?_ (fun _ => ?_))
      | exact intrusionref06_with.mono _ _ _ _ _ _
      | exact LeO.none _
      | refine LeO.ite ?_ ?_
      | refine LeO.bind ?_ (fun _ => ?_)
end Go.Proofs.YtlgfinnldhjgeaaDoor.Q
end

section
namespace Go.Proofs.YtlgfinnldhjgeaaDoor.Q
open Go.RowKit Go.Proofs.YtlgfinnldhjgeaaDoorW.PrintWords Go.Proofs.YtlgfinnldhjgeaaDoorW.PrintLast Go.Proofs.YtlgfinnldhjgeaaDoorW.PrintMore
attribute [local go_sem] max2_int min2_int max_two min_two max_three min_three max_four min_four
set_option linter.unusedVariables false
set_option linter.unusedSimpArgs false
attribute [local go_sem high] eqA25
def intrusionref06_Contains.f (k : Nat) (a0_0 : Bool) (a0_1 : Int) (a0_2 : Int) (a0_3 : Int) (a1_0 : Bool) (a1_1 : Int) (a1_2 : Int) : Option (Bool) := if (a0_0 == a1_0) = true then ((intrusionref06_with.f k a1_0 a1_1 a1_2 a0_3 false).bind fun bt305 => (some (bt305.1 == a0_0 && (bt305.2.1 == a0_1 && (bt305.2.2 == a0_2))))) else (some false)
theorem intrusionref06_Contains.mono : ∀ a0 a1 a2 a3 a4 a5 a6 k, LeO (intrusionref06_Contains.f k a0 a1 a2 a3 a4 a5 a6) (intrusionref06_Contains.f (k + 1) a0 a1 a2 a3 a4 a5 a6) := by
  intro a0 a1 a2 a3 a4 a5 a6 k
  unfold intrusionref06_Contains.f
  repeat' first
      | (with_reducible exact intrusionref06_with.mono _ _ _ _ _ _)
      | (with_reducible exact LeO.refl _)
      | (with_reducible exact LeO.none _)
      | (with_reducible refine LeO.ite ?_ ?_)
      | (with_reducible refine LeO.bind ?_ (fun _ => ?_))
      | exact intrusionref06_with.mono _ _ _ _ _ _
      | exact LeO.none _
      | refine LeO.ite ?_ ?_
      | refine LeO.bind ?_ (fun _ => ?_)
end Go.Proofs.YtlgfinnldhjgeaaDoor.Q
end

section
namespace Go.Proofs.YtlgfinnldhjgeaaDoor.Q
open Go.RowKit Go.Proofs.YtlgfinnldhjgeaaDoorW.PrintWords Go.Proofs.YtlgfinnldhjgeaaDoorW.PrintLast Go.Proofs.YtlgfinnldhjgeaaDoorW.PrintMore
attribute [local go_sem] max2_int min2_int max_two min_two max_three min_three max_four min_four
set_option linter.unusedVariables false
set_option linter.unusedSimpArgs false
attribute [local go_sem high] eqA25
def intrusionref06_ValidPrefix.f (k : Nat) (a0_0 : Bool) (a0_1 : Int) (a0_2 : Int) (a0_3 : Int) : Option (Bool) := (intrusionref06_Valid.f a0_0 a0_1 a0_2).bind fun t248 => (if t248 = true then (if a0_3 ≥ 0 then ((intrusionref06_Width.f a0_0 a0_1 a0_2).bind fun t249 => (if a0_3 ≤ t249 then ((intrusionref06_with.f k a0_0 a0_1 a0_2 a0_3 false).bind fun bt250 => (some (bt250.1 == a0_0 && (bt250.2.1 == a0_1 && (bt250.2.2 == a0_2))))) else (some false))) else (some false)) else (some false))
theorem intrusionref06_ValidPrefix.mono : ∀ a0 a1 a2 a3 k, LeO (intrusionref06_ValidPrefix.f k a0 a1 a2 a3) (intrusionref06_ValidPrefix.f (k + 1) a0 a1 a2 a3) := by
  intro a0 a1 a2 a3 k
  unfold intrusionref06_ValidPrefix.f
  repeat' first
      | (with_reducible exact intrusionref06_with.mono _ _ _ _ _ _)
      | (with_reducible exact LeO.refl _)
      | (with_reducible exact LeO.none _)
      | (with_reducible refine LeO.ite ?_ ?_)
      | (with_reducible refine LeO.bind ?_ (fun _ => ?_))
      | exact intrusionref06_with.mono _ _ _ _ _ _
      | exact LeO.none _
      | refine LeO.ite ?_ ?_
      | refine LeO.bind ?_ (fun _ => ?_)
end Go.Proofs.YtlgfinnldhjgeaaDoor.Q
end

section
namespace Go.Proofs.YtlgfinnldhjgeaaDoor.Q
open Go.RowKit Go.Proofs.YtlgfinnldhjgeaaDoorW.PrintWords Go.Proofs.YtlgfinnldhjgeaaDoorW.PrintLast Go.Proofs.YtlgfinnldhjgeaaDoorW.PrintMore
attribute [local go_sem] max2_int min2_int max_two min_two max_three min_three max_four min_four
set_option linter.unusedVariables false
set_option linter.unusedSimpArgs false
def intrusionref06_Bounds.f (k : Nat) (a0_0 : Bool) (a0_1 : Int) (a0_2 : Int) (a0_3 : Int) : Option (Bool × Int × Int × Bool × Int × Int) := (intrusionref06_with.f k a0_0 a0_1 a0_2 a0_3 true).bind fun bt474 => (some (a0_0, a0_1, a0_2, bt474.1, bt474.2.1, bt474.2.2))
theorem intrusionref06_Bounds.mono : ∀ a0 a1 a2 a3 k, LeO (intrusionref06_Bounds.f k a0 a1 a2 a3) (intrusionref06_Bounds.f (k + 1) a0 a1 a2 a3) := by
  intro a0 a1 a2 a3 k
  unfold intrusionref06_Bounds.f
  repeat' first
      | (with_reducible exact intrusionref06_with.mono _ _ _ _ _ _)
      | (with_reducible exact LeO.refl _)
      | (with_reducible exact LeO.none _)
      | (with_reducible refine LeO.ite ?_ ?_)
      | (with_reducible refine LeO.bind ?_ (fun _ => ?_))
      | exact intrusionref06_with.mono _ _ _ _ _ _
      | exact LeO.none _
      | refine LeO.ite ?_ ?_
      | refine LeO.bind ?_ (fun _ => ?_)
end Go.Proofs.YtlgfinnldhjgeaaDoor.Q
end

section
set_option linter.unusedVariables false
set_option linter.unusedSimpArgs false
namespace Go.Proofs.YtlgfinnldhjgeaaDoor.Q
open Go.RowKit Go.Proofs.YtlgfinnldhjgeaaDoorW.PrintWords Go.Proofs.YtlgfinnldhjgeaaDoorW.PrintLast Go.Proofs.YtlgfinnldhjgeaaDoorW.PrintMore
theorem wid {x : Int} (h0 : -9223372036854775808 ≤ x) (h1 : x ≤ 9223372036854775807) : wrap64 x = x := by unfold wrap64; omega
theorem ofInt_toNat (x : Nat) (h : x < 18446744073709551616) : (BitVec.ofInt 64 (x : Int)).toNat = x := by
  rw [BitVec.toNat_ofInt]
  simp
  omega
end Go.Proofs.YtlgfinnldhjgeaaDoor.Q
end

section
namespace Go.Proofs.YtlgfinnldhjgeaaDoor.Q
open Go.RowKit Go.Proofs.YtlgfinnldhjgeaaDoorW.PrintWords Go.Proofs.YtlgfinnldhjgeaaDoorW.PrintLast Go.Proofs.YtlgfinnldhjgeaaDoorW.PrintMore
attribute [local go_sem] max2_int min2_int max_two min_two max_three min_three max_four min_four
set_option linter.unusedVariables false
set_option linter.unusedSimpArgs false
mutual
def intrusionref06_Bytes.l0 : Nat → List Int → Int → Bool → Int → Int → Option (ByteArray)
  | 0, _, _, _, _, _ => none
  | k + 1, x3, x4, x457000, x457001, x457002 => if x4 ≥ 0 then (if 0 ≤ (IntKind.u64.wrap (wrap64 (8 * x4))) then (if x3.length < 140737488355328 then (intrusionref06_Bytes.l0 k (x3 ++ [(shr .u64 x457001 (IntKind.u64.wrap (wrap64 (8 * x4)))) % 256]) (wrap64 (x4 - 1)) x457000 x457001 x457002) else (none)) else (none)) else (intrusionref06_Bytes.l1 k x3 7 x457000 x457001 x457002)
def intrusionref06_Bytes.l1 : Nat → List Int → Int → Bool → Int → Int → Option (ByteArray)
  | 0, _, _, _, _, _ => none
  | k + 1, x3, x5, x457000, x457001, x457002 => if x5 ≥ 0 then (if 0 ≤ (IntKind.u64.wrap (wrap64 (8 * x5))) then (if x3.length < 140737488355328 then (intrusionref06_Bytes.l1 k (x3 ++ [(shr .u64 x457002 (IntKind.u64.wrap (wrap64 (8 * x5)))) % 256]) (wrap64 (x5 - 1)) x457000 x457001 x457002) else (none)) else (none)) else (some (strOfNums x3))
def intrusionref06_Bytes.l2 : Nat → List Int → Int → Bool → Int → Int → Option (ByteArray)
  | 0, _, _, _, _, _ => none
  | k + 1, x3, x6, x457000, x457001, x457002 => if x6 ≥ 0 then (if 0 ≤ (IntKind.u64.wrap (wrap64 (8 * x6))) then (if x3.length < 140737488355328 then (intrusionref06_Bytes.l2 k (x3 ++ [(shr .u64 x457002 (IntKind.u64.wrap (wrap64 (8 * x6)))) % 256]) (wrap64 (x6 - 1)) x457000 x457001 x457002) else (none)) else (none)) else (some (strOfNums x3))
end
def intrusionref06_Bytes.f (k : Nat) (a0_0 : Bool) (a0_1 : Int) (a0_2 : Int) : Option (ByteArray) := if a0_0 = true then (intrusionref06_Bytes.l0 k ([] : List Int) 7 a0_0 a0_1 a0_2) else (intrusionref06_Bytes.l2 k ([] : List Int) 3 a0_0 a0_1 a0_2)
theorem intrusionref06_Bytes.mono_l : ∀ k, (∀ y0 y1 y2 y3 y4, LeO (intrusionref06_Bytes.l0 k y0 y1 y2 y3 y4) (intrusionref06_Bytes.l0 (k + 1) y0 y1 y2 y3 y4)) ∧ (∀ y0 y1 y2 y3 y4, LeO (intrusionref06_Bytes.l1 k y0 y1 y2 y3 y4) (intrusionref06_Bytes.l1 (k + 1) y0 y1 y2 y3 y4)) ∧ (∀ y0 y1 y2 y3 y4, LeO (intrusionref06_Bytes.l2 k y0 y1 y2 y3 y4) (intrusionref06_Bytes.l2 (k + 1) y0 y1 y2 y3 y4))
  | 0 => ⟨fun _ _ _ _ _ r h => by simp [intrusionref06_Bytes.l0] at h, fun _ _ _ _ _ r h => by simp [intrusionref06_Bytes.l1] at h, fun _ _ _ _ _ r h => by simp [intrusionref06_Bytes.l2] at h⟩
  | k + 1 => by
    obtain ⟨ih0, ih1, ih2⟩ := intrusionref06_Bytes.mono_l k
    refine ⟨?_, ?_, ?_⟩
    · intro y0 y1 y2 y3 y4
      unfold intrusionref06_Bytes.l0
      repeat' first
      | (with_reducible exact ih0 _ _ _ _ _)
      | (with_reducible exact ih1 _ _ _ _ _)
      | (with_reducible exact ih2 _ _ _ _ _)
      | (with_reducible exact LeO.refl _)
      | (with_reducible exact LeO.none _)
      | (with_reducible refine LeO.ite ?_ ?_)
      | (with_reducible refine LeO.bind ?_ (fun _ => ?_))
      | exact ih0 _ _ _ _ _
      | exact ih1 _ _ _ _ _
      | exact ih2 _ _ _ _ _
      | exact LeO.none _
      | refine LeO.ite ?_ ?_
      | refine LeO.bind ?_ (fun _ => ?_)
    · intro y0 y1 y2 y3 y4
      unfold intrusionref06_Bytes.l1
      repeat' first
      | (with_reducible exact ih0 _ _ _ _ _)
      | (with_reducible exact ih1 _ _ _ _ _)
      | (with_reducible exact ih2 _ _ _ _ _)
      | (with_reducible exact LeO.refl _)
      | (with_reducible exact LeO.none _)
      | (with_reducible refine LeO.ite ?_ ?_)
      | (with_reducible refine LeO.bind ?_ (fun _ => ?_))
      | exact ih0 _ _ _ _ _
      | exact ih1 _ _ _ _ _
      | exact ih2 _ _ _ _ _
      | exact LeO.none _
      | refine LeO.ite ?_ ?_
      | refine LeO.bind ?_ (fun _ => ?_)
    · intro y0 y1 y2 y3 y4
      unfold intrusionref06_Bytes.l2
      repeat' first
      | (with_reducible exact ih0 _ _ _ _ _)
      | (with_reducible exact ih1 _ _ _ _ _)
      | (with_reducible exact ih2 _ _ _ _ _)
      | (with_reducible exact LeO.refl _)
      | (with_reducible exact LeO.none _)
      | (with_reducible refine LeO.ite ?_ ?_)
      | (with_reducible refine LeO.bind ?_ (fun _ => ?_))
      | exact ih0 _ _ _ _ _
      | exact ih1 _ _ _ _ _
      | exact ih2 _ _ _ _ _
      | exact LeO.none _
      | refine LeO.ite ?_ ?_
      | refine LeO.bind ?_ (fun _ => ?_)
theorem intrusionref06_Bytes.mono : ∀ a0 a1 a2 k, LeO (intrusionref06_Bytes.f k a0 a1 a2) (intrusionref06_Bytes.f (k + 1) a0 a1 a2) := by
  intro a0 a1 a2 k
  obtain ⟨ih0, ih1, ih2⟩ := intrusionref06_Bytes.mono_l k
  unfold intrusionref06_Bytes.f
  repeat' first
      | (with_reducible exact ih0 _ _ _ _ _)
      | (with_reducible exact ih1 _ _ _ _ _)
      | (with_reducible exact ih2 _ _ _ _ _)
      | (with_reducible exact LeO.refl _)
      | (with_reducible exact LeO.none _)
      | (with_reducible refine LeO.ite ?_ ?_)
      | (with_reducible refine LeO.bind ?_ (fun _ => ?_))
      | exact ih0 _ _ _ _ _
      | exact ih1 _ _ _ _ _
      | exact ih2 _ _ _ _ _
      | exact LeO.none _
      | refine LeO.ite ?_ ?_
      | refine LeO.bind ?_ (fun _ => ?_)
end Go.Proofs.YtlgfinnldhjgeaaDoor.Q
end

section
set_option linter.unusedVariables false
set_option linter.unusedSimpArgs false
namespace Go.Proofs.YtlgfinnldhjgeaaDoor.Q
open Go.RowKit Go.Proofs.YtlgfinnldhjgeaaDoorW.PrintWords Go.Proofs.YtlgfinnldhjgeaaDoorW.PrintLast Go.Proofs.YtlgfinnldhjgeaaDoorW.PrintMore
theorem or_under (x b j : Nat) (hb : b < 2 ^ j) (hx : x * 2 ^ j + b < 18446744073709551616) : Go.bits .or .u64 (IntKind.u64.wrap ((x : Int) * ((2 ^ j : Nat) : Int))) (b : Int) = ((x * 2 ^ j + b : Nat) : Int) := by
  have h1 : IntKind.u64.wrap ((x : Int) * ((2 ^ j : Nat) : Int)) = ((x * 2 ^ j : Nat) : Int) := by
    rw [← Int.natCast_mul]
    exact u64_id (Int.natCast_nonneg _) (Int.ofNat_lt.2 (Nat.lt_of_le_of_lt (Nat.le_add_right _ _) hx))
  rw [h1]
  unfold Go.bits
  show IntKind.u64.wrap ((((BitVec.ofInt 64 ((x * 2 ^ j : Nat) : Int)) ||| (BitVec.ofInt 64 (b : Int))).toNat : Nat) : Int) = _
  rw [BitVec.toNat_or, ofInt_toNat _ (Nat.lt_of_le_of_lt (Nat.le_add_right _ _) hx), ofInt_toNat _ (Nat.lt_of_le_of_lt (Nat.le_add_left _ _) hx)]
  have := Nat.two_pow_add_eq_or_of_lt hb x
  rw [Nat.mul_comm] at this
  rw [← this]
  exact u64_id (Int.natCast_nonneg _) (Int.ofNat_lt.2 hx)
theorem or_256 (x b : Nat) (hb : b < 256) (hx : x * 256 + b < 18446744073709551616) : Go.bits .or .u64 (IntKind.u64.wrap ((x : Int) * 256)) (b : Int) = ((x * 256 + b : Nat) : Int) := or_under x b 8 hb hx
theorem bt_list (s : ByteArray) (i : Nat) (h : i < s.data.toList.length) : bt s (i : Int) = ((s.data.toList[i]'h).toNat : Int) := by
  have hs : i < s.size := by rw [Array.length_toList] at h; exact h
  unfold bt
  have e : ((i : Int)).toNat = i := Int.toNat_natCast i
  rw [dif_pos (by rw [e]; exact hs)]
  have : ∀ (j : Nat) (hj : j < s.size), j = i → s[j].toNat = (s.data.toList[i]'h).toNat := fun j hj e => by
    subst e
    rfl
  rw [this _ _ e]
theorem size_list (s : ByteArray) : s.size = s.data.toList.length := (Array.length_toList).symm
def bvN (l : List UInt8) : Nat := l.foldl (fun n c => n * 256 + c.toNat) 0
theorem bvN_snoc (l : List UInt8) (c : UInt8) : bvN (l ++ [c]) = bvN l * 256 + c.toNat := by unfold bvN; rw [List.foldl_append]; rfl
theorem bvN_take (l : List UInt8) (i : Nat) (h : i < l.length) : bvN (l.take (i + 1)) = bvN (l.take i) * 256 + (l[i]'h).toNat := by
  rw [List.take_succ_eq_append_getElem h, bvN_snoc]
theorem bvN_lt : ∀ (n : Nat) (l : List UInt8), l.length = n → bvN l < 256 ^ n
  | 0, l, h => by
    rw [List.eq_nil_of_length_eq_zero h]
    exact Nat.one_pos
  | n + 1, l, h => by
    have hl : n < l.length := by omega
    have e : l = l.take n ++ [l[n]] := by
      have := List.take_succ_eq_append_getElem hl
      rw [← this, List.take_of_length_le (by omega)]
    have ih := bvN_lt n (l.take n) (by rw [List.length_take]; omega)
    have hc := (l[n]).toNat_lt
    rw [e, bvN_snoc, Nat.pow_succ]
    generalize bvN (l.take n) = x at *
    generalize 256 ^ n = p at *
    omega
theorem pow256_le {n : Nat} (h : n ≤ 8) : 256 ^ n ≤ 18446744073709551616 := Nat.le_trans (Nat.pow_le_pow_right (by decide) h) (by decide)
theorem bvN_u64 {l : List UInt8} (h : l.length ≤ 8) : bvN l < 18446744073709551616 := Nat.lt_of_lt_of_le (bvN_lt _ l rfl) (pow256_le h)
theorem up_i {i : Nat} (h : i < 1000) : wrap64 ((i : Int) + 1) = ((i + 1 : Nat) : Int) := by rw [wid (by omega) (by omega)]; omega
theorem byte_u64 (c : UInt8) : IntKind.u64.wrap (c.toNat : Int) = (c.toNat : Int) := by
  have := c.toNat_lt
  exact u64_id (by omega) (by omega)
theorem value_ev0 (s : ByteArray) (h : s.data.toList.length ≤ 8) : ∀ (d i : Nat), s.data.toList.length - i = d → i ≤ s.data.toList.length → Ev (fun k => address_value.l0 k s ((bvN (s.data.toList.take i) : Nat) : Int) (s.data.toList.length : Int) (i : Int)) ((bvN s.data.toList : Nat) : Int)
  | 0, i, hd, hi => by
    refine Ev.step (f := fun _ => some ((bvN s.data.toList : Nat) : Int)) (fun k => ?_) (Ev.now _)
    rw [address_value.l0, if_neg (by omega), List.take_of_length_le (by omega)]
  | d + 1, i, hd, hi => by
    have hl : i < s.data.toList.length := by omega
    have ih := value_ev0 s h d (i + 1) (by omega) (by omega)
    refine Ev.step (fun k => ?_) ih
    have hb := (s.data.toList[i]).toNat_lt
    have hx := bvN_u64 (l := s.data.toList.take (i + 1)) (by rw [List.length_take]; omega)
    rw [bvN_take _ i hl] at hx
    rw [address_value.l0, if_pos (by omega), if_pos (by omega), if_pos (by rw [size_list]; omega), bt_list s i hl, byte_u64, or_256 _ _ hb hx, up_i (by omega), ← bvN_take _ i hl]
theorem value_ev (s : ByteArray) (h : s.data.toList.length ≤ 8) : Ev (fun k => address_value.f k s) ((bvN s.data.toList : Nat) : Int) := by
  have := value_ev0 s h _ 0 rfl (by omega)
  unfold address_value.f
  rw [size_list]
  exact this
def fromB (l : List UInt8) : Bool × Int × Int × Int := if l.length = 4 then (false, 0, ((bvN l : Nat) : Int), 0) else if l.length = 16 then (true, ((bvN (l.take 8) : Nat) : Int), ((bvN (l.drop 8) : Nat) : Int), 0) else (false, 0, 0, 2)
theorem extract_list (s : ByteArray) (a b : Nat) : (s.extract a b).data.toList = (s.data.toList.drop a).take (b - a) := by
  simp [ByteArray.data_extract, Array.toList_extract]
theorem aFrom_ev (s : ByteArray) : Ev (fun k => address_FromBytes.f k s) (fromB s.data.toList) := by
  unfold address_FromBytes.f fromB
  rw [size_list]
  by_cases h4 : s.data.toList.length = 4
  · simp only [h4]
    exact Ev.bind (value_ev s (by omega)) (Ev.now _)
  · rw [if_neg h4]
    by_cases h16 : s.data.toList.length = 16
    · have e1 := value_ev (s.extract 0 8) (by rw [extract_list, List.length_take, List.length_drop]; omega)
      have e2 := value_ev (s.extract 8 16) (by rw [extract_list, List.length_take, List.length_drop]; omega)
      rw [extract_list] at e1 e2
      rw [show (s.data.toList.drop 0).take (8 - 0) = s.data.toList.take 8 from rfl] at e1
      rw [show (s.data.toList.drop 8).take (16 - 8) = s.data.toList.drop 8 from List.take_of_length_le (by rw [List.length_drop]; omega)] at e2
      simp only [h16]
      exact Ev.bind e1 (Ev.bind e2 (Ev.now _))
    · have g4 : ¬ ((s.data.toList.length : Int) = 4) := by omega
      have g16 : ¬ ((s.data.toList.length : Int) = 16) := by omega
      simp only [g4, g16, h16, if_false]
      exact Ev.now _
theorem rFrom0 (s : ByteArray) (h : s.data.toList.length = 4) : ∀ (d i : Nat), s.data.toList.length - i = d → i ≤ s.data.toList.length → Ev (fun k => intrusionref06_FromBytes.l0 k s (i : Int) false 0 ((bvN (s.data.toList.take i) : Nat) : Int)) (false, 0, ((bvN s.data.toList : Nat) : Int), 0)
  | 0, i, hd, hi => by
    refine Ev.step (f := fun _ => some (false, 0, ((bvN s.data.toList : Nat) : Int), 0)) (fun k => ?_) (Ev.now _)
    rw [intrusionref06_FromBytes.l0, size_list, if_neg (by omega), List.take_of_length_le (by omega)]
  | d + 1, i, hd, hi => by
    have hl : i < s.data.toList.length := by omega
    have ih := rFrom0 s h d (i + 1) (by omega) (by omega)
    refine Ev.step (fun k => ?_) ih
    have hb := (s.data.toList[i]).toNat_lt
    have hx := bvN_u64 (l := s.data.toList.take (i + 1)) (by rw [List.length_take]; omega)
    rw [bvN_take _ i hl] at hx
    rw [intrusionref06_FromBytes.l0, size_list, if_pos (by omega), if_neg Bool.false_ne_true, if_pos (by omega), bt_list s i hl, byte_u64, or_256 _ _ hb hx, up_i (by omega), ← bvN_take _ i hl]
theorem rFrom2 (s : ByteArray) (h : s.data.toList.length = 16) : ∀ (d i : Nat), s.data.toList.length - i = d → 8 ≤ i → i ≤ s.data.toList.length → Ev (fun k => intrusionref06_FromBytes.l0 k s (i : Int) true ((bvN (s.data.toList.take 8) : Nat) : Int) ((bvN ((s.data.toList.drop 8).take (i - 8)) : Nat) : Int)) (true, ((bvN (s.data.toList.take 8) : Nat) : Int), ((bvN (s.data.toList.drop 8) : Nat) : Int), 0)
  | 0, i, hd, h8, hi => by
    refine Ev.step (f := fun _ => some (true, ((bvN (s.data.toList.take 8) : Nat) : Int), ((bvN (s.data.toList.drop 8) : Nat) : Int), 0)) (fun k => ?_) (Ev.now _)
    rw [intrusionref06_FromBytes.l0, size_list, if_neg (by omega), show (s.data.toList.drop 8).take (i - 8) = s.data.toList.drop 8 from List.take_of_length_le (by rw [List.length_drop]; omega)]
  | d + 1, i, hd, h8, hi => by
    have hl : i < s.data.toList.length := by omega
    have ih := rFrom2 s h d (i + 1) (by omega) (by omega) (by omega)
    refine Ev.step (fun k => ?_) ih
    have hb := (s.data.toList[i]).toNat_lt
    have hl2 : i - 8 < (s.data.toList.drop 8).length := by rw [List.length_drop]; omega
    have hx := bvN_u64 (l := (s.data.toList.drop 8).take (i - 8 + 1)) (by rw [List.length_take, List.length_drop]; omega)
    have hg : (s.data.toList.drop 8)[i - 8] = s.data.toList[i] := by
      rw [List.getElem_drop]
      congr 1
      omega
    rw [bvN_take _ _ hl2, hg] at hx
    rw [intrusionref06_FromBytes.l0, size_list, if_pos (by omega), if_pos rfl, if_neg (by omega), if_pos (by omega), bt_list s i hl, byte_u64, or_256 _ _ hb hx, up_i (by omega), show i + 1 - 8 = i - 8 + 1 from by omega, bvN_take _ _ hl2, hg]
theorem rFrom1 (s : ByteArray) (h : s.data.toList.length = 16) : ∀ (d i : Nat), 8 - i = d → i ≤ 8 → Ev (fun k => intrusionref06_FromBytes.l0 k s (i : Int) true ((bvN (s.data.toList.take i) : Nat) : Int) 0) (true, ((bvN (s.data.toList.take 8) : Nat) : Int), ((bvN (s.data.toList.drop 8) : Nat) : Int), 0)
  | 0, i, hd, hi => by
    obtain rfl : i = 8 := by omega
    exact rFrom2 s h _ 8 rfl (by omega) (by omega)
  | d + 1, i, hd, hi => by
    have hl : i < s.data.toList.length := by omega
    have ih := rFrom1 s h d (i + 1) (by omega) (by omega)
    refine Ev.step (fun k => ?_) ih
    have hb := (s.data.toList[i]).toNat_lt
    have hx := bvN_u64 (l := s.data.toList.take (i + 1)) (by rw [List.length_take]; omega)
    rw [bvN_take _ i hl] at hx
    rw [intrusionref06_FromBytes.l0, size_list, if_pos (by omega), if_pos rfl, if_pos (by omega), if_pos (by omega), bt_list s i hl, byte_u64, or_256 _ _ hb hx, up_i (by omega), ← bvN_take _ i hl]
theorem rFrom_ev (s : ByteArray) : Ev (fun k => intrusionref06_FromBytes.f k s) (fromB s.data.toList) := by
  unfold intrusionref06_FromBytes.f fromB
  rw [size_list]
  by_cases h4 : s.data.toList.length = 4
  · simp only [h4]
    refine Ev.step (fun k => ?_) (rFrom0 s h4 _ 0 rfl (by omega))
    rw [if_pos (show ((4 : Nat) : Int) = 4 from rfl), intrusionref06_FromBytes.j0, if_neg Bool.false_ne_true, size_list, h4]
    rfl
  · have g4 : ¬ ((s.data.toList.length : Int) = 4) := by omega
    rw [if_neg h4]
    simp only [g4, if_false]
    by_cases h16 : s.data.toList.length = 16
    · rw [if_pos h16]
      refine Ev.step (fun k => ?_) (rFrom1 s h16 _ 0 rfl (by omega))
      rw [h16, show (((16 : Nat) : Int) != 16) = false from rfl, intrusionref06_FromBytes.j0, if_neg Bool.false_ne_true, size_list, h16]
      rfl
    · rw [if_neg h16]
      refine Ev.step (f := fun _ => some (false, 0, 0, 2)) (fun k => ?_) (Ev.now _)
      rw [show ((s.data.toList.length : Int) != 16) = true from bne_iff_ne.2 (by omega), intrusionref06_FromBytes.j0, if_pos rfl]
def bytesN (n len : Nat) : List Int := (List.range len).map (fun i => ((n / 256 ^ (len - 1 - i) % 256 : Nat) : Int))
theorem bytesN_bvN : ∀ (m : Nat) (l : List UInt8), l.length = m → bytesN (bvN l) m = l.map (fun c => (c.toNat : Int))
  | 0, l, h => by rw [List.eq_nil_of_length_eq_zero h]; rfl
  | m + 1, l, h => by
    have hl : m < l.length := by omega
    have e : l = l.take m ++ [l[m]] := by
      have := List.take_succ_eq_append_getElem hl
      rw [← this, List.take_of_length_le (by omega)]
    have ih := bytesN_bvN m (l.take m) (by rw [List.length_take]; omega)
    have hc := (l[m]).toNat_lt
    rw [e, bvN_snoc, List.map_append, ← ih]
    generalize bvN (l.take m) = x
    generalize l[m] = c at hc ⊢
    unfold bytesN
    rw [List.range_succ, List.map_append]
    congr 1
    · apply List.map_congr_left
      intro i hi
      rw [List.mem_range] at hi
      rw [show m + 1 - 1 - i = (m - 1 - i) + 1 from by omega, Nat.pow_succ', ← Nat.div_div_eq_div_mul, show (x * 256 + c.toNat) / 256 = x from by omega]
    · simp only [List.map_cons, List.map_nil]
      rw [show m + 1 - 1 - m = 0 from by omega, Nat.pow_zero, Nat.div_one]
      congr 2
      omega
theorem bytesN_len (n len : Nat) : (bytesN n len).length = len := by unfold bytesN; rw [List.length_map, List.length_range]
theorem shr_u64 (x j : Nat) (hj : j < 64) : shr .u64 (x : Int) (j : Int) = ((x / 2 ^ j : Nat) : Int) := by
  unfold shr
  rw [show min (j : Int).toNat IntKind.u64.bits = j from by show min j 64 = j; omega]
  simp
theorem p256 (j : Nat) : 2 ^ (8 * j) = 256 ^ j := by rw [Nat.pow_mul]
theorem bytes_ev0 (n len : Nat) (hlen : len ≤ 8) : ∀ (d i : Nat), len - i = d → i ≤ len → Ev (fun k => address_bytes.l0 k (n : Int) (len : Int) ((bytesN n len).take i) (len : Int) (i : Int)) (strOfNums (bytesN n len))
  | 0, i, hd, hi => by
    refine Ev.step (f := fun _ => some (strOfNums (bytesN n len))) (fun k => ?_) (Ev.now _)
    rw [address_bytes.l0, if_neg (by omega), List.take_of_length_le (by rw [bytesN_len]; omega)]
  | d + 1, i, hd, hi => by
    have ih := bytes_ev0 n len hlen d (i + 1) (by omega) (by omega)
    refine Ev.step (fun k => ?_) ih
    have e : wrap64 (8 * wrap64 (wrap64 ((len : Int) - 1) - (i : Int))) = ((8 * (len - 1 - i) : Nat) : Int) := by
      rw [wid (x := (len : Int) - 1) (by omega) (by omega), wid (x := (len : Int) - 1 - i) (by omega) (by omega), wid (by omega) (by omega)]
      omega
    have hl : i < (bytesN n len).length := by rw [bytesN_len]; omega
    have hg : (bytesN n len)[i] = (((n / 256 ^ (len - 1 - i)) % 256 : Nat) : Int) := by
      simp [bytesN]
    rw [address_bytes.l0, if_pos (by omega), e, if_pos (by omega), if_pos (by rw [List.length_take, bytesN_len]; omega), shr_u64 _ _ (by omega), p256, up_i (by omega), List.take_succ_eq_append_getElem hl, hg]
    rfl
theorem bytes_ev (n len : Nat) (hlen : len ≤ 8) : Ev (fun k => address_bytes.f k (n : Int) (len : Int)) (strOfNums (bytesN n len)) := bytes_ev0 n len hlen _ 0 rfl (by omega)
theorem strOf_size (l : List Int) : (strOfNums l).size = l.length := by
  unfold strOfNums
  show (l.map _).toArray.size = _
  rw [List.size_toArray, List.length_map]
theorem strOf_app (l r : List Int) : strOfNums l ++ strOfNums r = strOfNums (l ++ r) := by
  unfold strOfNums
  rw [List.map_append]
  apply ByteArray.ext
  simp
def bytesA (a : Ad) : List Int := if a.f0 = true then bytesN a.f1.toNat 8 ++ bytesN a.f2.toNat 8 else bytesN a.f2.toNat 4
theorem aBytes_ev {a : Ad} (h : AW a) : Ev (fun k => address_Bytes.f k a.f0 a.f1 a.f2) (strOfNums (bytesA a)) := by
  obtain ⟨h1, h2, h3, h4⟩ := h
  obtain ⟨a0, a1, a2⟩ := a
  simp only at h1 h2 h3 h4
  obtain ⟨x, rfl⟩ : ∃ x : Nat, a1 = (x : Int) := ⟨a1.toNat, by omega⟩
  obtain ⟨y, rfl⟩ : ∃ y : Nat, a2 = (y : Int) := ⟨a2.toNat, by omega⟩
  unfold address_Bytes.f bytesA
  simp only [Int.toNat_natCast]
  cases a0
  · exact Ev.bind (bytes_ev y 4 (by omega)) (Ev.now _)
  · simp only [if_true]
    refine Ev.bind (bytes_ev x 8 (by omega)) (Ev.bind (bytes_ev y 8 (by omega)) ?_)
    rw [strOf_size, strOf_size, bytesN_len, bytesN_len]
    simp only [show (8 + 8 ≤ 9223372036854775807) = True from by simp, if_true]
    rw [strOf_app]
    exact Ev.now _
theorem strOf_list (s : ByteArray) : strOfNums (s.data.toList.map (fun c => (c.toNat : Int))) = s := by
  unfold strOfNums
  apply ByteArray.ext
  rw [List.map_map]
  have : ((fun n : Int => UInt8.ofNat n.toNat) ∘ fun c : UInt8 => (c.toNat : Int)) = id := by
    funext c
    simp
  rw [this, List.map_id]
end Go.Proofs.YtlgfinnldhjgeaaDoor.Q
end

section
set_option linter.unusedVariables false
set_option linter.unusedSimpArgs false
namespace Go.Proofs.YtlgfinnldhjgeaaDoor.Pure
open Go.RowKit Go.Proofs.YtlgfinnldhjgeaaDoor.Q Go.Proofs.YtlgfinnldhjgeaaDoorW.PrintWords Go.Proofs.YtlgfinnldhjgeaaDoorW.PrintLast
theorem back (l : List UInt8) (h : (fromB l).2.2.2 = 0) : AW ⟨(fromB l).1, (fromB l).2.1, (fromB l).2.2.1⟩ ∧ bytesA ⟨(fromB l).1, (fromB l).2.1, (fromB l).2.2.1⟩ = l.map (fun c => (c.toNat : Int)) := by
  unfold fromB at h ⊢
  by_cases h4 : l.length = 4
  · simp only [h4, if_true]
    have := bvN_u64 (l := l) (by omega)
    refine ⟨⟨by simp, by simp, by simp, by simp; omega⟩, ?_⟩
    unfold bytesA
    simp only [Bool.false_eq_true, if_false, Int.toNat_natCast]
    rw [bytesN_bvN 4 l h4]
  · by_cases h16 : l.length = 16
    · simp only [h4, h16, if_true, if_false]
      rw [if_neg (by decide)]
      have e1 : (l.take 8).length = 8 := by rw [List.length_take]; omega
      have e2 : (l.drop 8).length = 8 := by rw [List.length_drop]; omega
      have b1 := bvN_u64 (l := l.take 8) (by omega)
      have b2 := bvN_u64 (l := l.drop 8) (by omega)
      refine ⟨⟨by simp, by simp; omega, by simp, by simp; omega⟩, ?_⟩
      unfold bytesA
      simp only [if_true, Int.toNat_natCast]
      rw [bytesN_bvN 8 _ e1, bytesN_bvN 8 _ e2, ← List.map_append, List.take_append_drop]
    · rw [if_neg h4, if_neg h16] at h
      cases h
theorem AddressBytes : ∀ (a0 : ByteArray), a0.size ≤ 140737488351232 → ∃ k, intrusionlaw06_AddressBytes.f k a0 = some true := by
  intro s _
  unfold intrusionlaw06_AddressBytes.f
  by_cases h40 : (s.size : Int) > 40
  · exact ⟨0, by rw [if_pos h40]; rfl⟩
  · obtain ⟨K1, e1⟩ := aFrom_ev s
    obtain ⟨K2, e2⟩ := rFrom_ev s
    have e3 : ∃ K3, ∀ k, K3 ≤ k → (fromB s.data.toList).2.2.2 = 0 → address_Bytes.f k (fromB s.data.toList).1 (fromB s.data.toList).2.1 (fromB s.data.toList).2.2.1 = some s := by
      by_cases h : (fromB s.data.toList).2.2.2 = 0
      · obtain ⟨aw, hb⟩ := back _ h
        obtain ⟨K, e⟩ := aBytes_ev aw
        rw [hb, strOf_list] at e
        exact ⟨K, fun k hk _ => e k hk⟩
      · exact ⟨0, fun _ _ h2 => absurd h2 h⟩
    obtain ⟨K3, e3⟩ := e3
    refine ⟨K1 + K2 + K3, ?_⟩
    have f1 := e1 (K1 + K2 + K3) (by omega)
    have f2 := e2 (K1 + K2 + K3) (by omega)
    have f3 := e3 (K1 + K2 + K3) (by omega)
    dsimp only at f1 f2
    rw [if_neg h40, f1, Option.bind_some, f2, Option.bind_some, if_pos (by simp), if_pos rfl]
    by_cases h : (fromB s.data.toList).2.2.2 = 0
    · rw [if_pos h, f3 h, Option.bind_some, if_pos rfl]
      rfl
    · rw [if_neg h]
      rfl
end Go.Proofs.YtlgfinnldhjgeaaDoor.Pure
end

section
set_option linter.unusedVariables false
namespace Go.Proofs.YtlgfinnldhjgeaaDoor.Q
open Go.RowKit
theorem returns_laid {H : Type} {enc : TypeId × Value → H} {a : Assume} {C : Checked} {os : Os} {f : FuncId} {fn : Func} {s : ChangeSpec} {conds : List PathCond} {apart fresh handsOn again : Bool} {X : World → Array Value → Prop}
    (hX : ∀ (w w' : World) (args : Array Value), w.heap = w'.heap → X w args → X w' args)
    (own : ownKnob C.prog.godebug = none) (started : os.Started) (noInit : C.prog.inits.idxOf? f = none) (hfn : C.prog.funcs[f]? = some fn)
    (witness : ∃ (w : World) (tape : Tape) (i : Input), w.os = os ∧ (w.forCall tape i).Shaped C.prog ∧ i.vars = [] ∧ Input.okWide C.prog (w.forCall tape i) .any w.heap.size f i ∧
      ((s.pre enc C.prog fn conds apart (w.forCall tape i).memory i.args ∧ X (w.forCall tape i).memory i.args) ∧ sizedMet enc C.prog fn (OpenSpec.ofChange s) apart (w.forCall tape i).memory i.args) ∧ a.holds C.prog (lone (Frame.enter C.prog f i.args .normal) [] (w.forCall tape i)))
    (contract : ∀ (W : World) (base : Nat) (args : Array Value) (ds gs : List (DataW H)) (before : List MemPlace),
      (∀ (j : Nat) t v, fn.params[j]? = some t → args[j]? = some v → Value.okWide C.prog W .any base t v) →
      DataW.Whole enc C.prog fn.params.toList s.vars apart W args.toList ds gs before →
      conds.all (PathCond.test C.prog ⟨fn.params.toList, ds, s.plain.varTypes C.prog, gs⟩) = true →
      (DataW.weightsEach C.prog (fn.params.toList ++ s.plain.varTypes C.prog) (ds ++ gs)).all (· ≤ reachBytes) = true → X W args → W.ShapedOpen C.prog →
      a.holds C.prog (lone (Frame.enter C.prog f args .normal) [] W) →
      Calls C.prog f args W fun e W' => ∃ v, e = .returned v ∧ s.post enc C.prog fn apart fresh handsOn again W args v W') :
    ReturnsInHanded a C os f .any (fun w args => (s.pre enc C.prog fn conds apart w args ∧ X w args) ∧ sizedMet enc C.prog fn (OpenSpec.ofChange s) apart w args) (s.post enc C.prog fn apart fresh handsOn again) := by
  refine returnsInHanded_of_calls own started noInit witness ?_
  intro w tape i _ hsh _ hok hpre hholds
  obtain ⟨_, _, _, fn', hfn', _, _, _, _, hval⟩ := hok
  have e : fn' = fn := Option.some.inj (hfn'.symm.trans hfn)
  subst e
  obtain ⟨⟨⟨ds, gs, before, hw, hc⟩, hx⟩, hz⟩ := hpre
  have hw' := DataW.Whole.of_heap (w' := w.forCall tape i) (by rfl) hw
  refine (contract (w.forCall tape i) w.heap.size i.args ds gs before hval hw' hc (hz.weights hw) (hX _ _ _ (by rfl) hx) hsh hholds).mono fun e W' ⟨v, he, hp⟩ => ?_
  subst he
  exact ChangeSpec.post_blind hp
theorem laidVars_at {P : Program} {W : World} : ∀ {laid : List (String × DataW Unit)} {ps : List MemPlace}, DataW.LaidVars P W laid ps → ∀ (i : Nat) (n : String) (d : DataW Unit), laid[i]? = some (n, d) →
    ∃ g t cs fuel p, P.globalNamed n = some g ∧ (P.globals[g]?).map (·.type) = some t ∧ W.var? P n = some cs ∧ DataW.trod (fun _ => ()) P W 0 (fun _ => true) false fuel t cs.toList = some (d, p)
  | [], _, _, i, _, _, h => by simp at h
  | (m, c) :: r, ps, h, i, n, d, hi => by
    obtain ⟨g, t, cs, fuel, p, q, h1, h2, h3, h4, h5, _⟩ := h
    cases i with
    | zero =>
      simp only [List.getElem?_cons_zero, Option.some.injEq, Prod.mk.injEq] at hi
      obtain ⟨rfl, rfl⟩ := hi
      exact ⟨g, t, cs, fuel, p, h1, h2, h3, h4⟩
    | succ j => exact laidVars_at h5 j n d (by simpa using hi)
theorem tabIs_at {P : Program} {W : World} {laid : List (String × DataW Unit)} {name : String} {k : IntKind} {zs : List Int} {g : Nat} {t e : TypeId} {n : Nat} (i : Nat) (hi : laid[i]? = some (name, Lib.tabData k zs))
    (hg : P.globalNamed name = some g) (hty : (P.globals[g]?).map (·.type) = some t) (ht : P.underlying t = some (.array n e)) (he : P.underlying e = some (.int k)) (hce : P.cellsOf e = 1) (hct : P.cellsOf t = n)
    (h : laidMet P laid W) : Lib.TabIs P W name k zs := by
  obtain ⟨ps, h, _⟩ := h
  obtain ⟨g', t', cs, fuel, p, hg', ht', hvar, hd⟩ := laidVars_at h i _ _ hi
  obtain rfl := Option.some.inj (hg.symm.trans hg')
  obtain rfl := Option.some.inj (hty.symm.trans ht')
  unfold Lib.TabIs
  rw [hvar, ← Lib.cells_of_tab ht he hce hct hd]
def laidL : List (String × DataW Unit) := [("math/bits.deBruijn32tab", Rows.laid_math_bits_deBruijn32tab), ("math/bits.deBruijn64tab", Rows.laid_math_bits_deBruijn64tab), ("internal/strconv.uint64pow10", Rows.laid_internal_strconv_uint64pow10), ("unicode/utf8.acceptRanges", Rows.laid_unicode_utf8_acceptRanges), ("unicode/utf8.first", Rows.laid_unicode_utf8_first)]
theorem wok_of {W : World} (h : laidMetH Tryd.prog laidL W) (hs : W.ShapedOpen Tryd.prog) : WOK W := by
  rw [MakeChecks.laidMetH_plain _ _ _ (by kernel_rfl)] at h
  refine ⟨?_, ?_, ?_⟩
  · exact cell_of_shapedOpen_int (t := 3) (zero := #[.int .i64 0]) hs (by decide +kernel) (by kernel_rfl) (by kernel_rfl) (by kernel_rfl) (by kernel_rfl) Tryd.underlying3
  · exact tabIs_at (g := 1) (n := 20) 2 (by rfl) (by kernel_rfl) (t := 112) (by kernel_rfl) (by kernel_rfl) (e := 23) Tryd.underlying23 (by kernel_rfl) (by kernel_rfl) h
  · have hb : Lib.TabIs Tryd.prog W "math/bits.deBruijn64tab" .u8 (Lib.deBruijn64tab.map Int.ofNat) := tabIs_at (g := 3) (n := 64) 1 (by rfl) (by kernel_rfl) (t := 123) (by kernel_rfl) (by kernel_rfl) (e := 5) Tryd.underlying5 (by kernel_rfl) (by kernel_rfl) h
    intro j hj
    have h2 := hb.cell (g := 3) (by kernel_rfl) j (by rw [List.length_map]; exact hj)
    rw [h2, List.getD, List.getD, List.getElem?_map, List.getElem?_eq_getElem hj]
    rfl
set_option maxRecDepth 100000 in
theorem laid_world (os : Os) (args : Array Value) : laidMetH Tryd.prog laidL ((World.laidAll Tryd.prog os laidL).forCall (fun _ _ => 0) ⟨#[], args, []⟩).memory := by
  rw [MakeChecks.laidMetH_plain _ _ _ (by kernel_rfl)]
  exact laidMet_laidAll _ (by kernel_rfl) (by kernel_rfl)
end Go.Proofs.YtlgfinnldhjgeaaDoor.Q
end

section
namespace Go.Proofs.YtlgfinnldhjgeaaDoor.addressBytes
open Go.ChangeShapes Go.WideShapes Go.ChangeAt Go.RowKit Go.Proofs.YtlgfinnldhjgeaaDoorW.PrintWords Go.Proofs.YtlgfinnldhjgeaaDoor.Q
open Go.ChangeMaps (open_string shut_string)
set_option linter.unusedVariables false
theorem own : ownKnob Tryd.prog.godebug = none := by kernel_rfl
set_option maxRecDepth 100000 in
theorem lifted (os : Os) (started : os.Started) (H : Type) (enc : TypeId × Value → H) :
    ReturnsInHanded {} Tryd.checked os 7 .any (fun w args => (Rows.addressBytesSpec.pre enc Tryd.prog Tryd.f7 Rows.addressBytesRow.domain false w args ∧ laidMetH Tryd.prog laidL w) ∧ sizedMet enc Tryd.prog Tryd.f7 (OpenSpec.ofChange Rows.addressBytesSpec) false w args) (Rows.addressBytesSpec.post enc Tryd.prog Tryd.f7 false true false false) := by
  refine returns_laid (C := Tryd.checked) (X := (fun w _ => laidMetH Tryd.prog laidL w)) (fun _ _ _ hh h => h.of_heap hh) own started (by kernel_rfl) Tryd.func7
    (ChangeSpec.witness_shaped (enc := enc) (C := Tryd.checked) (os := os) (X := (fun w _ => laidMetH Tryd.prog laidL w)) false (World.laidAll Tryd.prog os laidL) #[.string ByteArray.empty] 8 (World.laidAll_os _ _ _)
      (World.shaped_of_ZipB (by kernel_rfl) (by kernel_rfl)) (by kernel_rfl) (by kernel_rfl) (by kernel_rfl) (laid_world os _)) ?_
  intro W base args ds gs before hval0 hW hcnd hsz0 hL hsh _
  have hWok := wok_of hL hsh
  have hsz : (DataW.weightsEach Tryd.prog (Tryd.f7.params.toList ++ Rows.addressBytesSpec.plain.varTypes Tryd.prog) (ds ++ gs)).all (· ≤ reachBytes) = true := hsz0
  have hval : ∀ (j : Nat) t v, Tryd.f7.params[j]? = some t → args[j]? = some v → Value.okWide Tryd.prog W .any base t v := hval0
  have hW' := hW
  obtain ⟨p, q, hA0, hV, rfl, hfz, hnd⟩ := hW
  have hA : DataW.TrodAll enc Tryd.prog W 0 (fun _ => true) true Tryd.f7.params.toList args.toList ds p := hA0
  rw [Tryd.params7] at hA hval hsz
  obtain ⟨v0, vs0, d0, ds0, p0, q0, hargs, rfl, rfl, h0, r0⟩ := trodAll_cons hA
  obtain ⟨rfl, rfl, rfl⟩ := trodAll_nil r0
  obtain rfl : args = #[v0] := by cases args; simp_all
  obtain ⟨rfl, rfl⟩ := trodVars_none hV
  obtain ⟨a0, rfl, rfl, rfl, y0⟩ := open_string Tryd.underlying9 (hval 0 9 v0 rfl rfl) h0
  have w0 : a0.size ≤ 140737488351232 := by
    have z := sized_string hsz (j := 0) (t := 9) rfl rfl
    rw [Array.length_toList] at z
    exact z
  clear hA0 hval0 hsz0 hsz
  obtain ⟨k, hk⟩ := Pure.AddressBytes a0 w0
  refine (intrusionlaw06_AddressBytes.calls k a0 true W  hk hWok).mono fun e W' he => ?_
  obtain ⟨rfl, bel⟩ := he
  exact ⟨_, rfl, _, _, _, [], _, [], hW', trodAll_mk1 (shut_bool Tryd.underlying4 _), (trodAll_cons_mk (shut_string Tryd.underlying9 y0) trodAll_mk0), rfl, bel.frame _, fun h => by cases h⟩
theorem over : Rows.addressBytesRow.holds Tryd.pinned (OpenSpec.ofChange Rows.addressBytesSpec) :=
  OpenClaim.holds_of_wide 7 Tryd.f7 rfl rfl rfl rfl rfl rfl rfl ⟨rfl, rfl, rfl, rfl, rfl⟩ rfl rfl rfl rfl rfl (by kernel_rfl) Tryd.func7 (by kernel_rfl)
    (of_decide_eq_true (by kernel_rfl)) (by unfold Func.isWrapper; first | (rw [if_pos (by decide +kernel)]; kernel_rfl) | (rw [if_neg (by decide +kernel)]; exact ⟨rfl, rfl⟩))
    (fun os started H enc _ => lifted os started H enc)
theorem card : Rows.AddressBytesCardSaid :=
  Claim7.holds_tied_plain_at .later [] [.data, .data, .data, .data, .pinned] true (true, "a4caf97771cecc6370fff57cddc3aa8f525d50a87a13146298f7be9fbc5a6ea2") false over (fun _ h => by cases h) (by kernel_rfl) (fun _ h => by cases h) addressBytes_row_tie rfl ⟨rfl, rfl⟩ (by kernel_rfl) rfl
    (fun f fn hf hfn => by
      obtain rfl : f = 7 := Option.some.inj ((show Tryd.prog.funcNamed "intrusion/intrusionlaw06.AddressBytes" = some 7 by kernel_rfl).symm.trans hf) |>.symm
      obtain rfl : fn = Tryd.f7 := (Option.some.inj (Tryd.func7.symm.trans hfn)).symm
      exact ⟨by kernel_rfl, fun j t ht => by
        rw [Tryd.params7] at ht
        have hm : t ∈ [9] := by simpa using Array.mem_of_getElem? ht
        have hall : ([9].all fun u => !Tryd.prog.wantsStandIn u) = true := by kernel_rfl
        exact (show Tryd.prog.wantsStandIn t = false by simpa using List.all_eq_true.1 hall t hm)⟩)
    (by kernel_rfl)
#print axioms card
end Go.Proofs.YtlgfinnldhjgeaaDoor.addressBytes
namespace Go.Proofs.YtlgfinnldhjgeaaDoor
theorem addressBytes_holds : Rows.AddressBytesCardSaid := addressBytes.card
end Go.Proofs.YtlgfinnldhjgeaaDoor
end
