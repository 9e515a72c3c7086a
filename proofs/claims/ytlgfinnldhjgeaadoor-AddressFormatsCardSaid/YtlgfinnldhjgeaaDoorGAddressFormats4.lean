/- The law AddressFormats answers true for every input and leaves its arguments as they were. No condition. (Part 4 of 4: the kit's printed words and walks, hand-made contracts and plain laws, joined in build order, without what the theorem does not reach.) -/
import Derived.Shelf.SlSortCmp.InsertionK
import Derived.Lib.AppendIntMem
import Derived.Deep.Slices
import Derived.ChangeArms
import Derived.WideShapes
import Derived.DataElems
import Derived.IntWalk
import Derived.Test.YtlgfinnldhjgeaaDoorRows
import Derived.ProofKit
import Derived.OpenShut
import Derived.LaidMore
import Derived.Lay
import Derived.SevenTiedAt
import Derived.Stop.Joined
import Derived.Lib.LaidTab
import Derived.Shelf.Vars
import Derived.HandedShaped
import Derived.WalkKit
import Derived.ShutString
import Derived.ChangeOld
import Derived.Below
import Derived.SizedLaws
import Derived.Carry
import Derived.Test.YtlgfinnldhjgeaaDoorTie
import Derived.Test.YtlgfinnldhjgeaaDoorCards
import Derived.Test.YtlgfinnldhjgeaaDoorGAddressFormats3
section
namespace Go.Proofs.YtlgfinnldhjgeaaDoor.Q
open Go.RowKit Go.Proofs.YtlgfinnldhjgeaaDoorW.PrintWords Go.Proofs.YtlgfinnldhjgeaaDoorW.PrintLast Go.Proofs.YtlgfinnldhjgeaaDoorW.PrintMore
attribute [local go_sem] max2_int min2_int max_two min_two max_three min_three max_four min_four
set_option linter.unusedVariables false
set_option linter.unusedSimpArgs false
def address_Contains.f (a0_0 : Bool) (a0_1 : Int) (a0_2 : Int) (a0_3 : Int) (a1_0 : Bool) (a1_1 : Int) (a1_2 : Int) : Option (Bool) := if (a0_0 != a1_0) = true then (some false) else ((address_mask.f a1_0 a1_1 a1_2 a0_3).bind fun bt184 => (if (Go.bits .andNot .u64 a1_1 bt184.1) = (Go.bits .andNot .u64 a0_1 bt184.1) then (some ((Go.bits .andNot .u64 a1_2 bt184.2) == (Go.bits .andNot .u64 a0_2 bt184.2))) else (some false)))
set_option maxHeartbeats 8000000 in
set_option maxRecDepth 100000 in
theorem address_Contains.calls (a0_0 : Bool) (a0_1 : Int) (a0_2 : Int) (a0_3 : Int) (a1_0 : Bool) (a1_1 : Int) (a1_2 : Int) (r : Bool) (w : World) (h : address_Contains.f a0_0 a0_1 a0_2 a0_3 a1_0 a1_1 a1_2 = some r) :
 Calls Tryd.prog 23 #[.agg #[.bool a0_0, .int .u64 a0_1, .int .u64 a0_2, .int .i64 a0_3], .agg #[.bool a1_0, .int .u64 a1_1, .int .u64 a1_2]] w fun e w' => e = .returned (.bool r) ∧ Below w.heap.size w w' := by
 have hu30 := Tryd.underlying30
 have hu25 := Tryd.underlying25
 have HB := Aside0.mk (Below.refl w.heap.size w)
 unfold address_Contains.f at h; have H := h
 clear h
 by_cases c3 : (a0_0 != a1_0) = true
 · rw [if_pos c3] at H
   have c3b0 : (a0_0 != a1_0) = true := c3
   (try (have c3b1 : decide (a0_0 = a1_0) = false := by first | (simpa using c3) | exact decide_eq_true (Decidable.not_not.1 (fun hn => c3 (bne_iff_ne.2 hn))) | exact beq_iff_eq.2 (Decidable.not_not.1 (fun hn => c3 (bne_iff_ne.2 hn))) | exact decide_eq_false (bne_iff_ne.1 c3) | exact beq_eq_false_iff_ne.2 (bne_iff_ne.1 c3) | exact bne_iff_ne.1 c3))
   (try (have c3b2 : (a0_0 == a1_0) = false := by first | (simpa using c3) | exact decide_eq_true (Decidable.not_not.1 (fun hn => c3 (bne_iff_ne.2 hn))) | exact beq_iff_eq.2 (Decidable.not_not.1 (fun hn => c3 (bne_iff_ne.2 hn))) | exact decide_eq_false (bne_iff_ne.1 c3) | exact beq_eq_false_iff_ne.2 (bne_iff_ne.1 c3) | exact bne_iff_ne.1 c3))
   (try (have c3b3 : ¬ (a0_0 = a1_0) := by first | (simpa using c3) | exact decide_eq_true (Decidable.not_not.1 (fun hn => c3 (bne_iff_ne.2 hn))) | exact beq_iff_eq.2 (Decidable.not_not.1 (fun hn => c3 (bne_iff_ne.2 hn))) | exact decide_eq_false (bne_iff_ne.1 c3) | exact beq_eq_false_iff_ne.2 (bne_iff_ne.1 c3) | exact bne_iff_ne.1 c3))
   clear c3
   obtain rfl := Option.some.inj H
   go_enter Tryd.func23, Tryd.ntmps23
   go_wp2_with (first | ((with_reducible refine gate_dst (N := 2) rfl ?_); refine zx 2 #[.bool a0_0, .int .u64 a0_1, .int .u64 a0_2, .int .i64 a0_3] 30 ?_; intro gb182 hg w4 hbox hb; have BK182 := Aside0.mk (hbox); have GW182 := Aside0.mk ((by rw [hg]; exact (below_size (zB HB)) : w.heap.size ≤ gb182)); have GE182 := Aside0.mk ((by rw [hg]; exact (below_size (zB HB)) : w.heap.size ≤ gb182)); replace HB := Aside0.mk (below_step (zB HB) hb); clear hb hbox hg) | ((with_reducible refine gate_dst (N := 3) rfl ?_); refine zx 3 #[.bool a1_0, .int .u64 a1_1, .int .u64 a1_2] 25 ?_; intro gb183 hg w5 hbox hb; have BK183 := Aside0.mk (hbox); have GW183 := Aside0.mk ((by rw [hg]; exact (below_size (zB HB)) : w.heap.size ≤ gb183)); have GE183 := Aside0.mk ((by rw [hg]; exact (below_size (zB HB)) : w.heap.size ≤ gb183)); replace HB := Aside0.mk (below_step (zB HB) hb); have NB182_183 := Aside0.mk ((by rw [hg]; exact Nat.ne_of_lt (blk_lt (g := gb182) (o := .cells #[.bool a0_0, .int .u64 a0_1, .int .u64 a0_2, .int .i64 a0_3] 30 (0, 0)) (zK BK182)) : gb182 ≠ gb183)); have NB183_182 := Aside0.mk ((by rw [hg]; exact Nat.ne_of_gt (blk_lt (g := gb182) (o := .cells #[.bool a0_0, .int .u64 a0_1, .int .u64 a0_2, .int .i64 a0_3] 30 (0, 0)) (zK BK182)) : gb183 ≠ gb182)); replace BK182 := Aside0.mk (blk_below (g := gb182) (o := .cells #[.bool a0_0, .int .u64 a0_1, .int .u64 a0_2, .int .i64 a0_3] 30 (0, 0)) (zK BK182) hb); clear hb hbox hg; have hnb6 := NB182_183.out; have hnc6 := NB183_182.out; obtain ⟨hcz7_0, hcz7_1, hcz7_2, hcz7_3⟩ := zc4 BK182; obtain ⟨hfz7_0, hfz7_1, hfz7_2, hfz7_3⟩ := zf4 BK182; obtain ⟨hcz8_0, hcz8_1, hcz8_2⟩ := zc3 BK183; obtain ⟨hfz8_0, hfz8_1, hfz8_2⟩ := zf3 BK183))
   go_ret
   exact ⟨by first | rfl | (simp [errW_none, errW_some] <;> rfl) | (simp [*, errW_none, errW_some] <;> rfl), by repeat (first | (with_reducible first | exact HB.out | apply below_alloc | apply pw_below_drewN | apply below_drew1 | refine below_set ?_ GE182.out | refine below_set ?_ GE183.out) | exact HB.out)⟩
 · rw [if_neg c3] at H
   have c3b0 : (a0_0 != a1_0) = false := by simpa using c3
   (try (have c3b1 : decide (a0_0 = a1_0) = true := by first | (simpa using c3) | exact decide_eq_true (Decidable.not_not.1 (fun hn => c3 (bne_iff_ne.2 hn))) | exact beq_iff_eq.2 (Decidable.not_not.1 (fun hn => c3 (bne_iff_ne.2 hn))) | exact decide_eq_false (bne_iff_ne.1 c3) | exact beq_eq_false_iff_ne.2 (bne_iff_ne.1 c3) | exact bne_iff_ne.1 c3))
   (try (have c3b2 : (a0_0 == a1_0) = true := by first | (simpa using c3) | exact decide_eq_true (Decidable.not_not.1 (fun hn => c3 (bne_iff_ne.2 hn))) | exact beq_iff_eq.2 (Decidable.not_not.1 (fun hn => c3 (bne_iff_ne.2 hn))) | exact decide_eq_false (bne_iff_ne.1 c3) | exact beq_eq_false_iff_ne.2 (bne_iff_ne.1 c3) | exact bne_iff_ne.1 c3))
   clear c3
   replace H := Option.bind_eq_some_iff.mp H
   obtain ⟨⟨t184, t185⟩, A90, H⟩ := H
   try dsimp only at H
   have A9 := Aside0.mk A90
   clear A90
   by_cases c10 : (Go.bits .andNot .u64 a1_1 t184) = (Go.bits .andNot .u64 a0_1 t184)
   · rw [if_pos c10] at H
     have c10b0 : ((Go.bits .andNot .u64 a1_1 t184) == (Go.bits .andNot .u64 a0_1 t184)) = true := beq_iff_eq.mpr c10
     have c10b1 : ((Go.bits .andNot .u64 a1_1 t184) != (Go.bits .andNot .u64 a0_1 t184)) = false := bne_eq_false_iff_eq.mpr c10
     clear c10
     obtain rfl := Option.some.inj H
     go_enter Tryd.func23, Tryd.ntmps23
     go_wp2_with (first | ((with_reducible refine gate_dst (N := 2) rfl ?_); refine zx 2 #[.bool a0_0, .int .u64 a0_1, .int .u64 a0_2, .int .i64 a0_3] 30 ?_; intro gb182 hg w11 hbox hb; have BK182 := Aside0.mk (hbox); have GW182 := Aside0.mk ((by rw [hg]; exact (below_size (zB HB)) : w.heap.size ≤ gb182)); have GE182 := Aside0.mk ((by rw [hg]; exact (below_size (zB HB)) : w.heap.size ≤ gb182)); replace HB := Aside0.mk (below_step (zB HB) hb); clear hb hbox hg) | ((with_reducible refine gate_dst (N := 3) rfl ?_); refine zx 3 #[.bool a1_0, .int .u64 a1_1, .int .u64 a1_2] 25 ?_; intro gb183 hg w12 hbox hb; have BK183 := Aside0.mk (hbox); have GW183 := Aside0.mk ((by rw [hg]; exact (below_size (zB HB)) : w.heap.size ≤ gb183)); have GE183 := Aside0.mk ((by rw [hg]; exact (below_size (zB HB)) : w.heap.size ≤ gb183)); replace HB := Aside0.mk (below_step (zB HB) hb); have NB182_183 := Aside0.mk ((by rw [hg]; exact Nat.ne_of_lt (blk_lt (g := gb182) (o := .cells #[.bool a0_0, .int .u64 a0_1, .int .u64 a0_2, .int .i64 a0_3] 30 (0, 0)) (zK BK182)) : gb182 ≠ gb183)); have NB183_182 := Aside0.mk ((by rw [hg]; exact Nat.ne_of_gt (blk_lt (g := gb182) (o := .cells #[.bool a0_0, .int .u64 a0_1, .int .u64 a0_2, .int .i64 a0_3] 30 (0, 0)) (zK BK182)) : gb183 ≠ gb182)); replace BK182 := Aside0.mk (blk_below (g := gb182) (o := .cells #[.bool a0_0, .int .u64 a0_1, .int .u64 a0_2, .int .i64 a0_3] 30 (0, 0)) (zK BK182) hb); clear hb hbox hg; have hnb13 := NB182_183.out; have hnc13 := NB183_182.out; obtain ⟨hcz14_0, hcz14_1, hcz14_2, hcz14_3⟩ := zc4 BK182; obtain ⟨hfz14_0, hfz14_1, hfz14_2, hfz14_3⟩ := zf4 BK182; obtain ⟨hcz15_0, hcz15_1, hcz15_2⟩ := zc3 BK183; obtain ⟨hfz15_0, hfz15_1, hfz15_2⟩ := zf3 BK183) | ((with_reducible refine gate_callee (f := 51) rfl ?_); refine goesL_ (some 17) rfl rfl Tryd.func51 (by kernel_rfl) rfl #[.agg #[.bool a1_0, .int .u64 a1_1, .int .u64 a1_2], .int .i64 a0_3] rfl (by (try simp only [List.map_toArray, List.map_cons, List.map_nil]); first | done | rfl | (simp only [List.length_drop, List.length_take]; rfl)) ?_; (with_reducible refine (address_mask.calls a1_0 a1_1 a1_2 a0_3 t184 t185 _ A9.out).mono ?_); rintro e w16 ⟨rfl, hb⟩; refine ⟨_, rfl, ?_⟩; replace BK182 := Aside0.mk (blk_below (g := gb182) (o := .cells #[.bool a0_0, .int .u64 a0_1, .int .u64 a0_2, .int .i64 a0_3] 30 (0, 0)) (zK BK182) hb); replace BK183 := Aside0.mk (blk_below (g := gb183) (o := .cells #[.bool a1_0, .int .u64 a1_1, .int .u64 a1_2] 25 (0, 0)) (zK BK183) hb); replace HB := Aside0.mk (below_step (zB HB) hb); (try clear hb); obtain ⟨hcz17_0, hcz17_1, hcz17_2⟩ := zc3 BK183; obtain ⟨hfz17_0, hfz17_1, hfz17_2⟩ := zf3 BK183; obtain ⟨hcz18_0, hcz18_1, hcz18_2, hcz18_3⟩ := zc4 BK182; obtain ⟨hfz18_0, hfz18_1, hfz18_2, hfz18_3⟩ := zf4 BK182))
     go_ret
     exact ⟨by first | rfl | (simp [errW_none, errW_some] <;> rfl) | (simp [*, errW_none, errW_some] <;> rfl), by repeat (first | (with_reducible first | exact HB.out | apply below_alloc | apply pw_below_drewN | apply below_drew1 | refine below_set ?_ GE182.out | refine below_set ?_ GE183.out) | exact HB.out)⟩
   · rw [if_neg c10] at H
     have c10b0 : ((Go.bits .andNot .u64 a1_1 t184) == (Go.bits .andNot .u64 a0_1 t184)) = false := beq_eq_false_iff_ne.mpr c10
     have c10b1 : ((Go.bits .andNot .u64 a1_1 t184) != (Go.bits .andNot .u64 a0_1 t184)) = true := bne_iff_ne.mpr c10
     obtain rfl := Option.some.inj H
     go_enter Tryd.func23, Tryd.ntmps23
     go_wp2_with (first | ((with_reducible refine gate_dst (N := 2) rfl ?_); refine zx 2 #[.bool a0_0, .int .u64 a0_1, .int .u64 a0_2, .int .i64 a0_3] 30 ?_; intro gb182 hg w19 hbox hb; have BK182 := Aside0.mk (hbox); have GW182 := Aside0.mk ((by rw [hg]; exact (below_size (zB HB)) : w.heap.size ≤ gb182)); have GE182 := Aside0.mk ((by rw [hg]; exact (below_size (zB HB)) : w.heap.size ≤ gb182)); replace HB := Aside0.mk (below_step (zB HB) hb); clear hb hbox hg) | ((with_reducible refine gate_dst (N := 3) rfl ?_); refine zx 3 #[.bool a1_0, .int .u64 a1_1, .int .u64 a1_2] 25 ?_; intro gb183 hg w20 hbox hb; have BK183 := Aside0.mk (hbox); have GW183 := Aside0.mk ((by rw [hg]; exact (below_size (zB HB)) : w.heap.size ≤ gb183)); have GE183 := Aside0.mk ((by rw [hg]; exact (below_size (zB HB)) : w.heap.size ≤ gb183)); replace HB := Aside0.mk (below_step (zB HB) hb); have NB182_183 := Aside0.mk ((by rw [hg]; exact Nat.ne_of_lt (blk_lt (g := gb182) (o := .cells #[.bool a0_0, .int .u64 a0_1, .int .u64 a0_2, .int .i64 a0_3] 30 (0, 0)) (zK BK182)) : gb182 ≠ gb183)); have NB183_182 := Aside0.mk ((by rw [hg]; exact Nat.ne_of_gt (blk_lt (g := gb182) (o := .cells #[.bool a0_0, .int .u64 a0_1, .int .u64 a0_2, .int .i64 a0_3] 30 (0, 0)) (zK BK182)) : gb183 ≠ gb182)); replace BK182 := Aside0.mk (blk_below (g := gb182) (o := .cells #[.bool a0_0, .int .u64 a0_1, .int .u64 a0_2, .int .i64 a0_3] 30 (0, 0)) (zK BK182) hb); clear hb hbox hg; have hnb21 := NB182_183.out; have hnc21 := NB183_182.out; obtain ⟨hcz22_0, hcz22_1, hcz22_2, hcz22_3⟩ := zc4 BK182; obtain ⟨hfz22_0, hfz22_1, hfz22_2, hfz22_3⟩ := zf4 BK182; obtain ⟨hcz23_0, hcz23_1, hcz23_2⟩ := zc3 BK183; obtain ⟨hfz23_0, hfz23_1, hfz23_2⟩ := zf3 BK183) | ((with_reducible refine gate_callee (f := 51) rfl ?_); refine goesL_ (some 17) rfl rfl Tryd.func51 (by kernel_rfl) rfl #[.agg #[.bool a1_0, .int .u64 a1_1, .int .u64 a1_2], .int .i64 a0_3] rfl (by (try simp only [List.map_toArray, List.map_cons, List.map_nil]); first | done | rfl | (simp only [List.length_drop, List.length_take]; rfl)) ?_; (with_reducible refine (address_mask.calls a1_0 a1_1 a1_2 a0_3 t184 t185 _ A9.out).mono ?_); rintro e w24 ⟨rfl, hb⟩; refine ⟨_, rfl, ?_⟩; replace BK182 := Aside0.mk (blk_below (g := gb182) (o := .cells #[.bool a0_0, .int .u64 a0_1, .int .u64 a0_2, .int .i64 a0_3] 30 (0, 0)) (zK BK182) hb); replace BK183 := Aside0.mk (blk_below (g := gb183) (o := .cells #[.bool a1_0, .int .u64 a1_1, .int .u64 a1_2] 25 (0, 0)) (zK BK183) hb); replace HB := Aside0.mk (below_step (zB HB) hb); (try clear hb); obtain ⟨hcz25_0, hcz25_1, hcz25_2⟩ := zc3 BK183; obtain ⟨hfz25_0, hfz25_1, hfz25_2⟩ := zf3 BK183; obtain ⟨hcz26_0, hcz26_1, hcz26_2, hcz26_3⟩ := zc4 BK182; obtain ⟨hfz26_0, hfz26_1, hfz26_2, hfz26_3⟩ := zf4 BK182))
     go_ret
     exact ⟨by first | rfl | (simp [errW_none, errW_some] <;> rfl) | (simp [*, errW_none, errW_some] <;> rfl), by repeat (first | (with_reducible first | exact HB.out | apply below_alloc | apply pw_below_drewN | apply below_drew1 | refine below_set ?_ GE182.out | refine below_set ?_ GE183.out) | exact HB.out)⟩
end Go.Proofs.YtlgfinnldhjgeaaDoor.Q
end

section
set_option linter.unusedVariables false
set_option linter.unusedSimpArgs false
namespace Go.Proofs.YtlgfinnldhjgeaaDoor.Q
open Go.RowKit Go.Sort Go.Lib Go.Proofs.YtlgfinnldhjgeaaDoorW.PrintWords Go.Proofs.YtlgfinnldhjgeaaDoorW.PrintLast Go.Proofs.YtlgfinnldhjgeaaDoorW.PrintMore
def cmpA (a b : S25) : Int := if a.f0 = b.f0 then (if a.f1 = b.f1 then (if a.f2 = b.f2 then 0 else if a.f2 < b.f2 then -1 else 1) else if a.f1 < b.f1 then -1 else 1) else if b.f0 = true then -1 else 1
def address_Compare.f (a0_0 : Bool) (a0_1 : Int) (a0_2 : Int) (a1_0 : Bool) (a1_1 : Int) (a1_2 : Int) : Option (Int) := some (cmpA ⟨a0_0, a0_1, a0_2⟩ ⟨a1_0, a1_1, a1_2⟩)
set_option maxHeartbeats 2000000 in
set_option maxRecDepth 100000 in
theorem compareX (a b : S25) (w : World) :
    Calls Tryd.prog 18 #[.agg #[.bool a.f0, .int .u64 a.f1, .int .u64 a.f2], .agg #[.bool b.f0, .int .u64 b.f1, .int .u64 b.f2]] w fun e w' => e = .returned (.int .i64 (cmpA a b)) ∧ ∃ q os', w' = grow (w.drewN q) os' := by
  obtain ⟨a0, a1, a2⟩ := a
  obtain ⟨b0, b1, b2⟩ := b
  have hu := Tryd.underlying25
  by_cases h0 : a0 = b0
  · subst h0
    by_cases h1 : a1 = b1
    · subst h1
      by_cases h2 : a2 = b2
      · subst h2
        rw [show cmpA ⟨a0, a1, a2⟩ ⟨a0, a1, a2⟩ = 0 by simp [cmpA]]
        cases a0 <;>
        · go_enter Tryd.func18, Tryd.ntmps18
          go_wp2
          go_ret
          exact ⟨rfl, 0, _, by rw [alloc_eq_grow, alloc_eq_grow, grow_grow]; rfl⟩
      · have e1 : (a2 == b2) = false := by simpa using h2
        have e2 : decide (a2 = b2) = false := by simpa using h2
        by_cases h3 : a2 < b2
        · rw [show cmpA ⟨a0, a1, a2⟩ ⟨a0, a1, b2⟩ = -1 by simp [cmpA, h2, h3]]
          have e3 : decide (a2 < b2) = true := by simpa using h3
          cases a0 <;>
          · go_enter Tryd.func18, Tryd.ntmps18
            go_wp2
            go_ret
            exact ⟨rfl, 0, _, by rw [alloc_eq_grow, alloc_eq_grow, grow_grow]; rfl⟩
        · rw [show cmpA ⟨a0, a1, a2⟩ ⟨a0, a1, b2⟩ = 1 by simp [cmpA, h2, h3]]
          have e3 : decide (a2 < b2) = false := by simpa using h3
          cases a0 <;>
          · go_enter Tryd.func18, Tryd.ntmps18
            go_wp2
            go_ret
            exact ⟨rfl, 0, _, by rw [alloc_eq_grow, alloc_eq_grow, grow_grow]; rfl⟩
    · have e1 : (a1 == b1) = false := by simpa using h1
      have e2 : decide (a1 = b1) = false := by simpa using h1
      have e4 : (a1 != b1) = true := by simpa using h1
      by_cases h3 : a1 < b1
      · rw [show cmpA ⟨a0, a1, a2⟩ ⟨a0, b1, b2⟩ = -1 by simp [cmpA, h1, h3]]
        have e3 : decide (a1 < b1) = true := by simpa using h3
        cases a0 <;>
        · go_enter Tryd.func18, Tryd.ntmps18
          go_wp2
          go_ret
          exact ⟨rfl, 0, _, by rw [alloc_eq_grow, alloc_eq_grow, grow_grow]; rfl⟩
      · rw [show cmpA ⟨a0, a1, a2⟩ ⟨a0, b1, b2⟩ = 1 by simp [cmpA, h1, h3]]
        have e3 : decide (a1 < b1) = false := by simpa using h3
        cases a0 <;>
        · go_enter Tryd.func18, Tryd.ntmps18
          go_wp2
          go_ret
          exact ⟨rfl, 0, _, by rw [alloc_eq_grow, alloc_eq_grow, grow_grow]; rfl⟩
  · cases b0
    · have ha : a0 = true := by simpa using h0
      subst ha
      rw [show cmpA ⟨true, a1, a2⟩ ⟨false, b1, b2⟩ = 1 by simp [cmpA]]
      clear h0
      go_enter Tryd.func18, Tryd.ntmps18
      go_wp2
      go_ret
      exact ⟨rfl, 0, _, by rw [alloc_eq_grow, alloc_eq_grow, grow_grow]; rfl⟩
    · have ha : a0 = false := by simpa using h0
      subst ha
      rw [show cmpA ⟨false, a1, a2⟩ ⟨true, b1, b2⟩ = -1 by simp [cmpA]]
      clear h0
      go_enter Tryd.func18, Tryd.ntmps18
      go_wp2
      go_ret
      exact ⟨rfl, 0, _, by rw [alloc_eq_grow, alloc_eq_grow, grow_grow]; rfl⟩
theorem address_Compare.calls (a0_0 : Bool) (a0_1 : Int) (a0_2 : Int) (a1_0 : Bool) (a1_1 : Int) (a1_2 : Int) (r : Int) (w : World) (h : address_Compare.f a0_0 a0_1 a0_2 a1_0 a1_1 a1_2 = some r) :
    Calls Tryd.prog 18 #[.agg #[.bool a0_0, .int .u64 a0_1, .int .u64 a0_2], .agg #[.bool a1_0, .int .u64 a1_1, .int .u64 a1_2]] w fun e w' => e = .returned (.int .i64 r) ∧ Below w.heap.size w w' := by
  unfold address_Compare.f at h
  injection h with h
  subst h
  refine (compareX ⟨a0_0, a0_1, a0_2⟩ ⟨a1_0, a1_1, a1_2⟩ w).mono ?_
  rintro e w' ⟨rfl, q, os, rfl⟩
  refine ⟨rfl, ?_⟩
  exact below_grow _ _ (Nat.le_refl _) _ _
end Go.Proofs.YtlgfinnldhjgeaaDoor.Q
end

section
set_option linter.unusedVariables false
set_option linter.unusedSimpArgs false
namespace Go.Proofs.YtlgfinnldhjgeaaDoor.Q
open Go.RowKit Go.Proofs.YtlgfinnldhjgeaaDoorW.PrintWords Go.Proofs.YtlgfinnldhjgeaaDoorW.PrintLast Go.Proofs.YtlgfinnldhjgeaaDoorW.PrintMore
theorem lives06.e1 : address_Parse.f 40 (⟨#[58, 58, 49, 58, 48]⟩ : ByteArray) = some (true, 0, 65536, 0) := by kernel_rfl
theorem lives06.e2 : address_ParsePrefix.f 40 (⟨#[49, 48, 46, 48, 46, 48, 46, 48, 47, 56]⟩ : ByteArray) = some (false, 0, 167772160, 8, 0) := by kernel_rfl
theorem lives06.e3 : address_Parse.f 40 (⟨#[49, 48, 46, 49, 46, 50, 46, 51]⟩ : ByteArray) = some (false, 0, 167838211, 0) := by kernel_rfl
theorem lives06.e4 : address_Next.f false 0 255 = some (false, 0, 256, true) := by kernel_rfl
theorem lives06.e5 : address_Contains.f false 0 167772160 8 false 0 167838211 = some true := by kernel_rfl
theorem lives06.e6 : address_Format.f false 0 167838211 = some ⟨#[49, 48, 46, 49, 46, 50, 46, 51]⟩ := by kernel_rfl
theorem lives06.e7 : address_Format.f true 0 65536 = some ⟨#[58, 58, 49, 58, 48]⟩ := by kernel_rfl
theorem lives06.e8 : address_Compare.f false 0 167838211 true 0 65536 = some (-1) := by kernel_rfl
theorem lives06.e9 : address_Valid.f false 0 167838211 = some true := by kernel_rfl
def intrusionlaw06_lives.f : Option Bool := some true
set_option maxHeartbeats 4000000 in
set_option maxRecDepth 100000 in
theorem intrusionlaw06_lives.calls (r : Bool) (w : World) (h : intrusionlaw06_lives.f = some r) (hW : WOK w) :
    Calls Tryd.prog 10 #[] w fun e w' => e = .returned (.bool r) ∧ Below w.heap.size w w' := by
  injection h with h
  subst h
  have HW := Aside0.mk hW
  have HB : Aside0 (Below w.heap.size w w) := ⟨Below.refl _ _⟩
  clear hW
  go_enter Tryd.func10, Tryd.ntmps10
  go_wp2_with fail
  refine (address_Parse.calls 40 _ _ _ _ _ _ lives06.e1 (HW.out.below HB.out)).mono ?_
  rintro e w1 ⟨rfl, hb⟩
  replace HB := Aside0.mk (below_step HB.out hb)
  clear hb
  have HXa : Aside0 ((w1.alloc (.cells #[.bool true, .int .u64 0, .int .u64 65536] 25)).heap[w1.heap.size]? = some (.cells #[.bool true, .int .u64 0, .int .u64 65536] 25 (0, 0))) := ⟨heap_alloc_new _ _⟩
  replace HB := Aside0.mk (below_alloc HB.out (.cells #[.bool true, .int .u64 0, .int .u64 65536] 25))
  go_wp2_with fail
  obtain ⟨ga, hg⟩ : ∃ g, w1.heap.size = g := ⟨_, rfl⟩
  rw [hg] at HXa
  simp only [hg]
  clear hg
  generalize w1.alloc (.cells #[.bool true, .int .u64 0, .int .u64 65536] 25) = Wa at HXa HB ⊢
  refine (address_ParsePrefix.calls 40 _ _ _ _ _ _ _ lives06.e2 (HW.out.below HB.out)).mono ?_
  rintro e w2 ⟨rfl, hb⟩
  replace HB := Aside0.mk (below_step HB.out hb)
  replace HXa := Aside0.mk (blk_below HXa.out hb)
  clear hb
  have HXp : Aside0 ((w2.alloc (.cells #[.bool false, .int .u64 0, .int .u64 167772160, .int .i64 8] 30)).heap[w2.heap.size]? = some (.cells #[.bool false, .int .u64 0, .int .u64 167772160, .int .i64 8] 30 (0, 0))) := ⟨heap_alloc_new _ _⟩
  replace HXa := Aside0.mk (blk_alloc HXa.out (.cells #[.bool false, .int .u64 0, .int .u64 167772160, .int .i64 8] 30))
  replace HB := Aside0.mk (below_alloc HB.out (.cells #[.bool false, .int .u64 0, .int .u64 167772160, .int .i64 8] 30))
  go_wp2_with fail
  obtain ⟨gp, hg⟩ : ∃ g, w2.heap.size = g := ⟨_, rfl⟩
  rw [hg] at HXp
  simp only [hg]
  clear hg
  generalize w2.alloc (.cells #[.bool false, .int .u64 0, .int .u64 167772160, .int .i64 8] 30) = Wp at HXa HXp HB ⊢
  refine (address_Parse.calls 40 _ _ _ _ _ _ lives06.e3 (HW.out.below HB.out)).mono ?_
  rintro e w3 ⟨rfl, hb⟩
  replace HB := Aside0.mk (below_step HB.out hb)
  replace HXa := Aside0.mk (blk_below HXa.out hb)
  replace HXp := Aside0.mk (blk_below HXp.out hb)
  clear hb
  have HXb : Aside0 ((w3.alloc (.cells #[.bool false, .int .u64 0, .int .u64 167838211] 25)).heap[w3.heap.size]? = some (.cells #[.bool false, .int .u64 0, .int .u64 167838211] 25 (0, 0))) := ⟨heap_alloc_new _ _⟩
  replace HXa := Aside0.mk (blk_alloc HXa.out (.cells #[.bool false, .int .u64 0, .int .u64 167838211] 25))
  replace HXp := Aside0.mk (blk_alloc HXp.out (.cells #[.bool false, .int .u64 0, .int .u64 167838211] 25))
  replace HB := Aside0.mk (below_alloc HB.out (.cells #[.bool false, .int .u64 0, .int .u64 167838211] 25))
  go_wp2_with fail
  obtain ⟨gb, hg⟩ : ∃ g, w3.heap.size = g := ⟨_, rfl⟩
  rw [hg] at HXb
  simp only [hg]
  clear hg
  generalize w3.alloc (.cells #[.bool false, .int .u64 0, .int .u64 167838211] 25) = Wb at HXa HXp HXb HB ⊢
  refine (address_Next.calls _ _ _ _ _ _ _ _ lives06.e4).mono ?_
  rintro e w4 ⟨rfl, hb⟩
  replace HB := Aside0.mk (below_step HB.out hb)
  replace HXa := Aside0.mk (blk_below HXa.out hb)
  replace HXp := Aside0.mk (blk_below HXp.out hb)
  replace HXb := Aside0.mk (blk_below HXb.out hb)
  clear hb
  have HXn : Aside0 ((w4.alloc (.cells #[.bool false, .int .u64 0, .int .u64 256] 25)).heap[w4.heap.size]? = some (.cells #[.bool false, .int .u64 0, .int .u64 256] 25 (0, 0))) := ⟨heap_alloc_new _ _⟩
  replace HXa := Aside0.mk (blk_alloc HXa.out (.cells #[.bool false, .int .u64 0, .int .u64 256] 25))
  replace HXp := Aside0.mk (blk_alloc HXp.out (.cells #[.bool false, .int .u64 0, .int .u64 256] 25))
  replace HXb := Aside0.mk (blk_alloc HXb.out (.cells #[.bool false, .int .u64 0, .int .u64 256] 25))
  replace HB := Aside0.mk (below_alloc HB.out (.cells #[.bool false, .int .u64 0, .int .u64 256] 25))
  go_upto_region 5 with (fail)
  obtain ⟨gn, hg⟩ : ∃ g, w4.heap.size = g := ⟨_, rfl⟩
  rw [hg] at HXn
  simp only [hg]
  clear hg
  generalize w4.alloc (.cells #[.bool false, .int .u64 0, .int .u64 256] 25) = Wn at HXa HXp HXb HXn HB ⊢
  obtain ⟨ca0, ca1, ca2⟩ := zc3 HXa
  obtain ⟨cp0, cp1, cp2, cp3⟩ := zc4 HXp
  obtain ⟨cb0, cb1, cb2⟩ := zc3 HXb
  obtain ⟨cn0, cn1, cn2⟩ := zc3 HXn
  go_wp2_with fail
  clear ca0 ca1 ca2
  clear cp0 cp1 cp2 cp3
  clear cb0 cb1 cb2
  clear cn0 cn1 cn2
  refine (address_Contains.calls _ _ _ _ _ _ _ _ _ lives06.e5).mono ?_
  rintro e w5 ⟨rfl, hb⟩
  replace HB := Aside0.mk (below_step HB.out hb)
  replace HXa := Aside0.mk (blk_below HXa.out hb)
  replace HXp := Aside0.mk (blk_below HXp.out hb)
  replace HXb := Aside0.mk (blk_below HXb.out hb)
  replace HXn := Aside0.mk (blk_below HXn.out hb)
  clear hb
  obtain ⟨ca0, ca1, ca2⟩ := zc3 HXa
  obtain ⟨cp0, cp1, cp2, cp3⟩ := zc4 HXp
  obtain ⟨cb0, cb1, cb2⟩ := zc3 HXb
  obtain ⟨cn0, cn1, cn2⟩ := zc3 HXn
  go_wp2_with fail
  clear ca0 ca1 ca2
  clear cp0 cp1 cp2 cp3
  clear cb0 cb1 cb2
  clear cn0 cn1 cn2
  refine (address_Valid.calls _ _ _ _ _ lives06.e9).mono ?_
  rintro e w6 ⟨rfl, hb⟩
  replace HB := Aside0.mk (below_step HB.out hb)
  replace HXa := Aside0.mk (blk_below HXa.out hb)
  replace HXp := Aside0.mk (blk_below HXp.out hb)
  replace HXb := Aside0.mk (blk_below HXb.out hb)
  replace HXn := Aside0.mk (blk_below HXn.out hb)
  clear hb
  obtain ⟨ca0, ca1, ca2⟩ := zc3 HXa
  obtain ⟨cp0, cp1, cp2, cp3⟩ := zc4 HXp
  obtain ⟨cb0, cb1, cb2⟩ := zc3 HXb
  obtain ⟨cn0, cn1, cn2⟩ := zc3 HXn
  go_wp2_with fail
  clear ca0 ca1 ca2
  clear cp0 cp1 cp2 cp3
  clear cb0 cb1 cb2
  clear cn0 cn1 cn2
  refine (address_Format.calls _ _ _ _ _ lives06.e6 (HW.out.below HB.out)).mono ?_
  rintro e w7 ⟨rfl, hb⟩
  replace HB := Aside0.mk (below_step HB.out hb)
  replace HXa := Aside0.mk (blk_below HXa.out hb)
  replace HXp := Aside0.mk (blk_below HXp.out hb)
  replace HXb := Aside0.mk (blk_below HXb.out hb)
  replace HXn := Aside0.mk (blk_below HXn.out hb)
  clear hb
  obtain ⟨ca0, ca1, ca2⟩ := zc3 HXa
  obtain ⟨cp0, cp1, cp2, cp3⟩ := zc4 HXp
  obtain ⟨cb0, cb1, cb2⟩ := zc3 HXb
  obtain ⟨cn0, cn1, cn2⟩ := zc3 HXn
  go_wp2_with fail
  clear ca0 ca1 ca2
  clear cp0 cp1 cp2 cp3
  clear cb0 cb1 cb2
  clear cn0 cn1 cn2
  refine (address_Format.calls _ _ _ _ _ lives06.e7 (HW.out.below HB.out)).mono ?_
  rintro e w8 ⟨rfl, hb⟩
  replace HB := Aside0.mk (below_step HB.out hb)
  replace HXa := Aside0.mk (blk_below HXa.out hb)
  replace HXp := Aside0.mk (blk_below HXp.out hb)
  replace HXb := Aside0.mk (blk_below HXb.out hb)
  replace HXn := Aside0.mk (blk_below HXn.out hb)
  clear hb
  obtain ⟨ca0, ca1, ca2⟩ := zc3 HXa
  obtain ⟨cp0, cp1, cp2, cp3⟩ := zc4 HXp
  obtain ⟨cb0, cb1, cb2⟩ := zc3 HXb
  obtain ⟨cn0, cn1, cn2⟩ := zc3 HXn
  go_wp2_with fail
  clear ca0 ca1 ca2
  clear cp0 cp1 cp2 cp3
  clear cb0 cb1 cb2
  clear cn0 cn1 cn2
  refine (address_Compare.calls _ _ _ _ _ _ _ _ lives06.e8).mono ?_
  rintro e w9 ⟨rfl, hb⟩
  replace HB := Aside0.mk (below_step HB.out hb)
  replace HXa := Aside0.mk (blk_below HXa.out hb)
  replace HXp := Aside0.mk (blk_below HXp.out hb)
  replace HXb := Aside0.mk (blk_below HXb.out hb)
  replace HXn := Aside0.mk (blk_below HXn.out hb)
  clear hb
  obtain ⟨ca0, ca1, ca2⟩ := zc3 HXa
  obtain ⟨cp0, cp1, cp2, cp3⟩ := zc4 HXp
  obtain ⟨cb0, cb1, cb2⟩ := zc3 HXb
  obtain ⟨cn0, cn1, cn2⟩ := zc3 HXn
  go_wp2_with fail
  exact bodyPost_ret (v := .bool true) (by simp [results, Tryd.results10, go_sem]) rfl ⟨rfl, HB.out⟩
end Go.Proofs.YtlgfinnldhjgeaaDoor.Q
end

section
namespace Go.Proofs.YtlgfinnldhjgeaaDoor.Q
open Go.RowKit Go.Proofs.YtlgfinnldhjgeaaDoorW.PrintWords Go.Proofs.YtlgfinnldhjgeaaDoorW.PrintLast Go.Proofs.YtlgfinnldhjgeaaDoorW.PrintMore
attribute [local go_sem] max2_int min2_int max_two min_two max_three min_three max_four min_four
set_option linter.unusedVariables false
set_option linter.unusedSimpArgs false
attribute [local go_sem high] eqA30 eqA43
mutual
def intrusionlaw06_AddressFormats.j0 : Nat → Int → Bool → Bool → Int → Int → Option (Bool)
  | 0, _, _, _, _, _ => none
  | k + 1, x1, x23, x479000, x479001, x479002 => if x23 = true then (some false) else ((intrusionref06_Valid.f x479000 x479001 x479002).bind fun t483 => (if t483 = true then ((address_MakePrefix.f x479000 x479001 x479002 x1).bind fun bt485 => ((intrusionref06_MakePrefix.f k x479000 x479001 x479002 x1).bind fun bt491 => (if ((!(bt485.1 == bt491.1) || (!(bt485.2.1 == bt491.2.1) || (!(bt485.2.2.1 == bt491.2.2.1)))) || (!(bt485.2.2.2.1 == bt491.2.2.2.1))) = true then (intrusionlaw06_AddressFormats.j1 k bt491.2.2.2.2 true bt491.1 bt491.2.1 bt491.2.2.1 bt491.2.2.2.1) else (if bt485.2.2.2.2 = bt491.2.2.2.2 then ((address_Format.f x479000 x479001 x479002).bind fun t497 => ((intrusionref06_Format.f k x479000 x479001 x479002).bind fun t498 => (if t497.toList = t498.toList then ((address_Bytes.f k x479000 x479001 x479002).bind fun t499 => ((intrusionref06_Bytes.f k x479000 x479001 x479002).bind fun t500 => (intrusionlaw06_AddressFormats.j1 k bt491.2.2.2.2 (t499.toList != t500.toList) bt491.1 bt491.2.1 bt491.2.2.1 bt491.2.2.2.1))) else (intrusionlaw06_AddressFormats.j1 k bt491.2.2.2.2 true bt491.1 bt491.2.1 bt491.2.2.1 bt491.2.2.2.1)))) else (intrusionlaw06_AddressFormats.j1 k bt491.2.2.2.2 true bt491.1 bt491.2.1 bt491.2.2.1 bt491.2.2.2.1))))) else ((intrusionlaw06_lives.f).bind fun t484 => (some t484))))
def intrusionlaw06_AddressFormats.j1 : Nat → Int → Bool → Bool → Int → Int → Int → Option (Bool)
  | 0, _, _, _, _, _, _ => none
  | k + 1, x9, x61, x497000, x497001, x497002, x497003 => if x61 = true then (some false) else (if x9 = 0 then ((address_FormatPrefix.f x497000 x497001 x497002 x497003).bind fun t501 => ((intrusionref06_FormatPrefix.f k x497000 x497001 x497002 x497003).bind fun t502 => (if t501.toList = t502.toList then ((address_Bounds.f x497000 x497001 x497002 x497003).bind fun bt503 => ((intrusionref06_Bounds.f k x497000 x497001 x497002 x497003).bind fun bt509 => (if ((!(bt503.1 == bt509.1) || (!(bt503.2.1 == bt509.2.1) || (!(bt503.2.2.1 == bt509.2.2.1)))) || ((!(bt503.2.2.2.1 == bt509.2.2.2.1) || (!(bt503.2.2.2.2.1 == bt509.2.2.2.2.1) || (!(bt503.2.2.2.2.2 == bt509.2.2.2.2.2)))))) = true then (some false) else ((intrusionlaw06_lives.f).bind fun t515 => (some t515))))) else (some false)))) else ((intrusionlaw06_lives.f).bind fun t516 => (some t516)))
end
def intrusionlaw06_AddressFormats.f (k : Nat) (a0_0 : Bool) (a0_1 : Int) (a0_2 : Int) (a0_3 : Int) (a1 : Int) : Option (Bool) := (address_Valid.f a0_0 a0_1 a0_2).bind fun t479 => ((intrusionref06_Valid.f a0_0 a0_1 a0_2).bind fun t480 => (if (t479 != t480) = true then (intrusionlaw06_AddressFormats.j0 k a1 true a0_0 a0_1 a0_2) else ((address_ValidPrefix.f a0_0 a0_1 a0_2 a0_3).bind fun t481 => ((intrusionref06_ValidPrefix.f k a0_0 a0_1 a0_2 a0_3).bind fun t482 => (intrusionlaw06_AddressFormats.j0 k a1 (t481 != t482) a0_0 a0_1 a0_2)))))
theorem intrusionlaw06_AddressFormats.mono_l : ∀ k, (∀ y0 y1 y2 y3 y4, LeO (intrusionlaw06_AddressFormats.j0 k y0 y1 y2 y3 y4) (intrusionlaw06_AddressFormats.j0 (k + 1) y0 y1 y2 y3 y4)) ∧ (∀ y0 y1 y2 y3 y4 y5, LeO (intrusionlaw06_AddressFormats.j1 k y0 y1 y2 y3 y4 y5) (intrusionlaw06_AddressFormats.j1 (k + 1) y0 y1 y2 y3 y4 y5))
  | 0 => ⟨fun _ _ _ _ _ r h => by simp [intrusionlaw06_AddressFormats.j0] at h, fun _ _ _ _ _ _ r h => by simp [intrusionlaw06_AddressFormats.j1] at h⟩
  | k + 1 => by
    obtain ⟨ih0, ih1⟩ := intrusionlaw06_AddressFormats.mono_l k
    refine ⟨?_, ?_⟩
    · intro y0 y1 y2 y3 y4
      unfold intrusionlaw06_AddressFormats.j0
      repeat' first
      | (with_reducible exact ih0 _ _ _ _ _)
      | (with_reducible exact ih1 _ _ _ _ _ _)
      | (with_reducible exact address_Bytes.mono _ _ _ _)
      | (with_reducible exact intrusionref06_Bounds.mono _ _ _ _ _)
      | (with_reducible exact intrusionref06_Bytes.mono _ _ _ _)
      | (with_reducible exact intrusionref06_Format.mono _ _ _ _)
      | (with_reducible exact intrusionref06_FormatPrefix.mono _ _ _ _ _)
      | (with_reducible exact intrusionref06_MakePrefix.mono _ _ _ _ _)
      | (with_reducible exact intrusionref06_ValidPrefix.mono _ _ _ _ _)
      | (with_reducible exact LeO.refl _)
      | (with_reducible exact LeO.none _)
      | (with_reducible refine LeO.ite ?_ ?_)
      | (with_reducible refine LeO.bind ?_ (fun _ => ?_))
      | exact ih0 _ _ _ _ _
      | exact ih1 _ _ _ _ _ _
      | exact address_Bytes.mono _ _ _ _
      | exact intrusionref06_Bounds.mono _ _ _ _ _
      | exact intrusionref06_Bytes.mono _ _ _ _
      | exact intrusionref06_Format.mono _ _ _ _
      | exact intrusionref06_FormatPrefix.mono _ _ _ _ _
      | exact intrusionref06_MakePrefix.mono _ _ _ _ _
      | exact intrusionref06_ValidPrefix.mono _ _ _ _ _
      | exact LeO.none _
      | refine LeO.ite ?_ ?_
      | refine LeO.bind ?_ (fun _ => ?_)
    · intro y0 y1 y2 y3 y4 y5
      unfold intrusionlaw06_AddressFormats.j1
      repeat' first
      | (with_reducible exact ih0 _ _ _ _ _)
      | (with_reducible exact ih1 _ _ _ _ _ _)
      | (with_reducible exact address_Bytes.mono _ _ _ _)
      | (with_reducible exact intrusionref06_Bounds.mono _ _ _ _ _)
      | (with_reducible exact intrusionref06_Bytes.mono _ _ _ _)
      | (with_reducible exact intrusionref06_Format.mono _ _ _ _)
      | (with_reducible exact intrusionref06_FormatPrefix.mono _ _ _ _ _)
      | (with_reducible exact intrusionref06_MakePrefix.mono _ _ _ _ _)
      | (with_reducible exact intrusionref06_ValidPrefix.mono _ _ _ _ _)
      | (with_reducible exact LeO.refl _)
      | (with_reducible exact LeO.none _)
      | (with_reducible refine LeO.ite ?_ ?_)
      | (with_reducible refine LeO.bind ?_ (fun _ => ?_))
      | exact ih0 _ _ _ _ _
      | exact ih1 _ _ _ _ _ _
      | exact address_Bytes.mono _ _ _ _
      | exact intrusionref06_Bounds.mono _ _ _ _ _
      | exact intrusionref06_Bytes.mono _ _ _ _
      | exact intrusionref06_Format.mono _ _ _ _
      | exact intrusionref06_FormatPrefix.mono _ _ _ _ _
      | exact intrusionref06_MakePrefix.mono _ _ _ _ _
      | exact intrusionref06_ValidPrefix.mono _ _ _ _ _
      | exact LeO.none _
      | refine LeO.ite ?_ ?_
      | refine LeO.bind ?_ (fun _ => ?_)
theorem intrusionlaw06_AddressFormats.mono : ∀ a0 a1 a2 a3 a4 k, LeO (intrusionlaw06_AddressFormats.f k a0 a1 a2 a3 a4) (intrusionlaw06_AddressFormats.f (k + 1) a0 a1 a2 a3 a4) := by
  intro a0 a1 a2 a3 a4 k
  obtain ⟨ih0, ih1⟩ := intrusionlaw06_AddressFormats.mono_l k
  unfold intrusionlaw06_AddressFormats.f
  repeat' first
      | (with_reducible exact ih0 _ _ _ _ _)
      | (with_reducible exact ih1 _ _ _ _ _ _)
      | (with_reducible exact address_Bytes.mono _ _ _ _)
      | (with_reducible exact intrusionref06_Bounds.mono _ _ _ _ _)
      | (with_reducible exact intrusionref06_Bytes.mono _ _ _ _)
      | (with_reducible exact intrusionref06_Format.mono _ _ _ _)
      | (with_reducible exact intrusionref06_FormatPrefix.mono _ _ _ _ _)
      | (with_reducible exact intrusionref06_MakePrefix.mono _ _ _ _ _)
      | (with_reducible exact intrusionref06_ValidPrefix.mono _ _ _ _ _)
      | (with_reducible exact LeO.refl _)
      | (with_reducible exact LeO.none _)
      | (with_reducible refine LeO.ite ?_ ?_)
      | (with_reducible refine LeO.bind ?_ (fun _ => ?_))
      | exact ih0 _ _ _ _ _
      | exact ih1 _ _ _ _ _ _
      | exact address_Bytes.mono _ _ _ _
      | exact intrusionref06_Bounds.mono _ _ _ _ _
      | exact intrusionref06_Bytes.mono _ _ _ _
      | exact intrusionref06_Format.mono _ _ _ _
      | exact intrusionref06_FormatPrefix.mono _ _ _ _ _
      | exact intrusionref06_MakePrefix.mono _ _ _ _ _
      | exact intrusionref06_ValidPrefix.mono _ _ _ _ _
      | exact LeO.none _
      | refine LeO.ite ?_ ?_
      | refine LeO.bind ?_ (fun _ => ?_)
def intrusionlaw06_AddressFormats.T2 : Bool × List (List Nat × List Nat) := (true, [([], []), ([0], [0]), ([], []), ([2, 1], [2]), ([1, 3], [1, 3]), ([4, 3], [4]), ([5], [5]), ([6, 5, 5], [5, 6]), ([5], [5]), ([8, 7, 5], [5, 8]), ([7, 9, 5], [5, 7, 9]), ([5, 10], [5, 10])])
def intrusionlaw06_AddressFormats.B2 : List Nat := [0, 1, 0, 7, 15, 31, 63, 127, 63, 511, 1023, 2047]
theorem intrusionlaw06_AddressFormats.tab2 : rtab .any (opsOf Tryd.f8 2) = intrusionlaw06_AddressFormats.T2 := by kernel_rfl
theorem intrusionlaw06_AddressFormats.bits2 : waitsOk intrusionlaw06_AddressFormats.T2.2 intrusionlaw06_AddressFormats.B2 = true := by kernel_rfl
def intrusionlaw06_AddressFormats.T8 : Bool × List (List Nat × List Nat) := (true, [([], []), ([], []), ([0, 1], [0, 1]), ([2], [2]), ([3], [3]), ([3], [3]), ([4, 5, 3], [3, 4, 5]), ([3, 6], [3, 6]), ([7, 3], [7]), ([8], [8]), ([9, 8, 8], [8, 9]), ([8], [8]), ([11, 10, 8], [8, 11]), ([10, 12, 8], [8, 10, 12]), ([8, 13], [8, 13]), ([14, 12], [14]), ([15], [15]), ([16, 15, 15], [15, 16]), ([15], [15]), ([18, 17, 15], [15, 18]), ([17, 19, 15], [15, 17, 19]), ([15, 20], [15, 20])])
def intrusionlaw06_AddressFormats.B8 : List Nat := [0, 0, 3, 7, 15, 15, 63, 127, 255, 511, 1023, 511, 4095, 8191, 16383, 32767, 65535, 131071, 65535, 524287, 1048575, 2097151]
theorem intrusionlaw06_AddressFormats.tab8 : rtab .any (opsOf Tryd.f8 8) = intrusionlaw06_AddressFormats.T8 := by kernel_rfl
theorem intrusionlaw06_AddressFormats.bits8 : waitsOk intrusionlaw06_AddressFormats.T8.2 intrusionlaw06_AddressFormats.B8 = true := by kernel_rfl
def intrusionlaw06_AddressFormats.T10 : Bool × List (List Nat × List Nat) := (true, [([], []), ([0], [0]), ([1], [1]), ([2], [2]), ([3, 2, 2], [2, 3]), ([2], [2]), ([5, 4, 2], [2, 5]), ([4, 6, 2], [2, 4, 6]), ([7, 6, 2], [2, 7]), ([8], [8]), ([9, 8, 8], [8, 9]), ([8], [8]), ([11, 10, 8], [8, 11]), ([10, 12, 8], [8, 10, 12]), ([8, 13, 2], [2, 8, 13]), ([2, 14], [2, 14])])
def intrusionlaw06_AddressFormats.B10 : List Nat := [0, 1, 3, 7, 15, 7, 63, 127, 255, 511, 1023, 511, 4095, 8191, 16383, 32767]
theorem intrusionlaw06_AddressFormats.tab10 : rtab .any (opsOf Tryd.f8 10) = intrusionlaw06_AddressFormats.T10 := by kernel_rfl
theorem intrusionlaw06_AddressFormats.bits10 : waitsOk intrusionlaw06_AddressFormats.T10.2 intrusionlaw06_AddressFormats.B10 = true := by kernel_rfl
set_option maxHeartbeats 8000000 in
set_option maxRecDepth 100000 in
theorem intrusionlaw06_AddressFormats.calls (k : Nat) (a0_0 : Bool) (a0_1 : Int) (a0_2 : Int) (a0_3 : Int) (a1 : Int) (r : Bool) (w : World) (h : intrusionlaw06_AddressFormats.f k a0_0 a0_1 a0_2 a0_3 a1 = some r) (hW_ : WOK w) :
 Calls Tryd.prog 8 #[.agg #[.bool a0_0, .int .u64 a0_1, .int .u64 a0_2, .int .i64 a0_3], .int .i64 a1] w fun e w' => e = .returned (.bool r) ∧ Below w.heap.size w w' := by
 have hu30 := Tryd.underlying30
 have hu25 := Tryd.underlying25
 have HB := Aside0.mk (Below.refl w.heap.size w)
 unfold intrusionlaw06_AddressFormats.f at h; have H := h
 clear h
 have HC3 := Aside0.mk H
 clear H
 go_enter Tryd.func8, Tryd.ntmps8
 go_upto_region 2 with (first | ((with_reducible refine gate_dst (N := 2) rfl ?_); refine zx 2 #[.bool a0_0, .int .u64 a0_1, .int .u64 a0_2, .int .i64 a0_3] 30 ?_; intro gb477 hg w4 hbox hb; have BK477 := Aside0.mk (hbox); have GW477 := Aside0.mk ((by rw [hg]; exact (below_size (zB HB)) : w.heap.size ≤ gb477)); have GE477 := Aside0.mk ((by rw [hg]; exact (below_size (zB HB)) : w.heap.size ≤ gb477)); replace HB := Aside0.mk (below_step (zB HB) hb); clear hb hbox hg; obtain ⟨hcz5_0, hcz5_1, hcz5_2, hcz5_3⟩ := zc4 BK477; obtain ⟨hfz5_0, hfz5_1, hfz5_2, hfz5_3⟩ := zf4 BK477) | ((with_reducible refine gate_dst (N := 5) rfl ?_); refine zx 5 #[.bool false, .int .u64 0, .int .u64 0] 25 ?_; intro gb478 hg w6 hbox hb; have BK478 := Aside0.mk (hbox); have GW478 := Aside0.mk ((by rw [hg]; exact (below_size (zB HB)) : w.heap.size ≤ gb478)); have GE478 := Aside0.mk ((by rw [hg]; exact (below_size (zB HB)) : w.heap.size ≤ gb478)); replace HB := Aside0.mk (below_step (zB HB) hb); have NB477_478 := Aside0.mk ((by rw [hg]; exact Nat.ne_of_lt (blk_lt (g := gb477) (o := .cells #[.bool a0_0, .int .u64 a0_1, .int .u64 a0_2, .int .i64 a0_3] 30 (0, 0)) (zK BK477)) : gb477 ≠ gb478)); have NB478_477 := Aside0.mk ((by rw [hg]; exact Nat.ne_of_gt (blk_lt (g := gb477) (o := .cells #[.bool a0_0, .int .u64 a0_1, .int .u64 a0_2, .int .i64 a0_3] 30 (0, 0)) (zK BK477)) : gb478 ≠ gb477)); replace BK477 := Aside0.mk (blk_below (g := gb477) (o := .cells #[.bool a0_0, .int .u64 a0_1, .int .u64 a0_2, .int .i64 a0_3] 30 (0, 0)) (zK BK477) hb); clear hb hbox hg; have hnb7 := NB478_477.out; have hnc7 := NB477_478.out; obtain ⟨hcz8_0, hcz8_1, hcz8_2⟩ := zc3 BK478; obtain ⟨hfz8_0, hfz8_1, hfz8_2⟩ := zf3 BK478))
 (try simp only [Act.put, List.setIfInBounds_toArray, List.set_cons_zero, List.set_cons_succ])
 go_cut [23] (fun v23 wc => ∃ (kq : Nat) (x23_2 : Bool), v23 = .bool x23_2 ∧ Aside0 (intrusionlaw06_AddressFormats.j0 kq a1 x23_2 a0_0 a0_1 a0_2 = some r) ∧ Aside0 (kq ≤ k) ∧ Aside0 (wc.heap[gb477]? = some (.cells #[.bool a0_0, .int .u64 a0_1, .int .u64 a0_2, .int .i64 a0_3] 30 (0, 0))) ∧ Aside0 (wc.heap[gb478]? = some (.cells #[.bool a0_0, .int .u64 a0_1, .int .u64 a0_2] 25 (0, 0))) ∧ Aside0 (Below w.heap.size w wc))
 case first =>
  have H := HC3.out
  clear HC3
  replace H := Option.bind_eq_some_iff.mp H
  obtain ⟨t479, A90, H⟩ := H
  try dsimp only at H
  have A9 := Aside0.mk A90
  clear A90
  replace H := Option.bind_eq_some_iff.mp H
  obtain ⟨t480, A100, H⟩ := H
  try dsimp only at H
  have A10 := Aside0.mk A100
  clear A100
  by_cases c11 : (t479 != t480) = true
  · rw [if_pos c11] at H
    have c11b0 : (t479 != t480) = true := c11
    (try (have c11b1 : decide (t479 = t480) = false := by first | (simpa using c11) | exact decide_eq_true (Decidable.not_not.1 (fun hn => c11 (bne_iff_ne.2 hn))) | exact beq_iff_eq.2 (Decidable.not_not.1 (fun hn => c11 (bne_iff_ne.2 hn))) | exact decide_eq_false (bne_iff_ne.1 c11) | exact beq_eq_false_iff_ne.2 (bne_iff_ne.1 c11) | exact bne_iff_ne.1 c11))
    (try (have c11b2 : (t479 == t480) = false := by first | (simpa using c11) | exact decide_eq_true (Decidable.not_not.1 (fun hn => c11 (bne_iff_ne.2 hn))) | exact beq_iff_eq.2 (Decidable.not_not.1 (fun hn => c11 (bne_iff_ne.2 hn))) | exact decide_eq_false (bne_iff_ne.1 c11) | exact beq_eq_false_iff_ne.2 (bne_iff_ne.1 c11) | exact bne_iff_ne.1 c11))
    (try (have c11b3 : ¬ (t479 = t480) := by first | (simpa using c11) | exact decide_eq_true (Decidable.not_not.1 (fun hn => c11 (bne_iff_ne.2 hn))) | exact beq_iff_eq.2 (Decidable.not_not.1 (fun hn => c11 (bne_iff_ne.2 hn))) | exact decide_eq_false (bne_iff_ne.1 c11) | exact beq_eq_false_iff_ne.2 (bne_iff_ne.1 c11) | exact bne_iff_ne.1 c11))
    clear c11
    (first | rw [c11b0] | (simp only [i64_w, i32_w]; rw [c11b0]) | skip)
    have H' := Aside0.mk H
    clear H
    try go_wp2
    have n0_ : Aside0 ((((w6.setCell ⟨gb478, 0, none⟩ (.bool a0_0)).setCell ⟨gb478, 1, none⟩ (.int .u64 a0_1)).setCell ⟨gb478, 2, none⟩ (.int .u64 a0_2)).heap[gb477]? = some (.cells #[.bool a0_0, .int .u64 a0_1, .int .u64 a0_2, .int .i64 a0_3] 30 (0, 0))) := ⟨by refine zL ?_; refine blk_far ?_ NB477_478.out _; refine zL ?_; refine blk_far ?_ NB477_478.out _; refine zL ?_; refine blk_far ?_ NB477_478.out _; refine zL ?_; exact BK477.out⟩
    have n1_ : Aside0 ((((w6.setCell ⟨gb478, 0, none⟩ (.bool a0_0)).setCell ⟨gb478, 1, none⟩ (.int .u64 a0_1)).setCell ⟨gb478, 2, none⟩ (.int .u64 a0_2)).heap[gb478]? = some (.cells #[.bool a0_0, .int .u64 a0_1, .int .u64 a0_2] 25 (0, 0))) := ⟨by refine zL ?_; refine blk_put (cs := #[.bool a0_0, .int .u64 a0_1, .int .u64 0]) ?_ 2 _ rfl; refine zL ?_; refine blk_put (cs := #[.bool a0_0, .int .u64 0, .int .u64 0]) ?_ 1 _ rfl; refine zL ?_; refine blk_put (cs := #[.bool false, .int .u64 0, .int .u64 0]) ?_ 0 _ rfl; refine zL ?_; exact BK478.out⟩
    have n2_ : Aside0 (Below w.heap.size w (((w6.setCell ⟨gb478, 0, none⟩ (.bool a0_0)).setCell ⟨gb478, 1, none⟩ (.int .u64 a0_1)).setCell ⟨gb478, 2, none⟩ (.int .u64 a0_2))) := ⟨zB HB⟩
    (try clear BK477)
    (try clear BK478)
    (try clear HB)
    generalize (((w6.setCell ⟨gb478, 0, none⟩ (.bool a0_0)).setCell ⟨gb478, 1, none⟩ (.int .u64 a0_1)).setCell ⟨gb478, 2, none⟩ (.int .u64 a0_2)) = w12 at n0_ n1_ n2_ ⊢
    have BK477 := n0_
    have BK478 := n1_
    have HB := n2_
    clear n0_ n1_ n2_
    replace BK477 := Aside0.mk (blk_drew BK477.out)
    replace BK478 := Aside0.mk (blk_drew BK478.out)
    replace HB := Aside0.mk (below_drew1 HB.out)
    refine start_ (n := 12) (S := fun w' => w'.cell? ⟨gb478, 0, none⟩ = some (.bool a0_0) ∧ w'.cell? ⟨gb478, 1, none⟩ = some (.int .u64 a0_1) ∧ w'.cell? ⟨gb478, 2, none⟩ = some (.int .u64 a0_2)) (ds := []) #[false, false, false, false, false, false, false, false, false, false, false, false] (by kernel_rfl) rfl rfl ⟨zc BK478 0, zc BK478 1, zc BK478 2⟩ (fun hHeld => ?_); refine with_tabW intrusionlaw06_AddressFormats.tab2 intrusionlaw06_AddressFormats.bits2 (fun HT_ HW_ => ?_)
    generalize w12.drew = w13 at BK477 BK478 HB hHeld ⊢
    refine zt 0 12 HT_ HW_ hHeld ?_; refine zt 2 14 HT_ HW_ hHeld ?_; refine zo 1 13 HT_ (fun K hK => ?_)
    refine zg Tryd.func25 #[.agg #[.bool a0_0, .int .u64 a0_1, .int .u64 a0_2]] ?_
    with_reducible refine (address_Valid.calls a0_0 a0_1 a0_2 t479 _ A9.out).mono ?_
    rintro e w14 ⟨rfl, hb⟩
    refine ⟨_, rfl, ?_⟩
    replace BK477 := Aside0.mk (blk_below (g := gb477) (o := .cells #[.bool a0_0, .int .u64 a0_1, .int .u64 a0_2, .int .i64 a0_3] 30 (0, 0)) (zK BK477) hb)
    replace BK478 := Aside0.mk (blk_below (g := gb478) (o := .cells #[.bool a0_0, .int .u64 a0_1, .int .u64 a0_2] 25 (0, 0)) (zK BK478) hb)
    replace HB := Aside0.mk (below_step (zB HB) hb)
    (try clear hb)
    refine hK.out _ _ ⟨zc BK478 0, zc BK478 1, zc BK478 2⟩ (fun hHeld => ?_)
    clear hK K
    refine zn 13 ?_; refine zo 3 15 HT_ (fun K hK => ?_)
    refine zg Tryd.func15 #[.agg #[.bool a0_0, .int .u64 a0_1, .int .u64 a0_2]] ?_
    with_reducible refine (intrusionref06_Valid.calls a0_0 a0_1 a0_2 t480 _ A10.out).mono ?_
    rintro e w15 ⟨rfl, hb⟩
    refine ⟨_, rfl, ?_⟩
    replace BK477 := Aside0.mk (blk_below (g := gb477) (o := .cells #[.bool a0_0, .int .u64 a0_1, .int .u64 a0_2, .int .i64 a0_3] 30 (0, 0)) (zK BK477) hb)
    replace BK478 := Aside0.mk (blk_below (g := gb478) (o := .cells #[.bool a0_0, .int .u64 a0_1, .int .u64 a0_2] 25 (0, 0)) (zK BK478) hb)
    replace HB := Aside0.mk (below_step (zB HB) hb)
    (try clear hb)
    refine hK.out _ _ ⟨zc BK478 0, zc BK478 1, zc BK478 2⟩ (fun hHeld => ?_)
    clear hK K
    refine zn 15 ?_; refine zp 4 16 HT_ ?_; refine zp 5 17 HT_ ?_; refine zu 6 18 HT_ ?_; refine zu 7 19 HT_ ?_; refine zu 8 20 HT_ ?_; refine zu 9 21 HT_ ?_; refine zu 10 22 HT_ ?_; refine zp 11 23 HT_ ?_; refine zd HT_ ?_
    try go_wp2
    go_meet
    case rel => exact ⟨_, (true), (by first | rfl | (simp; done) | (simp [*]; done)), H', ⟨by first | omega | exact Nat.le_refl _⟩, ⟨zK BK477⟩, ⟨zK BK478⟩, ⟨zB HB⟩⟩
  · rw [if_neg c11] at H
    have c11b0 : (t479 != t480) = false := by simpa using c11
    (try (have c11b1 : decide (t479 = t480) = true := by first | (simpa using c11) | exact decide_eq_true (Decidable.not_not.1 (fun hn => c11 (bne_iff_ne.2 hn))) | exact beq_iff_eq.2 (Decidable.not_not.1 (fun hn => c11 (bne_iff_ne.2 hn))) | exact decide_eq_false (bne_iff_ne.1 c11) | exact beq_eq_false_iff_ne.2 (bne_iff_ne.1 c11) | exact bne_iff_ne.1 c11))
    (try (have c11b2 : (t479 == t480) = true := by first | (simpa using c11) | exact decide_eq_true (Decidable.not_not.1 (fun hn => c11 (bne_iff_ne.2 hn))) | exact beq_iff_eq.2 (Decidable.not_not.1 (fun hn => c11 (bne_iff_ne.2 hn))) | exact decide_eq_false (bne_iff_ne.1 c11) | exact beq_eq_false_iff_ne.2 (bne_iff_ne.1 c11) | exact bne_iff_ne.1 c11))
    clear c11
    (first | rw [c11b0] | (simp only [i64_w, i32_w]; rw [c11b0]) | skip)
    replace H := Option.bind_eq_some_iff.mp H
    obtain ⟨t481, A160, H⟩ := H
    try dsimp only at H
    have A16 := Aside0.mk A160
    clear A160
    replace H := Option.bind_eq_some_iff.mp H
    obtain ⟨t482, A170, H⟩ := H
    try dsimp only at H
    have A17 := Aside0.mk A170
    clear A170
    have H' := Aside0.mk H
    clear H
    try go_wp2
    have n0_ : Aside0 ((((w6.setCell ⟨gb478, 0, none⟩ (.bool a0_0)).setCell ⟨gb478, 1, none⟩ (.int .u64 a0_1)).setCell ⟨gb478, 2, none⟩ (.int .u64 a0_2)).heap[gb477]? = some (.cells #[.bool a0_0, .int .u64 a0_1, .int .u64 a0_2, .int .i64 a0_3] 30 (0, 0))) := ⟨by refine zL ?_; refine blk_far ?_ NB477_478.out _; refine zL ?_; refine blk_far ?_ NB477_478.out _; refine zL ?_; refine blk_far ?_ NB477_478.out _; refine zL ?_; exact BK477.out⟩
    have n1_ : Aside0 ((((w6.setCell ⟨gb478, 0, none⟩ (.bool a0_0)).setCell ⟨gb478, 1, none⟩ (.int .u64 a0_1)).setCell ⟨gb478, 2, none⟩ (.int .u64 a0_2)).heap[gb478]? = some (.cells #[.bool a0_0, .int .u64 a0_1, .int .u64 a0_2] 25 (0, 0))) := ⟨by refine zL ?_; refine blk_put (cs := #[.bool a0_0, .int .u64 a0_1, .int .u64 0]) ?_ 2 _ rfl; refine zL ?_; refine blk_put (cs := #[.bool a0_0, .int .u64 0, .int .u64 0]) ?_ 1 _ rfl; refine zL ?_; refine blk_put (cs := #[.bool false, .int .u64 0, .int .u64 0]) ?_ 0 _ rfl; refine zL ?_; exact BK478.out⟩
    have n2_ : Aside0 (Below w.heap.size w (((w6.setCell ⟨gb478, 0, none⟩ (.bool a0_0)).setCell ⟨gb478, 1, none⟩ (.int .u64 a0_1)).setCell ⟨gb478, 2, none⟩ (.int .u64 a0_2))) := ⟨zB HB⟩
    (try clear BK477)
    (try clear BK478)
    (try clear HB)
    generalize (((w6.setCell ⟨gb478, 0, none⟩ (.bool a0_0)).setCell ⟨gb478, 1, none⟩ (.int .u64 a0_1)).setCell ⟨gb478, 2, none⟩ (.int .u64 a0_2)) = w18 at n0_ n1_ n2_ ⊢
    have BK477 := n0_
    have BK478 := n1_
    have HB := n2_
    clear n0_ n1_ n2_
    replace BK477 := Aside0.mk (blk_drew BK477.out)
    replace BK478 := Aside0.mk (blk_drew BK478.out)
    replace HB := Aside0.mk (below_drew1 HB.out)
    refine start_ (n := 12) (S := fun w' => w'.cell? ⟨gb478, 0, none⟩ = some (.bool a0_0) ∧ w'.cell? ⟨gb478, 1, none⟩ = some (.int .u64 a0_1) ∧ w'.cell? ⟨gb478, 2, none⟩ = some (.int .u64 a0_2) ∧ w'.cell? ⟨gb477, 0, none⟩ = some (.bool a0_0) ∧ w'.cell? ⟨gb477, 1, none⟩ = some (.int .u64 a0_1) ∧ w'.cell? ⟨gb477, 2, none⟩ = some (.int .u64 a0_2) ∧ w'.cell? ⟨gb477, 3, none⟩ = some (.int .i64 a0_3)) (ds := []) #[false, false, false, false, false, false, false, false, false, false, false, false] (by kernel_rfl) rfl rfl ⟨zc BK478 0, zc BK478 1, zc BK478 2, zc BK477 0, zc BK477 1, zc BK477 2, zc BK477 3⟩ (fun hHeld => ?_); refine with_tabW intrusionlaw06_AddressFormats.tab2 intrusionlaw06_AddressFormats.bits2 (fun HT_ HW_ => ?_)
    generalize w18.drew = w19 at BK477 BK478 HB hHeld ⊢
    refine zt 0 12 HT_ HW_ hHeld ?_; refine zt 2 14 HT_ HW_ hHeld ?_; refine zo 1 13 HT_ (fun K hK => ?_)
    refine zg Tryd.func25 #[.agg #[.bool a0_0, .int .u64 a0_1, .int .u64 a0_2]] ?_
    with_reducible refine (address_Valid.calls a0_0 a0_1 a0_2 t479 _ A9.out).mono ?_
    rintro e w20 ⟨rfl, hb⟩
    refine ⟨_, rfl, ?_⟩
    replace BK477 := Aside0.mk (blk_below (g := gb477) (o := .cells #[.bool a0_0, .int .u64 a0_1, .int .u64 a0_2, .int .i64 a0_3] 30 (0, 0)) (zK BK477) hb)
    replace BK478 := Aside0.mk (blk_below (g := gb478) (o := .cells #[.bool a0_0, .int .u64 a0_1, .int .u64 a0_2] 25 (0, 0)) (zK BK478) hb)
    replace HB := Aside0.mk (below_step (zB HB) hb)
    (try clear hb)
    refine hK.out _ _ ⟨zc BK478 0, zc BK478 1, zc BK478 2, zc BK477 0, zc BK477 1, zc BK477 2, zc BK477 3⟩ (fun hHeld => ?_)
    clear hK K
    refine zn 13 ?_; refine zo 3 15 HT_ (fun K hK => ?_)
    refine zg Tryd.func15 #[.agg #[.bool a0_0, .int .u64 a0_1, .int .u64 a0_2]] ?_
    with_reducible refine (intrusionref06_Valid.calls a0_0 a0_1 a0_2 t480 _ A10.out).mono ?_
    rintro e w21 ⟨rfl, hb⟩
    refine ⟨_, rfl, ?_⟩
    replace BK477 := Aside0.mk (blk_below (g := gb477) (o := .cells #[.bool a0_0, .int .u64 a0_1, .int .u64 a0_2, .int .i64 a0_3] 30 (0, 0)) (zK BK477) hb)
    replace BK478 := Aside0.mk (blk_below (g := gb478) (o := .cells #[.bool a0_0, .int .u64 a0_1, .int .u64 a0_2] 25 (0, 0)) (zK BK478) hb)
    replace HB := Aside0.mk (below_step (zB HB) hb)
    (try clear hb)
    refine hK.out _ _ ⟨zc BK478 0, zc BK478 1, zc BK478 2, zc BK477 0, zc BK477 1, zc BK477 2, zc BK477 3⟩ (fun hHeld => ?_)
    clear hK K
    refine zn 15 ?_; refine zp 4 16 HT_ ?_; refine zp 5 17 HT_ ?_; refine zt 6 18 HT_ HW_ hHeld ?_; refine zt 8 20 HT_ HW_ hHeld ?_; refine zo 7 19 HT_ (fun K hK => ?_)
    refine zg Tryd.func31 #[.agg #[.bool a0_0, .int .u64 a0_1, .int .u64 a0_2, .int .i64 a0_3]] ?_
    with_reducible refine (address_ValidPrefix.calls a0_0 a0_1 a0_2 a0_3 t481 _ A16.out).mono ?_
    rintro e w22 ⟨rfl, hb⟩
    refine ⟨_, rfl, ?_⟩
    replace BK477 := Aside0.mk (blk_below (g := gb477) (o := .cells #[.bool a0_0, .int .u64 a0_1, .int .u64 a0_2, .int .i64 a0_3] 30 (0, 0)) (zK BK477) hb)
    replace BK478 := Aside0.mk (blk_below (g := gb478) (o := .cells #[.bool a0_0, .int .u64 a0_1, .int .u64 a0_2] 25 (0, 0)) (zK BK478) hb)
    replace HB := Aside0.mk (below_step (zB HB) hb)
    (try clear hb)
    refine hK.out _ _ ⟨zc BK478 0, zc BK478 1, zc BK478 2, zc BK477 0, zc BK477 1, zc BK477 2, zc BK477 3⟩ (fun hHeld => ?_)
    clear hK K
    refine zn 19 ?_; refine zo 9 21 HT_ (fun K hK => ?_)
    refine zg Tryd.func32 #[.agg #[.bool a0_0, .int .u64 a0_1, .int .u64 a0_2, .int .i64 a0_3]] ?_
    with_reducible refine (intrusionref06_ValidPrefix.calls k a0_0 a0_1 a0_2 a0_3 t482 _ A17.out).mono ?_
    rintro e w23 ⟨rfl, hb⟩
    refine ⟨_, rfl, ?_⟩
    replace BK477 := Aside0.mk (blk_below (g := gb477) (o := .cells #[.bool a0_0, .int .u64 a0_1, .int .u64 a0_2, .int .i64 a0_3] 30 (0, 0)) (zK BK477) hb)
    replace BK478 := Aside0.mk (blk_below (g := gb478) (o := .cells #[.bool a0_0, .int .u64 a0_1, .int .u64 a0_2] 25 (0, 0)) (zK BK478) hb)
    replace HB := Aside0.mk (below_step (zB HB) hb)
    (try clear hb)
    refine hK.out _ _ ⟨zc BK478 0, zc BK478 1, zc BK478 2, zc BK477 0, zc BK477 1, zc BK477 2, zc BK477 3⟩ (fun hHeld => ?_)
    clear hK K
    refine zn 21 ?_; refine zp 10 22 HT_ ?_; refine zp 11 23 HT_ ?_; refine zd HT_ ?_
    try go_wp2
    go_meet
    case rel => exact ⟨_, ((t481 != t482)), (by first | rfl | (simp; done) | (simp [*]; done)), H', ⟨by first | omega | exact Nat.le_refl _⟩, ⟨zK BK477⟩, ⟨zK BK478⟩, ⟨zB HB⟩⟩
 case rest =>
  clear HC3
  try clear c1
  try clear c2
  try clear p2
  try clear c3
  try clear c7
  try clear c8
  try clear c11
  try clear c11b0
  try clear c11b1
  try clear c11b2
  try clear c15
  try clear hcz5_0
  try clear hcz5_1
  try clear hcz5_2
  try clear hcz5_3
  try clear hcz8_0
  try clear hcz8_1
  try clear hcz8_2
  try clear hfz5_0
  try clear hfz5_1
  try clear hfz5_2
  try clear hfz5_3
  try clear hfz8_0
  try clear hfz8_1
  try clear hfz8_2
  obtain ⟨kq, x23_2, rfl, HA, HJ2, BK477, BK478, HB⟩ := hcut
  cases kq with
  | zero => exact absurd HA.out (by simp [intrusionlaw06_AddressFormats.j0])
  | succ kj2 =>
   have H := HA.out
   clear HA
   simp only [intrusionlaw06_AddressFormats.j0] at H
   by_cases c24 : x23_2 = true
   · subst c24
     rw [if_pos rfl] at H
     obtain rfl := Option.some.inj H
     go_wp2
     go_ret
     exact ⟨by first | rfl | (simp [errW_none, errW_some] <;> rfl) | (simp [*, errW_none, errW_some] <;> rfl), by repeat (first | (with_reducible first | exact HB.out | apply below_alloc | apply pw_below_drewN | apply below_drew1 | refine below_set ?_ GE477.out | refine below_set ?_ GE478.out) | exact HB.out)⟩
   · replace c24 := Bool.eq_false_iff.mpr c24
     subst c24
     rw [if_neg zF] at H
     replace H := Option.bind_eq_some_iff.mp H
     obtain ⟨t483, A250, H⟩ := H
     try dsimp only at H
     have A25 := Aside0.mk A250
     clear A250
     by_cases c26 : t483 = true
     · subst c26
       rw [if_pos rfl] at H
       replace H := Option.bind_eq_some_iff.mp H
       obtain ⟨⟨t485, t486, t487, t488, t489⟩, A270, H⟩ := H
       try dsimp only at H
       have A27 := Aside0.mk A270
       clear A270
       replace H := Option.bind_eq_some_iff.mp H
       obtain ⟨⟨t491, t492, t493, t494, t495⟩, A280, H⟩ := H
       try dsimp only at H
       have A28 := Aside0.mk A280
       clear A280
       have HC29 := Aside0.mk H
       clear H
       have hnb30 := NB478_477.out
       have hnc30 := NB477_478.out
       obtain ⟨hcz31_0, hcz31_1, hcz31_2⟩ := zc3 BK478
       obtain ⟨hfz31_0, hfz31_1, hfz31_2⟩ := zf3 BK478
       go_upto_region 8 with (first | ((with_reducible refine gate_callee (f := 15) rfl ?_); refine goesL_ (some 25) rfl rfl Tryd.func15 (by kernel_rfl) rfl #[.agg #[.bool a0_0, .int .u64 a0_1, .int .u64 a0_2]] rfl (by (try simp only [List.map_toArray, List.map_cons, List.map_nil]); first | done | rfl | (simp only [List.length_drop, List.length_take]; rfl)) ?_; (with_reducible refine (intrusionref06_Valid.calls a0_0 a0_1 a0_2 true _ A25.out).mono ?_); rintro e w32 ⟨rfl, hb⟩; refine ⟨_, rfl, ?_⟩; replace BK477 := Aside0.mk (blk_below (g := gb477) (o := .cells #[.bool a0_0, .int .u64 a0_1, .int .u64 a0_2, .int .i64 a0_3] 30 (0, 0)) (zK BK477) hb); replace BK478 := Aside0.mk (blk_below (g := gb478) (o := .cells #[.bool a0_0, .int .u64 a0_1, .int .u64 a0_2] 25 (0, 0)) (zK BK478) hb); replace HB := Aside0.mk (below_step (zB HB) hb); (try clear hb); obtain ⟨hcz33_0, hcz33_1, hcz33_2⟩ := zc3 BK478; obtain ⟨hfz33_0, hfz33_1, hfz33_2⟩ := zf3 BK478) | ((with_reducible refine gate_callee (f := 26) rfl ?_); refine goesL_ (some 31) rfl rfl Tryd.func26 (by kernel_rfl) rfl #[.agg #[.bool a0_0, .int .u64 a0_1, .int .u64 a0_2], .int .i64 a1] rfl (by (try simp only [List.map_toArray, List.map_cons, List.map_nil]); first | done | rfl | (simp only [List.length_drop, List.length_take]; rfl)) ?_; (with_reducible refine (address_MakePrefix.calls a0_0 a0_1 a0_2 a1 t485 t486 t487 t488 t489 _ A27.out).mono ?_); rintro e w34 ⟨rfl, hb⟩; refine ⟨_, rfl, ?_⟩; replace BK477 := Aside0.mk (blk_below (g := gb477) (o := .cells #[.bool a0_0, .int .u64 a0_1, .int .u64 a0_2, .int .i64 a0_3] 30 (0, 0)) (zK BK477) hb); replace BK478 := Aside0.mk (blk_below (g := gb478) (o := .cells #[.bool a0_0, .int .u64 a0_1, .int .u64 a0_2] 25 (0, 0)) (zK BK478) hb); replace HB := Aside0.mk (below_step (zB HB) hb); (try clear hb)) | ((with_reducible refine gate_dst (N := 6) rfl ?_); refine zx 6 #[.bool false, .int .u64 0, .int .u64 0, .int .i64 0] 30 ?_; intro gb490 hg w35 hbox hb; have BK490 := Aside0.mk (hbox); have GW490 := Aside0.mk ((by rw [hg]; exact (below_size (zB HB)) : w.heap.size ≤ gb490)); have GE490 := Aside0.mk ((by rw [hg]; exact (below_size (zB HB)) : w.heap.size ≤ gb490)); replace HB := Aside0.mk (below_step (zB HB) hb); have NB477_490 := Aside0.mk ((by rw [hg]; exact Nat.ne_of_lt (blk_lt (g := gb477) (o := .cells #[.bool a0_0, .int .u64 a0_1, .int .u64 a0_2, .int .i64 a0_3] 30 (0, 0)) (zK BK477)) : gb477 ≠ gb490)); have NB490_477 := Aside0.mk ((by rw [hg]; exact Nat.ne_of_gt (blk_lt (g := gb477) (o := .cells #[.bool a0_0, .int .u64 a0_1, .int .u64 a0_2, .int .i64 a0_3] 30 (0, 0)) (zK BK477)) : gb490 ≠ gb477)); replace BK477 := Aside0.mk (blk_below (g := gb477) (o := .cells #[.bool a0_0, .int .u64 a0_1, .int .u64 a0_2, .int .i64 a0_3] 30 (0, 0)) (zK BK477) hb); have NB478_490 := Aside0.mk ((by rw [hg]; exact Nat.ne_of_lt (blk_lt (g := gb478) (o := .cells #[.bool a0_0, .int .u64 a0_1, .int .u64 a0_2] 25 (0, 0)) (zK BK478)) : gb478 ≠ gb490)); have NB490_478 := Aside0.mk ((by rw [hg]; exact Nat.ne_of_gt (blk_lt (g := gb478) (o := .cells #[.bool a0_0, .int .u64 a0_1, .int .u64 a0_2] 25 (0, 0)) (zK BK478)) : gb490 ≠ gb478)); replace BK478 := Aside0.mk (blk_below (g := gb478) (o := .cells #[.bool a0_0, .int .u64 a0_1, .int .u64 a0_2] 25 (0, 0)) (zK BK478) hb); clear hb hbox hg; have hnb36 := NB490_477.out; have hnc36 := NB477_490.out; have hnb37 := NB490_478.out; have hnc37 := NB478_490.out; obtain ⟨hcz38_0, hcz38_1, hcz38_2, hcz38_3⟩ := zc4 BK490; obtain ⟨hfz38_0, hfz38_1, hfz38_2, hfz38_3⟩ := zf4 BK490; obtain ⟨hcz39_0, hcz39_1, hcz39_2⟩ := zc3 BK478; obtain ⟨hfz39_0, hfz39_1, hfz39_2⟩ := zf3 BK478) | ((with_reducible refine gate_callee (f := 22) rfl ?_); refine goesL_ (some 37) rfl rfl Tryd.func22 (by kernel_rfl) rfl #[.agg #[.bool a0_0, .int .u64 a0_1, .int .u64 a0_2], .int .i64 a1] rfl (by (try simp only [List.map_toArray, List.map_cons, List.map_nil]); first | done | rfl | (simp only [List.length_drop, List.length_take]; rfl)) ?_; (with_reducible refine (intrusionref06_MakePrefix.calls kj2 a0_0 a0_1 a0_2 a1 t491 t492 t493 t494 t495 _ A28.out).mono ?_); rintro e w40 ⟨rfl, hb⟩; refine ⟨_, rfl, ?_⟩; replace BK477 := Aside0.mk (blk_below (g := gb477) (o := .cells #[.bool a0_0, .int .u64 a0_1, .int .u64 a0_2, .int .i64 a0_3] 30 (0, 0)) (by refine zL ?_; refine blk_far ?_ NB477_490.out _; refine zL ?_; refine blk_far ?_ NB477_490.out _; refine zL ?_; refine blk_far ?_ NB477_490.out _; refine zL ?_; refine blk_far ?_ NB477_490.out _; refine zL ?_; exact BK477.out) hb); replace BK478 := Aside0.mk (blk_below (g := gb478) (o := .cells #[.bool a0_0, .int .u64 a0_1, .int .u64 a0_2] 25 (0, 0)) (by refine zL ?_; refine blk_far ?_ NB478_490.out _; refine zL ?_; refine blk_far ?_ NB478_490.out _; refine zL ?_; refine blk_far ?_ NB478_490.out _; refine zL ?_; refine blk_far ?_ NB478_490.out _; refine zL ?_; exact BK478.out) hb); replace BK490 := Aside0.mk (blk_below (g := gb490) (o := .cells #[.bool t485, .int .u64 t486, .int .u64 t487, .int .i64 t488] 30 (0, 0)) (by refine zL ?_; refine blk_put (cs := #[.bool t485, .int .u64 t486, .int .u64 t487, .int .i64 0]) ?_ 3 _ rfl; refine zL ?_; refine blk_put (cs := #[.bool t485, .int .u64 t486, .int .u64 0, .int .i64 0]) ?_ 2 _ rfl; refine zL ?_; refine blk_put (cs := #[.bool t485, .int .u64 0, .int .u64 0, .int .i64 0]) ?_ 1 _ rfl; refine zL ?_; refine blk_put (cs := #[.bool false, .int .u64 0, .int .u64 0, .int .i64 0]) ?_ 0 _ rfl; refine zL ?_; exact BK490.out) hb); replace HB := Aside0.mk (below_step (zB HB) hb); (try clear hb)) | ((with_reducible refine gate_dst (N := 8) rfl ?_); refine zx 8 #[.bool false, .int .u64 0, .int .u64 0, .int .i64 0] 30 ?_; intro gb496 hg w41 hbox hb; have BK496 := Aside0.mk (hbox); have GW496 := Aside0.mk ((by rw [hg]; exact (below_size (zB HB)) : w.heap.size ≤ gb496)); have GE496 := Aside0.mk ((by rw [hg]; exact (below_size (zB HB)) : w.heap.size ≤ gb496)); replace HB := Aside0.mk (below_step (zB HB) hb); have NB477_496 := Aside0.mk ((by rw [hg]; exact Nat.ne_of_lt (blk_lt (g := gb477) (o := .cells #[.bool a0_0, .int .u64 a0_1, .int .u64 a0_2, .int .i64 a0_3] 30 (0, 0)) (zK BK477)) : gb477 ≠ gb496)); have NB496_477 := Aside0.mk ((by rw [hg]; exact Nat.ne_of_gt (blk_lt (g := gb477) (o := .cells #[.bool a0_0, .int .u64 a0_1, .int .u64 a0_2, .int .i64 a0_3] 30 (0, 0)) (zK BK477)) : gb496 ≠ gb477)); replace BK477 := Aside0.mk (blk_below (g := gb477) (o := .cells #[.bool a0_0, .int .u64 a0_1, .int .u64 a0_2, .int .i64 a0_3] 30 (0, 0)) (zK BK477) hb); have NB478_496 := Aside0.mk ((by rw [hg]; exact Nat.ne_of_lt (blk_lt (g := gb478) (o := .cells #[.bool a0_0, .int .u64 a0_1, .int .u64 a0_2] 25 (0, 0)) (zK BK478)) : gb478 ≠ gb496)); have NB496_478 := Aside0.mk ((by rw [hg]; exact Nat.ne_of_gt (blk_lt (g := gb478) (o := .cells #[.bool a0_0, .int .u64 a0_1, .int .u64 a0_2] 25 (0, 0)) (zK BK478)) : gb496 ≠ gb478)); replace BK478 := Aside0.mk (blk_below (g := gb478) (o := .cells #[.bool a0_0, .int .u64 a0_1, .int .u64 a0_2] 25 (0, 0)) (zK BK478) hb); have NB490_496 := Aside0.mk ((by rw [hg]; exact Nat.ne_of_lt (blk_lt (g := gb490) (o := .cells #[.bool t485, .int .u64 t486, .int .u64 t487, .int .i64 t488] 30 (0, 0)) (zK BK490)) : gb490 ≠ gb496)); have NB496_490 := Aside0.mk ((by rw [hg]; exact Nat.ne_of_gt (blk_lt (g := gb490) (o := .cells #[.bool t485, .int .u64 t486, .int .u64 t487, .int .i64 t488] 30 (0, 0)) (zK BK490)) : gb496 ≠ gb490)); replace BK490 := Aside0.mk (blk_below (g := gb490) (o := .cells #[.bool t485, .int .u64 t486, .int .u64 t487, .int .i64 t488] 30 (0, 0)) (zK BK490) hb); clear hb hbox hg; have hnb42 := NB496_477.out; have hnc42 := NB477_496.out; have hnb43 := NB496_478.out; have hnc43 := NB478_496.out; have hnb44 := NB496_490.out; have hnc44 := NB490_496.out; obtain ⟨hcz45_0, hcz45_1, hcz45_2, hcz45_3⟩ := zc4 BK496; obtain ⟨hfz45_0, hfz45_1, hfz45_2, hfz45_3⟩ := zf4 BK496))
       (try simp only [Act.put, List.setIfInBounds_toArray, List.set_cons_zero, List.set_cons_succ])
       go_cut [61] (fun v61 wc => ∃ (kq : Nat) (x61_28 : Bool), v61 = .bool x61_28 ∧ Aside0 (intrusionlaw06_AddressFormats.j1 kq t495 x61_28 t491 t492 t493 t494 = some r) ∧ Aside0 (kq ≤ kj2) ∧ Aside0 (wc.heap[gb477]? = some (.cells #[.bool a0_0, .int .u64 a0_1, .int .u64 a0_2, .int .i64 a0_3] 30 (0, 0))) ∧ Aside0 (wc.heap[gb478]? = some (.cells #[.bool a0_0, .int .u64 a0_1, .int .u64 a0_2] 25 (0, 0))) ∧ Aside0 (wc.heap[gb490]? = some (.cells #[.bool t485, .int .u64 t486, .int .u64 t487, .int .i64 t488] 30 (0, 0))) ∧ Aside0 (wc.heap[gb496]? = some (.cells #[.bool t491, .int .u64 t492, .int .u64 t493, .int .i64 t494] 30 (0, 0))) ∧ Aside0 (Below w.heap.size w wc))
       case first =>
        have H := HC29.out
        clear HC29
        by_cases c46 : ((!(t485 == t491) || (!(t486 == t492) || (!(t487 == t493)))) || (!(t488 == t494))) = true
        · rw [if_pos c46] at H
          have c46b0 : ((!(t485 == t491) || (!(t486 == t492) || (!(t487 == t493)))) || (!(t488 == t494))) = true := c46
          clear c46
          (first | rw [c46b0] | (simp only [i64_w, i32_w]; rw [c46b0]) | skip)
          have H' := Aside0.mk H
          clear H
          try go_wp2
          have n0_ : Aside0 (((((w41.setCell ⟨gb496, 0, none⟩ (.bool t491)).setCell ⟨gb496, 1, none⟩ (.int .u64 t492)).setCell ⟨gb496, 2, none⟩ (.int .u64 t493)).setCell ⟨gb496, 3, none⟩ (.int .i64 t494)).heap[gb477]? = some (.cells #[.bool a0_0, .int .u64 a0_1, .int .u64 a0_2, .int .i64 a0_3] 30 (0, 0))) := ⟨by refine zL ?_; refine blk_far ?_ NB477_496.out _; refine zL ?_; refine blk_far ?_ NB477_496.out _; refine zL ?_; refine blk_far ?_ NB477_496.out _; refine zL ?_; refine blk_far ?_ NB477_496.out _; refine zL ?_; exact BK477.out⟩
          have n1_ : Aside0 (((((w41.setCell ⟨gb496, 0, none⟩ (.bool t491)).setCell ⟨gb496, 1, none⟩ (.int .u64 t492)).setCell ⟨gb496, 2, none⟩ (.int .u64 t493)).setCell ⟨gb496, 3, none⟩ (.int .i64 t494)).heap[gb478]? = some (.cells #[.bool a0_0, .int .u64 a0_1, .int .u64 a0_2] 25 (0, 0))) := ⟨by refine zL ?_; refine blk_far ?_ NB478_496.out _; refine zL ?_; refine blk_far ?_ NB478_496.out _; refine zL ?_; refine blk_far ?_ NB478_496.out _; refine zL ?_; refine blk_far ?_ NB478_496.out _; refine zL ?_; exact BK478.out⟩
          have n2_ : Aside0 (((((w41.setCell ⟨gb496, 0, none⟩ (.bool t491)).setCell ⟨gb496, 1, none⟩ (.int .u64 t492)).setCell ⟨gb496, 2, none⟩ (.int .u64 t493)).setCell ⟨gb496, 3, none⟩ (.int .i64 t494)).heap[gb490]? = some (.cells #[.bool t485, .int .u64 t486, .int .u64 t487, .int .i64 t488] 30 (0, 0))) := ⟨by refine zL ?_; refine blk_far ?_ NB490_496.out _; refine zL ?_; refine blk_far ?_ NB490_496.out _; refine zL ?_; refine blk_far ?_ NB490_496.out _; refine zL ?_; refine blk_far ?_ NB490_496.out _; refine zL ?_; exact BK490.out⟩
          have n3_ : Aside0 (((((w41.setCell ⟨gb496, 0, none⟩ (.bool t491)).setCell ⟨gb496, 1, none⟩ (.int .u64 t492)).setCell ⟨gb496, 2, none⟩ (.int .u64 t493)).setCell ⟨gb496, 3, none⟩ (.int .i64 t494)).heap[gb496]? = some (.cells #[.bool t491, .int .u64 t492, .int .u64 t493, .int .i64 t494] 30 (0, 0))) := ⟨by refine zL ?_; refine blk_put (cs := #[.bool t491, .int .u64 t492, .int .u64 t493, .int .i64 0]) ?_ 3 _ rfl; refine zL ?_; refine blk_put (cs := #[.bool t491, .int .u64 t492, .int .u64 0, .int .i64 0]) ?_ 2 _ rfl; refine zL ?_; refine blk_put (cs := #[.bool t491, .int .u64 0, .int .u64 0, .int .i64 0]) ?_ 1 _ rfl; refine zL ?_; refine blk_put (cs := #[.bool false, .int .u64 0, .int .u64 0, .int .i64 0]) ?_ 0 _ rfl; refine zL ?_; exact BK496.out⟩
          have n4_ : Aside0 (Below w.heap.size w ((((w41.setCell ⟨gb496, 0, none⟩ (.bool t491)).setCell ⟨gb496, 1, none⟩ (.int .u64 t492)).setCell ⟨gb496, 2, none⟩ (.int .u64 t493)).setCell ⟨gb496, 3, none⟩ (.int .i64 t494))) := ⟨zB HB⟩
          (try clear BK477)
          (try clear BK478)
          (try clear BK490)
          (try clear BK496)
          (try clear HB)
          generalize ((((w41.setCell ⟨gb496, 0, none⟩ (.bool t491)).setCell ⟨gb496, 1, none⟩ (.int .u64 t492)).setCell ⟨gb496, 2, none⟩ (.int .u64 t493)).setCell ⟨gb496, 3, none⟩ (.int .i64 t494)) = w47 at n0_ n1_ n2_ n3_ n4_ ⊢
          have BK477 := n0_
          have BK478 := n1_
          have BK490 := n2_
          have BK496 := n3_
          have HB := n4_
          clear n0_ n1_ n2_ n3_ n4_
          replace BK477 := Aside0.mk (blk_drew BK477.out)
          replace BK478 := Aside0.mk (blk_drew BK478.out)
          replace BK490 := Aside0.mk (blk_drew BK490.out)
          replace BK496 := Aside0.mk (blk_drew BK496.out)
          replace HB := Aside0.mk (below_drew1 HB.out)
          refine start_ (n := 22) (S := fun w' => w'.cell? ⟨gb490, 0, none⟩ = some (.bool t485) ∧ w'.cell? ⟨gb490, 1, none⟩ = some (.int .u64 t486) ∧ w'.cell? ⟨gb490, 2, none⟩ = some (.int .u64 t487) ∧ w'.cell? ⟨gb490, 3, none⟩ = some (.int .i64 t488) ∧ w'.cell? ⟨gb496, 0, none⟩ = some (.bool t491) ∧ w'.cell? ⟨gb496, 1, none⟩ = some (.int .u64 t492) ∧ w'.cell? ⟨gb496, 2, none⟩ = some (.int .u64 t493) ∧ w'.cell? ⟨gb496, 3, none⟩ = some (.int .i64 t494)) (ds := []) #[false, false, false, false, false, false, false, false, false, false, false, false, false, false, false, false, false, false, false, false, false, false] (by kernel_rfl) rfl rfl ⟨zc BK490 0, zc BK490 1, zc BK490 2, zc BK490 3, zc BK496 0, zc BK496 1, zc BK496 2, zc BK496 3⟩ (fun hHeld => ?_); refine with_tabW intrusionlaw06_AddressFormats.tab8 intrusionlaw06_AddressFormats.bits8 (fun HT_ HW_ => ?_)
          generalize w47.drew = w48 at BK477 BK478 BK490 BK496 HB hHeld ⊢
          refine zt 0 40 HT_ HW_ hHeld ?_; refine zt 1 41 HT_ HW_ hHeld ?_; refine zp 2 42 HT_ ?_; refine zp 3 43 HT_ ?_; refine zu 4 44 HT_ ?_; refine zu 5 45 HT_ ?_; refine zu 6 46 HT_ ?_; refine zp 7 47 HT_ ?_; refine zp 8 48 HT_ ?_; refine zu 9 49 HT_ ?_; refine zu 10 50 HT_ ?_; refine zu 11 51 HT_ ?_; refine zu 12 52 HT_ ?_; refine zu 13 53 HT_ ?_; refine zp 14 54 HT_ ?_; refine zp 15 55 HT_ ?_; refine zu 16 56 HT_ ?_; refine zu 17 57 HT_ ?_; refine zu 18 58 HT_ ?_; refine zu 19 59 HT_ ?_; refine zu 20 60 HT_ ?_; refine zp 21 61 HT_ ?_; refine zd HT_ ?_
          try go_wp2
          go_meet
          case rel => exact ⟨_, (true), (by first | rfl | (simp; done) | (simp [*]; done)), H', ⟨by have := HJ2.out; first | omega | exact Nat.le_refl _⟩, ⟨zK BK477⟩, ⟨zK BK478⟩, ⟨zK BK490⟩, ⟨zK BK496⟩, ⟨zB HB⟩⟩
        · rw [if_neg c46] at H
          have c46b0 : ((!(t485 == t491) || (!(t486 == t492) || (!(t487 == t493)))) || (!(t488 == t494))) = false := by simpa using c46
          clear c46
          (first | rw [c46b0] | (simp only [i64_w, i32_w]; rw [c46b0]) | skip)
          by_cases c49 : t489 = t495
          · rw [if_pos c49] at H
            have c49b0 : (t489 == t495) = true := beq_iff_eq.mpr c49
            have c49b1 : (t489 != t495) = false := bne_eq_false_iff_eq.mpr c49
            clear c49
            replace H := Option.bind_eq_some_iff.mp H
            obtain ⟨t497, A500, H⟩ := H
            try dsimp only at H
            have A50 := Aside0.mk A500
            clear A500
            replace H := Option.bind_eq_some_iff.mp H
            obtain ⟨t498, A510, H⟩ := H
            try dsimp only at H
            have A51 := Aside0.mk A510
            clear A510
            by_cases c52 : t497.toList = t498.toList
            · rw [if_pos c52] at H
              have c52b0 : (t497.toList == t498.toList) = true := beq_iff_eq.mpr c52
              have c52b1 : (t497.toList != t498.toList) = false := bne_eq_false_iff_eq.mpr c52
              clear c52
              replace H := Option.bind_eq_some_iff.mp H
              obtain ⟨t499, A530, H⟩ := H
              try dsimp only at H
              have A53 := Aside0.mk A530
              clear A530
              replace H := Option.bind_eq_some_iff.mp H
              obtain ⟨t500, A540, H⟩ := H
              try dsimp only at H
              have A54 := Aside0.mk A540
              clear A540
              have H' := Aside0.mk H
              clear H
              try go_wp2
              have n0_ : Aside0 (((((w41.setCell ⟨gb496, 0, none⟩ (.bool t491)).setCell ⟨gb496, 1, none⟩ (.int .u64 t492)).setCell ⟨gb496, 2, none⟩ (.int .u64 t493)).setCell ⟨gb496, 3, none⟩ (.int .i64 t494)).heap[gb477]? = some (.cells #[.bool a0_0, .int .u64 a0_1, .int .u64 a0_2, .int .i64 a0_3] 30 (0, 0))) := ⟨by refine zL ?_; refine blk_far ?_ NB477_496.out _; refine zL ?_; refine blk_far ?_ NB477_496.out _; refine zL ?_; refine blk_far ?_ NB477_496.out _; refine zL ?_; refine blk_far ?_ NB477_496.out _; refine zL ?_; exact BK477.out⟩
              have n1_ : Aside0 (((((w41.setCell ⟨gb496, 0, none⟩ (.bool t491)).setCell ⟨gb496, 1, none⟩ (.int .u64 t492)).setCell ⟨gb496, 2, none⟩ (.int .u64 t493)).setCell ⟨gb496, 3, none⟩ (.int .i64 t494)).heap[gb478]? = some (.cells #[.bool a0_0, .int .u64 a0_1, .int .u64 a0_2] 25 (0, 0))) := ⟨by refine zL ?_; refine blk_far ?_ NB478_496.out _; refine zL ?_; refine blk_far ?_ NB478_496.out _; refine zL ?_; refine blk_far ?_ NB478_496.out _; refine zL ?_; refine blk_far ?_ NB478_496.out _; refine zL ?_; exact BK478.out⟩
              have n2_ : Aside0 (((((w41.setCell ⟨gb496, 0, none⟩ (.bool t491)).setCell ⟨gb496, 1, none⟩ (.int .u64 t492)).setCell ⟨gb496, 2, none⟩ (.int .u64 t493)).setCell ⟨gb496, 3, none⟩ (.int .i64 t494)).heap[gb490]? = some (.cells #[.bool t485, .int .u64 t486, .int .u64 t487, .int .i64 t488] 30 (0, 0))) := ⟨by refine zL ?_; refine blk_far ?_ NB490_496.out _; refine zL ?_; refine blk_far ?_ NB490_496.out _; refine zL ?_; refine blk_far ?_ NB490_496.out _; refine zL ?_; refine blk_far ?_ NB490_496.out _; refine zL ?_; exact BK490.out⟩
              have n3_ : Aside0 (((((w41.setCell ⟨gb496, 0, none⟩ (.bool t491)).setCell ⟨gb496, 1, none⟩ (.int .u64 t492)).setCell ⟨gb496, 2, none⟩ (.int .u64 t493)).setCell ⟨gb496, 3, none⟩ (.int .i64 t494)).heap[gb496]? = some (.cells #[.bool t491, .int .u64 t492, .int .u64 t493, .int .i64 t494] 30 (0, 0))) := ⟨by refine zL ?_; refine blk_put (cs := #[.bool t491, .int .u64 t492, .int .u64 t493, .int .i64 0]) ?_ 3 _ rfl; refine zL ?_; refine blk_put (cs := #[.bool t491, .int .u64 t492, .int .u64 0, .int .i64 0]) ?_ 2 _ rfl; refine zL ?_; refine blk_put (cs := #[.bool t491, .int .u64 0, .int .u64 0, .int .i64 0]) ?_ 1 _ rfl; refine zL ?_; refine blk_put (cs := #[.bool false, .int .u64 0, .int .u64 0, .int .i64 0]) ?_ 0 _ rfl; refine zL ?_; exact BK496.out⟩
              have n4_ : Aside0 (Below w.heap.size w ((((w41.setCell ⟨gb496, 0, none⟩ (.bool t491)).setCell ⟨gb496, 1, none⟩ (.int .u64 t492)).setCell ⟨gb496, 2, none⟩ (.int .u64 t493)).setCell ⟨gb496, 3, none⟩ (.int .i64 t494))) := ⟨zB HB⟩
              (try clear BK477)
              (try clear BK478)
              (try clear BK490)
              (try clear BK496)
              (try clear HB)
              generalize ((((w41.setCell ⟨gb496, 0, none⟩ (.bool t491)).setCell ⟨gb496, 1, none⟩ (.int .u64 t492)).setCell ⟨gb496, 2, none⟩ (.int .u64 t493)).setCell ⟨gb496, 3, none⟩ (.int .i64 t494)) = w55 at n0_ n1_ n2_ n3_ n4_ ⊢
              have BK477 := n0_
              have BK478 := n1_
              have BK490 := n2_
              have BK496 := n3_
              have HB := n4_
              clear n0_ n1_ n2_ n3_ n4_
              replace BK477 := Aside0.mk (blk_drew BK477.out)
              replace BK478 := Aside0.mk (blk_drew BK478.out)
              replace BK490 := Aside0.mk (blk_drew BK490.out)
              replace BK496 := Aside0.mk (blk_drew BK496.out)
              replace HB := Aside0.mk (below_drew1 HB.out)
              refine start_ (n := 22) (S := fun w' => w'.cell? ⟨gb490, 0, none⟩ = some (.bool t485) ∧ w'.cell? ⟨gb490, 1, none⟩ = some (.int .u64 t486) ∧ w'.cell? ⟨gb490, 2, none⟩ = some (.int .u64 t487) ∧ w'.cell? ⟨gb490, 3, none⟩ = some (.int .i64 t488) ∧ w'.cell? ⟨gb496, 0, none⟩ = some (.bool t491) ∧ w'.cell? ⟨gb496, 1, none⟩ = some (.int .u64 t492) ∧ w'.cell? ⟨gb496, 2, none⟩ = some (.int .u64 t493) ∧ w'.cell? ⟨gb496, 3, none⟩ = some (.int .i64 t494) ∧ w'.cell? ⟨gb478, 0, none⟩ = some (.bool a0_0) ∧ w'.cell? ⟨gb478, 1, none⟩ = some (.int .u64 a0_1) ∧ w'.cell? ⟨gb478, 2, none⟩ = some (.int .u64 a0_2)) (ds := []) #[false, false, false, false, false, false, false, false, false, false, false, false, false, false, false, false, false, false, false, false, false, false] (by kernel_rfl) rfl rfl ⟨zc BK490 0, zc BK490 1, zc BK490 2, zc BK490 3, zc BK496 0, zc BK496 1, zc BK496 2, zc BK496 3, zc BK478 0, zc BK478 1, zc BK478 2⟩ (fun hHeld => ?_); refine with_tabW intrusionlaw06_AddressFormats.tab8 intrusionlaw06_AddressFormats.bits8 (fun HT_ HW_ => ?_)
              generalize w55.drew = w56 at BK477 BK478 BK490 BK496 HB hHeld ⊢
              refine zt 0 40 HT_ HW_ hHeld ?_; refine zt 1 41 HT_ HW_ hHeld ?_; refine zp 2 42 HT_ ?_; refine zp 3 43 HT_ ?_; refine zp 4 44 HT_ ?_; refine zp 5 45 HT_ ?_; refine zp 6 46 HT_ ?_; refine zp 7 47 HT_ ?_; refine zp 8 48 HT_ ?_; refine zt 9 49 HT_ HW_ hHeld ?_; refine zt 11 51 HT_ HW_ hHeld ?_; refine zo 10 50 HT_ (fun K hK => ?_)
              refine zg Tryd.func33 #[.agg #[.bool a0_0, .int .u64 a0_1, .int .u64 a0_2]] ?_
              with_reducible refine (address_Format.calls a0_0 a0_1 a0_2 t497 _ A50.out (WOK.below hW_ (zB HB))).mono ?_
              rintro e w57 ⟨rfl, hb⟩
              refine ⟨_, rfl, ?_⟩
              replace BK477 := Aside0.mk (blk_below (g := gb477) (o := .cells #[.bool a0_0, .int .u64 a0_1, .int .u64 a0_2, .int .i64 a0_3] 30 (0, 0)) (zK BK477) hb)
              replace BK478 := Aside0.mk (blk_below (g := gb478) (o := .cells #[.bool a0_0, .int .u64 a0_1, .int .u64 a0_2] 25 (0, 0)) (zK BK478) hb)
              replace BK490 := Aside0.mk (blk_below (g := gb490) (o := .cells #[.bool t485, .int .u64 t486, .int .u64 t487, .int .i64 t488] 30 (0, 0)) (zK BK490) hb)
              replace BK496 := Aside0.mk (blk_below (g := gb496) (o := .cells #[.bool t491, .int .u64 t492, .int .u64 t493, .int .i64 t494] 30 (0, 0)) (zK BK496) hb)
              replace HB := Aside0.mk (below_step (zB HB) hb)
              (try clear hb)
              refine hK.out _ _ ⟨zc BK490 0, zc BK490 1, zc BK490 2, zc BK490 3, zc BK496 0, zc BK496 1, zc BK496 2, zc BK496 3, zc BK478 0, zc BK478 1, zc BK478 2⟩ (fun hHeld => ?_)
              clear hK K
              refine zn 50 ?_; refine zo 12 52 HT_ (fun K hK => ?_)
              refine zg Tryd.func34 #[.agg #[.bool a0_0, .int .u64 a0_1, .int .u64 a0_2]] ?_
              with_reducible refine (intrusionref06_Format.calls kj2 a0_0 a0_1 a0_2 t498 _ A51.out).mono ?_
              rintro e w58 ⟨rfl, hb⟩
              refine ⟨_, rfl, ?_⟩
              replace BK477 := Aside0.mk (blk_below (g := gb477) (o := .cells #[.bool a0_0, .int .u64 a0_1, .int .u64 a0_2, .int .i64 a0_3] 30 (0, 0)) (zK BK477) hb)
              replace BK478 := Aside0.mk (blk_below (g := gb478) (o := .cells #[.bool a0_0, .int .u64 a0_1, .int .u64 a0_2] 25 (0, 0)) (zK BK478) hb)
              replace BK490 := Aside0.mk (blk_below (g := gb490) (o := .cells #[.bool t485, .int .u64 t486, .int .u64 t487, .int .i64 t488] 30 (0, 0)) (zK BK490) hb)
              replace BK496 := Aside0.mk (blk_below (g := gb496) (o := .cells #[.bool t491, .int .u64 t492, .int .u64 t493, .int .i64 t494] 30 (0, 0)) (zK BK496) hb)
              replace HB := Aside0.mk (below_step (zB HB) hb)
              (try clear hb)
              refine hK.out _ _ ⟨zc BK490 0, zc BK490 1, zc BK490 2, zc BK490 3, zc BK496 0, zc BK496 1, zc BK496 2, zc BK496 3, zc BK478 0, zc BK478 1, zc BK478 2⟩ (fun hHeld => ?_)
              clear hK K
              refine zn 52 ?_; refine zp 13 53 HT_ ?_; refine zp 14 54 HT_ ?_; refine zp 15 55 HT_ ?_; refine zt 16 56 HT_ HW_ hHeld ?_; refine zt 18 58 HT_ HW_ hHeld ?_; refine zo 17 57 HT_ (fun K hK => ?_)
              refine zg Tryd.func30 #[.agg #[.bool a0_0, .int .u64 a0_1, .int .u64 a0_2]] ?_
              with_reducible refine (address_Bytes.calls kj2 a0_0 a0_1 a0_2 t499 _ A53.out).mono ?_
              rintro e w59 ⟨rfl, hb⟩
              refine ⟨_, rfl, ?_⟩
              replace BK477 := Aside0.mk (blk_below (g := gb477) (o := .cells #[.bool a0_0, .int .u64 a0_1, .int .u64 a0_2, .int .i64 a0_3] 30 (0, 0)) (zK BK477) hb)
              replace BK478 := Aside0.mk (blk_below (g := gb478) (o := .cells #[.bool a0_0, .int .u64 a0_1, .int .u64 a0_2] 25 (0, 0)) (zK BK478) hb)
              replace BK490 := Aside0.mk (blk_below (g := gb490) (o := .cells #[.bool t485, .int .u64 t486, .int .u64 t487, .int .i64 t488] 30 (0, 0)) (zK BK490) hb)
              replace BK496 := Aside0.mk (blk_below (g := gb496) (o := .cells #[.bool t491, .int .u64 t492, .int .u64 t493, .int .i64 t494] 30 (0, 0)) (zK BK496) hb)
              replace HB := Aside0.mk (below_step (zB HB) hb)
              (try clear hb)
              refine hK.out _ _ ⟨zc BK490 0, zc BK490 1, zc BK490 2, zc BK490 3, zc BK496 0, zc BK496 1, zc BK496 2, zc BK496 3, zc BK478 0, zc BK478 1, zc BK478 2⟩ (fun hHeld => ?_)
              clear hK K
              refine zn 57 ?_; refine zo 19 59 HT_ (fun K hK => ?_)
              refine zg Tryd.func35 #[.agg #[.bool a0_0, .int .u64 a0_1, .int .u64 a0_2]] ?_
              with_reducible refine (intrusionref06_Bytes.calls kj2 a0_0 a0_1 a0_2 t500 _ A54.out).mono ?_
              rintro e w60 ⟨rfl, hb⟩
              refine ⟨_, rfl, ?_⟩
              replace BK477 := Aside0.mk (blk_below (g := gb477) (o := .cells #[.bool a0_0, .int .u64 a0_1, .int .u64 a0_2, .int .i64 a0_3] 30 (0, 0)) (zK BK477) hb)
              replace BK478 := Aside0.mk (blk_below (g := gb478) (o := .cells #[.bool a0_0, .int .u64 a0_1, .int .u64 a0_2] 25 (0, 0)) (zK BK478) hb)
              replace BK490 := Aside0.mk (blk_below (g := gb490) (o := .cells #[.bool t485, .int .u64 t486, .int .u64 t487, .int .i64 t488] 30 (0, 0)) (zK BK490) hb)
              replace BK496 := Aside0.mk (blk_below (g := gb496) (o := .cells #[.bool t491, .int .u64 t492, .int .u64 t493, .int .i64 t494] 30 (0, 0)) (zK BK496) hb)
              replace HB := Aside0.mk (below_step (zB HB) hb)
              (try clear hb)
              refine hK.out _ _ ⟨zc BK490 0, zc BK490 1, zc BK490 2, zc BK490 3, zc BK496 0, zc BK496 1, zc BK496 2, zc BK496 3, zc BK478 0, zc BK478 1, zc BK478 2⟩ (fun hHeld => ?_)
              clear hK K
              refine zn 59 ?_; refine zp 20 60 HT_ ?_; refine zp 21 61 HT_ ?_; refine zd HT_ ?_
              try go_wp2
              go_meet
              case rel => exact ⟨_, ((t499.toList != t500.toList)), (by first | rfl | (simp; done) | (simp [*]; done)), H', ⟨by have := HJ2.out; first | omega | exact Nat.le_refl _⟩, ⟨zK BK477⟩, ⟨zK BK478⟩, ⟨zK BK490⟩, ⟨zK BK496⟩, ⟨zB HB⟩⟩
            · rw [if_neg c52] at H
              have c52b0 : (t497.toList == t498.toList) = false := beq_eq_false_iff_ne.mpr c52
              have c52b1 : (t497.toList != t498.toList) = true := bne_iff_ne.mpr c52
              have H' := Aside0.mk H
              clear H
              try go_wp2
              have n0_ : Aside0 (((((w41.setCell ⟨gb496, 0, none⟩ (.bool t491)).setCell ⟨gb496, 1, none⟩ (.int .u64 t492)).setCell ⟨gb496, 2, none⟩ (.int .u64 t493)).setCell ⟨gb496, 3, none⟩ (.int .i64 t494)).heap[gb477]? = some (.cells #[.bool a0_0, .int .u64 a0_1, .int .u64 a0_2, .int .i64 a0_3] 30 (0, 0))) := ⟨by refine zL ?_; refine blk_far ?_ NB477_496.out _; refine zL ?_; refine blk_far ?_ NB477_496.out _; refine zL ?_; refine blk_far ?_ NB477_496.out _; refine zL ?_; refine blk_far ?_ NB477_496.out _; refine zL ?_; exact BK477.out⟩
              have n1_ : Aside0 (((((w41.setCell ⟨gb496, 0, none⟩ (.bool t491)).setCell ⟨gb496, 1, none⟩ (.int .u64 t492)).setCell ⟨gb496, 2, none⟩ (.int .u64 t493)).setCell ⟨gb496, 3, none⟩ (.int .i64 t494)).heap[gb478]? = some (.cells #[.bool a0_0, .int .u64 a0_1, .int .u64 a0_2] 25 (0, 0))) := ⟨by refine zL ?_; refine blk_far ?_ NB478_496.out _; refine zL ?_; refine blk_far ?_ NB478_496.out _; refine zL ?_; refine blk_far ?_ NB478_496.out _; refine zL ?_; refine blk_far ?_ NB478_496.out _; refine zL ?_; exact BK478.out⟩
              have n2_ : Aside0 (((((w41.setCell ⟨gb496, 0, none⟩ (.bool t491)).setCell ⟨gb496, 1, none⟩ (.int .u64 t492)).setCell ⟨gb496, 2, none⟩ (.int .u64 t493)).setCell ⟨gb496, 3, none⟩ (.int .i64 t494)).heap[gb490]? = some (.cells #[.bool t485, .int .u64 t486, .int .u64 t487, .int .i64 t488] 30 (0, 0))) := ⟨by refine zL ?_; refine blk_far ?_ NB490_496.out _; refine zL ?_; refine blk_far ?_ NB490_496.out _; refine zL ?_; refine blk_far ?_ NB490_496.out _; refine zL ?_; refine blk_far ?_ NB490_496.out _; refine zL ?_; exact BK490.out⟩
              have n3_ : Aside0 (((((w41.setCell ⟨gb496, 0, none⟩ (.bool t491)).setCell ⟨gb496, 1, none⟩ (.int .u64 t492)).setCell ⟨gb496, 2, none⟩ (.int .u64 t493)).setCell ⟨gb496, 3, none⟩ (.int .i64 t494)).heap[gb496]? = some (.cells #[.bool t491, .int .u64 t492, .int .u64 t493, .int .i64 t494] 30 (0, 0))) := ⟨by refine zL ?_; refine blk_put (cs := #[.bool t491, .int .u64 t492, .int .u64 t493, .int .i64 0]) ?_ 3 _ rfl; refine zL ?_; refine blk_put (cs := #[.bool t491, .int .u64 t492, .int .u64 0, .int .i64 0]) ?_ 2 _ rfl; refine zL ?_; refine blk_put (cs := #[.bool t491, .int .u64 0, .int .u64 0, .int .i64 0]) ?_ 1 _ rfl; refine zL ?_; refine blk_put (cs := #[.bool false, .int .u64 0, .int .u64 0, .int .i64 0]) ?_ 0 _ rfl; refine zL ?_; exact BK496.out⟩
              have n4_ : Aside0 (Below w.heap.size w ((((w41.setCell ⟨gb496, 0, none⟩ (.bool t491)).setCell ⟨gb496, 1, none⟩ (.int .u64 t492)).setCell ⟨gb496, 2, none⟩ (.int .u64 t493)).setCell ⟨gb496, 3, none⟩ (.int .i64 t494))) := ⟨zB HB⟩
              (try clear BK477)
              (try clear BK478)
              (try clear BK490)
              (try clear BK496)
              (try clear HB)
              generalize ((((w41.setCell ⟨gb496, 0, none⟩ (.bool t491)).setCell ⟨gb496, 1, none⟩ (.int .u64 t492)).setCell ⟨gb496, 2, none⟩ (.int .u64 t493)).setCell ⟨gb496, 3, none⟩ (.int .i64 t494)) = w61 at n0_ n1_ n2_ n3_ n4_ ⊢
              have BK477 := n0_
              have BK478 := n1_
              have BK490 := n2_
              have BK496 := n3_
              have HB := n4_
              clear n0_ n1_ n2_ n3_ n4_
              replace BK477 := Aside0.mk (blk_drew BK477.out)
              replace BK478 := Aside0.mk (blk_drew BK478.out)
              replace BK490 := Aside0.mk (blk_drew BK490.out)
              replace BK496 := Aside0.mk (blk_drew BK496.out)
              replace HB := Aside0.mk (below_drew1 HB.out)
              refine start_ (n := 22) (S := fun w' => w'.cell? ⟨gb490, 0, none⟩ = some (.bool t485) ∧ w'.cell? ⟨gb490, 1, none⟩ = some (.int .u64 t486) ∧ w'.cell? ⟨gb490, 2, none⟩ = some (.int .u64 t487) ∧ w'.cell? ⟨gb490, 3, none⟩ = some (.int .i64 t488) ∧ w'.cell? ⟨gb496, 0, none⟩ = some (.bool t491) ∧ w'.cell? ⟨gb496, 1, none⟩ = some (.int .u64 t492) ∧ w'.cell? ⟨gb496, 2, none⟩ = some (.int .u64 t493) ∧ w'.cell? ⟨gb496, 3, none⟩ = some (.int .i64 t494) ∧ w'.cell? ⟨gb478, 0, none⟩ = some (.bool a0_0) ∧ w'.cell? ⟨gb478, 1, none⟩ = some (.int .u64 a0_1) ∧ w'.cell? ⟨gb478, 2, none⟩ = some (.int .u64 a0_2)) (ds := []) #[false, false, false, false, false, false, false, false, false, false, false, false, false, false, false, false, false, false, false, false, false, false] (by kernel_rfl) rfl rfl ⟨zc BK490 0, zc BK490 1, zc BK490 2, zc BK490 3, zc BK496 0, zc BK496 1, zc BK496 2, zc BK496 3, zc BK478 0, zc BK478 1, zc BK478 2⟩ (fun hHeld => ?_); refine with_tabW intrusionlaw06_AddressFormats.tab8 intrusionlaw06_AddressFormats.bits8 (fun HT_ HW_ => ?_)
              generalize w61.drew = w62 at BK477 BK478 BK490 BK496 HB hHeld ⊢
              refine zt 0 40 HT_ HW_ hHeld ?_; refine zt 1 41 HT_ HW_ hHeld ?_; refine zp 2 42 HT_ ?_; refine zp 3 43 HT_ ?_; refine zp 4 44 HT_ ?_; refine zp 5 45 HT_ ?_; refine zp 6 46 HT_ ?_; refine zp 7 47 HT_ ?_; refine zp 8 48 HT_ ?_; refine zt 9 49 HT_ HW_ hHeld ?_; refine zt 11 51 HT_ HW_ hHeld ?_; refine zo 10 50 HT_ (fun K hK => ?_)
              refine zg Tryd.func33 #[.agg #[.bool a0_0, .int .u64 a0_1, .int .u64 a0_2]] ?_
              with_reducible refine (address_Format.calls a0_0 a0_1 a0_2 t497 _ A50.out (WOK.below hW_ (zB HB))).mono ?_
              rintro e w63 ⟨rfl, hb⟩
              refine ⟨_, rfl, ?_⟩
              replace BK477 := Aside0.mk (blk_below (g := gb477) (o := .cells #[.bool a0_0, .int .u64 a0_1, .int .u64 a0_2, .int .i64 a0_3] 30 (0, 0)) (zK BK477) hb)
              replace BK478 := Aside0.mk (blk_below (g := gb478) (o := .cells #[.bool a0_0, .int .u64 a0_1, .int .u64 a0_2] 25 (0, 0)) (zK BK478) hb)
              replace BK490 := Aside0.mk (blk_below (g := gb490) (o := .cells #[.bool t485, .int .u64 t486, .int .u64 t487, .int .i64 t488] 30 (0, 0)) (zK BK490) hb)
              replace BK496 := Aside0.mk (blk_below (g := gb496) (o := .cells #[.bool t491, .int .u64 t492, .int .u64 t493, .int .i64 t494] 30 (0, 0)) (zK BK496) hb)
              replace HB := Aside0.mk (below_step (zB HB) hb)
              (try clear hb)
              refine hK.out _ _ ⟨zc BK490 0, zc BK490 1, zc BK490 2, zc BK490 3, zc BK496 0, zc BK496 1, zc BK496 2, zc BK496 3, zc BK478 0, zc BK478 1, zc BK478 2⟩ (fun hHeld => ?_)
              clear hK K
              refine zn 50 ?_; refine zo 12 52 HT_ (fun K hK => ?_)
              refine zg Tryd.func34 #[.agg #[.bool a0_0, .int .u64 a0_1, .int .u64 a0_2]] ?_
              with_reducible refine (intrusionref06_Format.calls kj2 a0_0 a0_1 a0_2 t498 _ A51.out).mono ?_
              rintro e w64 ⟨rfl, hb⟩
              refine ⟨_, rfl, ?_⟩
              replace BK477 := Aside0.mk (blk_below (g := gb477) (o := .cells #[.bool a0_0, .int .u64 a0_1, .int .u64 a0_2, .int .i64 a0_3] 30 (0, 0)) (zK BK477) hb)
              replace BK478 := Aside0.mk (blk_below (g := gb478) (o := .cells #[.bool a0_0, .int .u64 a0_1, .int .u64 a0_2] 25 (0, 0)) (zK BK478) hb)
              replace BK490 := Aside0.mk (blk_below (g := gb490) (o := .cells #[.bool t485, .int .u64 t486, .int .u64 t487, .int .i64 t488] 30 (0, 0)) (zK BK490) hb)
              replace BK496 := Aside0.mk (blk_below (g := gb496) (o := .cells #[.bool t491, .int .u64 t492, .int .u64 t493, .int .i64 t494] 30 (0, 0)) (zK BK496) hb)
              replace HB := Aside0.mk (below_step (zB HB) hb)
              (try clear hb)
              refine hK.out _ _ ⟨zc BK490 0, zc BK490 1, zc BK490 2, zc BK490 3, zc BK496 0, zc BK496 1, zc BK496 2, zc BK496 3, zc BK478 0, zc BK478 1, zc BK478 2⟩ (fun hHeld => ?_)
              clear hK K
              refine zn 52 ?_; refine zp 13 53 HT_ ?_; refine zp 14 54 HT_ ?_; refine zp 15 55 HT_ ?_; refine zu 16 56 HT_ ?_; refine zu 17 57 HT_ ?_; refine zu 18 58 HT_ ?_; refine zu 19 59 HT_ ?_; refine zu 20 60 HT_ ?_; refine zp 21 61 HT_ ?_; refine zd HT_ ?_
              try go_wp2
              go_meet
              case rel => exact ⟨_, (true), (by first | rfl | (simp; done) | (simp [*]; done)), H', ⟨by have := HJ2.out; first | omega | exact Nat.le_refl _⟩, ⟨zK BK477⟩, ⟨zK BK478⟩, ⟨zK BK490⟩, ⟨zK BK496⟩, ⟨zB HB⟩⟩
          · rw [if_neg c49] at H
            have c49b0 : (t489 == t495) = false := beq_eq_false_iff_ne.mpr c49
            have c49b1 : (t489 != t495) = true := bne_iff_ne.mpr c49
            have H' := Aside0.mk H
            clear H
            try go_wp2
            have n0_ : Aside0 (((((w41.setCell ⟨gb496, 0, none⟩ (.bool t491)).setCell ⟨gb496, 1, none⟩ (.int .u64 t492)).setCell ⟨gb496, 2, none⟩ (.int .u64 t493)).setCell ⟨gb496, 3, none⟩ (.int .i64 t494)).heap[gb477]? = some (.cells #[.bool a0_0, .int .u64 a0_1, .int .u64 a0_2, .int .i64 a0_3] 30 (0, 0))) := ⟨by refine zL ?_; refine blk_far ?_ NB477_496.out _; refine zL ?_; refine blk_far ?_ NB477_496.out _; refine zL ?_; refine blk_far ?_ NB477_496.out _; refine zL ?_; refine blk_far ?_ NB477_496.out _; refine zL ?_; exact BK477.out⟩
            have n1_ : Aside0 (((((w41.setCell ⟨gb496, 0, none⟩ (.bool t491)).setCell ⟨gb496, 1, none⟩ (.int .u64 t492)).setCell ⟨gb496, 2, none⟩ (.int .u64 t493)).setCell ⟨gb496, 3, none⟩ (.int .i64 t494)).heap[gb478]? = some (.cells #[.bool a0_0, .int .u64 a0_1, .int .u64 a0_2] 25 (0, 0))) := ⟨by refine zL ?_; refine blk_far ?_ NB478_496.out _; refine zL ?_; refine blk_far ?_ NB478_496.out _; refine zL ?_; refine blk_far ?_ NB478_496.out _; refine zL ?_; refine blk_far ?_ NB478_496.out _; refine zL ?_; exact BK478.out⟩
            have n2_ : Aside0 (((((w41.setCell ⟨gb496, 0, none⟩ (.bool t491)).setCell ⟨gb496, 1, none⟩ (.int .u64 t492)).setCell ⟨gb496, 2, none⟩ (.int .u64 t493)).setCell ⟨gb496, 3, none⟩ (.int .i64 t494)).heap[gb490]? = some (.cells #[.bool t485, .int .u64 t486, .int .u64 t487, .int .i64 t488] 30 (0, 0))) := ⟨by refine zL ?_; refine blk_far ?_ NB490_496.out _; refine zL ?_; refine blk_far ?_ NB490_496.out _; refine zL ?_; refine blk_far ?_ NB490_496.out _; refine zL ?_; refine blk_far ?_ NB490_496.out _; refine zL ?_; exact BK490.out⟩
            have n3_ : Aside0 (((((w41.setCell ⟨gb496, 0, none⟩ (.bool t491)).setCell ⟨gb496, 1, none⟩ (.int .u64 t492)).setCell ⟨gb496, 2, none⟩ (.int .u64 t493)).setCell ⟨gb496, 3, none⟩ (.int .i64 t494)).heap[gb496]? = some (.cells #[.bool t491, .int .u64 t492, .int .u64 t493, .int .i64 t494] 30 (0, 0))) := ⟨by refine zL ?_; refine blk_put (cs := #[.bool t491, .int .u64 t492, .int .u64 t493, .int .i64 0]) ?_ 3 _ rfl; refine zL ?_; refine blk_put (cs := #[.bool t491, .int .u64 t492, .int .u64 0, .int .i64 0]) ?_ 2 _ rfl; refine zL ?_; refine blk_put (cs := #[.bool t491, .int .u64 0, .int .u64 0, .int .i64 0]) ?_ 1 _ rfl; refine zL ?_; refine blk_put (cs := #[.bool false, .int .u64 0, .int .u64 0, .int .i64 0]) ?_ 0 _ rfl; refine zL ?_; exact BK496.out⟩
            have n4_ : Aside0 (Below w.heap.size w ((((w41.setCell ⟨gb496, 0, none⟩ (.bool t491)).setCell ⟨gb496, 1, none⟩ (.int .u64 t492)).setCell ⟨gb496, 2, none⟩ (.int .u64 t493)).setCell ⟨gb496, 3, none⟩ (.int .i64 t494))) := ⟨zB HB⟩
            (try clear BK477)
            (try clear BK478)
            (try clear BK490)
            (try clear BK496)
            (try clear HB)
            generalize ((((w41.setCell ⟨gb496, 0, none⟩ (.bool t491)).setCell ⟨gb496, 1, none⟩ (.int .u64 t492)).setCell ⟨gb496, 2, none⟩ (.int .u64 t493)).setCell ⟨gb496, 3, none⟩ (.int .i64 t494)) = w65 at n0_ n1_ n2_ n3_ n4_ ⊢
            have BK477 := n0_
            have BK478 := n1_
            have BK490 := n2_
            have BK496 := n3_
            have HB := n4_
            clear n0_ n1_ n2_ n3_ n4_
            replace BK477 := Aside0.mk (blk_drew BK477.out)
            replace BK478 := Aside0.mk (blk_drew BK478.out)
            replace BK490 := Aside0.mk (blk_drew BK490.out)
            replace BK496 := Aside0.mk (blk_drew BK496.out)
            replace HB := Aside0.mk (below_drew1 HB.out)
            refine start_ (n := 22) (S := fun w' => w'.cell? ⟨gb490, 0, none⟩ = some (.bool t485) ∧ w'.cell? ⟨gb490, 1, none⟩ = some (.int .u64 t486) ∧ w'.cell? ⟨gb490, 2, none⟩ = some (.int .u64 t487) ∧ w'.cell? ⟨gb490, 3, none⟩ = some (.int .i64 t488) ∧ w'.cell? ⟨gb496, 0, none⟩ = some (.bool t491) ∧ w'.cell? ⟨gb496, 1, none⟩ = some (.int .u64 t492) ∧ w'.cell? ⟨gb496, 2, none⟩ = some (.int .u64 t493) ∧ w'.cell? ⟨gb496, 3, none⟩ = some (.int .i64 t494)) (ds := []) #[false, false, false, false, false, false, false, false, false, false, false, false, false, false, false, false, false, false, false, false, false, false] (by kernel_rfl) rfl rfl ⟨zc BK490 0, zc BK490 1, zc BK490 2, zc BK490 3, zc BK496 0, zc BK496 1, zc BK496 2, zc BK496 3⟩ (fun hHeld => ?_); refine with_tabW intrusionlaw06_AddressFormats.tab8 intrusionlaw06_AddressFormats.bits8 (fun HT_ HW_ => ?_)
            generalize w65.drew = w66 at BK477 BK478 BK490 BK496 HB hHeld ⊢
            refine zt 0 40 HT_ HW_ hHeld ?_; refine zt 1 41 HT_ HW_ hHeld ?_; refine zp 2 42 HT_ ?_; refine zp 3 43 HT_ ?_; refine zp 4 44 HT_ ?_; refine zp 5 45 HT_ ?_; refine zp 6 46 HT_ ?_; refine zp 7 47 HT_ ?_; refine zp 8 48 HT_ ?_; refine zu 9 49 HT_ ?_; refine zu 10 50 HT_ ?_; refine zu 11 51 HT_ ?_; refine zu 12 52 HT_ ?_; refine zu 13 53 HT_ ?_; refine zp 14 54 HT_ ?_; refine zp 15 55 HT_ ?_; refine zu 16 56 HT_ ?_; refine zu 17 57 HT_ ?_; refine zu 18 58 HT_ ?_; refine zu 19 59 HT_ ?_; refine zu 20 60 HT_ ?_; refine zp 21 61 HT_ ?_; refine zd HT_ ?_
            try go_wp2
            go_meet
            case rel => exact ⟨_, (true), (by first | rfl | (simp; done) | (simp [*]; done)), H', ⟨by have := HJ2.out; first | omega | exact Nat.le_refl _⟩, ⟨zK BK477⟩, ⟨zK BK478⟩, ⟨zK BK490⟩, ⟨zK BK496⟩, ⟨zB HB⟩⟩
       case rest =>
        clear HC29
        try clear p2
        try clear c3
        try clear c4
        try clear c5
        try clear c30
        try clear c33
        try clear c34
        try clear c35
        try clear c49
        try clear c49b0
        try clear c49b1
        try clear c52
        try clear c52b0
        try clear c52b1
        obtain ⟨kq, x61_28, rfl, HA, HJ28, BK477, BK478, BK490, BK496, HB⟩ := hcut
        cases kq with
        | zero => exact absurd HA.out (by simp [intrusionlaw06_AddressFormats.j1])
        | succ kj28 =>
         have H := HA.out
         clear HA
         simp only [intrusionlaw06_AddressFormats.j1] at H
         by_cases c67 : x61_28 = true
         · subst c67
           rw [if_pos rfl] at H
           obtain rfl := Option.some.inj H
           go_wp2
           go_ret
           exact ⟨by first | rfl | (simp [errW_none, errW_some] <;> rfl) | (simp [*, errW_none, errW_some] <;> rfl), by repeat (first | (with_reducible first | exact HB.out | apply below_alloc | apply pw_below_drewN | apply below_drew1 | refine below_set ?_ GE477.out | refine below_set ?_ GE478.out | refine below_set ?_ GE490.out | refine below_set ?_ GE496.out) | exact HB.out)⟩
         · replace c67 := Bool.eq_false_iff.mpr c67
           subst c67
           rw [if_neg zF] at H
           by_cases c68 : t495 = 0
           · rw [if_pos c68] at H
             have c68b0 : (t495 == 0) = true := beq_iff_eq.mpr c68
             have c68b1 : (t495 != 0) = false := bne_eq_false_iff_eq.mpr c68
             clear c68
             replace H := Option.bind_eq_some_iff.mp H
             obtain ⟨t501, A690, H⟩ := H
             try dsimp only at H
             have A69 := Aside0.mk A690
             clear A690
             replace H := Option.bind_eq_some_iff.mp H
             obtain ⟨t502, A700, H⟩ := H
             try dsimp only at H
             have A70 := Aside0.mk A700
             clear A700
             by_cases c71 : t501.toList = t502.toList
             · rw [if_pos c71] at H
               have c71b0 : (t501.toList == t502.toList) = true := beq_iff_eq.mpr c71
               have c71b1 : (t501.toList != t502.toList) = false := bne_eq_false_iff_eq.mpr c71
               clear c71
               replace H := Option.bind_eq_some_iff.mp H
               obtain ⟨⟨t503, t504, t505, t506, t507, t508⟩, A720, H⟩ := H
               try dsimp only at H
               have A72 := Aside0.mk A720
               clear A720
               replace H := Option.bind_eq_some_iff.mp H
               obtain ⟨⟨t509, t510, t511, t512, t513, t514⟩, A730, H⟩ := H
               try dsimp only at H
               have A73 := Aside0.mk A730
               clear A730
               by_cases c74 : ((!(t503 == t509) || (!(t504 == t510) || (!(t505 == t511)))) || ((!(t506 == t512) || (!(t507 == t513) || (!(t508 == t514)))))) = true
               · rw [if_pos c74] at H
                 have c74b0 : ((!(t503 == t509) || (!(t504 == t510) || (!(t505 == t511)))) || ((!(t506 == t512) || (!(t507 == t513) || (!(t508 == t514)))))) = true := c74
                 clear c74
                 obtain rfl := Option.some.inj H
                 try go_wp2
                 replace BK477 := Aside0.mk (blk_drew BK477.out)
                 replace BK478 := Aside0.mk (blk_drew BK478.out)
                 replace BK490 := Aside0.mk (blk_drew BK490.out)
                 replace BK496 := Aside0.mk (blk_drew BK496.out)
                 replace HB := Aside0.mk (below_drew1 HB.out)
                 refine start_ (n := 16) (S := fun w' => w'.cell? ⟨gb496, 0, none⟩ = some (.bool t491) ∧ w'.cell? ⟨gb496, 1, none⟩ = some (.int .u64 t492) ∧ w'.cell? ⟨gb496, 2, none⟩ = some (.int .u64 t493) ∧ w'.cell? ⟨gb496, 3, none⟩ = some (.int .i64 t494)) (ds := []) #[false, false, false, false, false, false, false, false, false, false, false, false, false, false, false, false] (by kernel_rfl) rfl rfl ⟨zc BK496 0, zc BK496 1, zc BK496 2, zc BK496 3⟩ (fun hHeld => ?_); refine with_tabW intrusionlaw06_AddressFormats.tab10 intrusionlaw06_AddressFormats.bits10 (fun HT_ HW_ => ?_)
                 generalize wc.drew = w75 at BK477 BK478 BK490 BK496 HB hHeld ⊢
                 refine zp 0 62 HT_ ?_; refine zp 1 63 HT_ ?_; refine zp 2 64 HT_ ?_; refine zt 3 65 HT_ HW_ hHeld ?_; refine zt 5 67 HT_ HW_ hHeld ?_; refine zo 4 66 HT_ (fun K hK => ?_)
                 refine zg Tryd.func36 #[.agg #[.bool t491, .int .u64 t492, .int .u64 t493, .int .i64 t494]] ?_
                 with_reducible refine (address_FormatPrefix.calls t491 t492 t493 t494 t501 _ A69.out (WOK.below hW_ (zB HB))).mono ?_
                 rintro e w76 ⟨rfl, hb⟩
                 refine ⟨_, rfl, ?_⟩
                 replace BK477 := Aside0.mk (blk_below (g := gb477) (o := .cells #[.bool a0_0, .int .u64 a0_1, .int .u64 a0_2, .int .i64 a0_3] 30 (0, 0)) (zK BK477) hb)
                 replace BK478 := Aside0.mk (blk_below (g := gb478) (o := .cells #[.bool a0_0, .int .u64 a0_1, .int .u64 a0_2] 25 (0, 0)) (zK BK478) hb)
                 replace BK490 := Aside0.mk (blk_below (g := gb490) (o := .cells #[.bool t485, .int .u64 t486, .int .u64 t487, .int .i64 t488] 30 (0, 0)) (zK BK490) hb)
                 replace BK496 := Aside0.mk (blk_below (g := gb496) (o := .cells #[.bool t491, .int .u64 t492, .int .u64 t493, .int .i64 t494] 30 (0, 0)) (zK BK496) hb)
                 replace HB := Aside0.mk (below_step (zB HB) hb)
                 (try clear hb)
                 refine hK.out _ _ ⟨zc BK496 0, zc BK496 1, zc BK496 2, zc BK496 3⟩ (fun hHeld => ?_)
                 clear hK K
                 refine zn 66 ?_; refine zo 6 68 HT_ (fun K hK => ?_)
                 refine zg Tryd.func37 #[.agg #[.bool t491, .int .u64 t492, .int .u64 t493, .int .i64 t494]] ?_
                 with_reducible refine (intrusionref06_FormatPrefix.calls kj28 t491 t492 t493 t494 t502 _ A70.out).mono ?_
                 rintro e w77 ⟨rfl, hb⟩
                 refine ⟨_, rfl, ?_⟩
                 replace BK477 := Aside0.mk (blk_below (g := gb477) (o := .cells #[.bool a0_0, .int .u64 a0_1, .int .u64 a0_2, .int .i64 a0_3] 30 (0, 0)) (zK BK477) hb)
                 replace BK478 := Aside0.mk (blk_below (g := gb478) (o := .cells #[.bool a0_0, .int .u64 a0_1, .int .u64 a0_2] 25 (0, 0)) (zK BK478) hb)
                 replace BK490 := Aside0.mk (blk_below (g := gb490) (o := .cells #[.bool t485, .int .u64 t486, .int .u64 t487, .int .i64 t488] 30 (0, 0)) (zK BK490) hb)
                 replace BK496 := Aside0.mk (blk_below (g := gb496) (o := .cells #[.bool t491, .int .u64 t492, .int .u64 t493, .int .i64 t494] 30 (0, 0)) (zK BK496) hb)
                 replace HB := Aside0.mk (below_step (zB HB) hb)
                 (try clear hb)
                 refine hK.out _ _ ⟨zc BK496 0, zc BK496 1, zc BK496 2, zc BK496 3⟩ (fun hHeld => ?_)
                 clear hK K
                 refine zn 68 ?_; refine zp 7 69 HT_ ?_; refine zp 8 70 HT_ ?_; refine zt 9 71 HT_ HW_ hHeld ?_; refine zt 11 73 HT_ HW_ hHeld ?_; refine zo 10 72 HT_ (fun K hK => ?_)
                 refine zg Tryd.func27 #[.agg #[.bool t491, .int .u64 t492, .int .u64 t493, .int .i64 t494]] ?_
                 with_reducible refine (address_Bounds.calls t491 t492 t493 t494 t503 t504 t505 t506 t507 t508 _ A72.out).mono ?_
                 rintro e w78 ⟨rfl, hb⟩
                 refine ⟨_, rfl, ?_⟩
                 replace BK477 := Aside0.mk (blk_below (g := gb477) (o := .cells #[.bool a0_0, .int .u64 a0_1, .int .u64 a0_2, .int .i64 a0_3] 30 (0, 0)) (zK BK477) hb)
                 replace BK478 := Aside0.mk (blk_below (g := gb478) (o := .cells #[.bool a0_0, .int .u64 a0_1, .int .u64 a0_2] 25 (0, 0)) (zK BK478) hb)
                 replace BK490 := Aside0.mk (blk_below (g := gb490) (o := .cells #[.bool t485, .int .u64 t486, .int .u64 t487, .int .i64 t488] 30 (0, 0)) (zK BK490) hb)
                 replace BK496 := Aside0.mk (blk_below (g := gb496) (o := .cells #[.bool t491, .int .u64 t492, .int .u64 t493, .int .i64 t494] 30 (0, 0)) (zK BK496) hb)
                 replace HB := Aside0.mk (below_step (zB HB) hb)
                 (try clear hb)
                 refine hK.out _ _ ⟨zc BK496 0, zc BK496 1, zc BK496 2, zc BK496 3⟩ (fun hHeld => ?_)
                 clear hK K
                 refine zn 72 ?_; refine zo 12 74 HT_ (fun K hK => ?_)
                 refine zg Tryd.func38 #[.agg #[.bool t491, .int .u64 t492, .int .u64 t493, .int .i64 t494]] ?_
                 with_reducible refine (intrusionref06_Bounds.calls kj28 t491 t492 t493 t494 t509 t510 t511 t512 t513 t514 _ A73.out).mono ?_
                 rintro e w79 ⟨rfl, hb⟩
                 refine ⟨_, rfl, ?_⟩
                 replace BK477 := Aside0.mk (blk_below (g := gb477) (o := .cells #[.bool a0_0, .int .u64 a0_1, .int .u64 a0_2, .int .i64 a0_3] 30 (0, 0)) (zK BK477) hb)
                 replace BK478 := Aside0.mk (blk_below (g := gb478) (o := .cells #[.bool a0_0, .int .u64 a0_1, .int .u64 a0_2] 25 (0, 0)) (zK BK478) hb)
                 replace BK490 := Aside0.mk (blk_below (g := gb490) (o := .cells #[.bool t485, .int .u64 t486, .int .u64 t487, .int .i64 t488] 30 (0, 0)) (zK BK490) hb)
                 replace BK496 := Aside0.mk (blk_below (g := gb496) (o := .cells #[.bool t491, .int .u64 t492, .int .u64 t493, .int .i64 t494] 30 (0, 0)) (zK BK496) hb)
                 replace HB := Aside0.mk (below_step (zB HB) hb)
                 (try clear hb)
                 refine hK.out _ _ ⟨zc BK496 0, zc BK496 1, zc BK496 2, zc BK496 3⟩ (fun hHeld => ?_)
                 clear hK K
                 refine zn 74 ?_; refine zp 13 75 HT_ ?_; refine zp 14 76 HT_ ?_; refine zp 15 77 HT_ ?_; refine zd HT_ ?_
                 try go_wp2
                 go_ret
                 exact ⟨by first | rfl | (simp [errW_none, errW_some] <;> rfl) | (simp [*, errW_none, errW_some] <;> rfl), by repeat (first | (with_reducible first | exact HB.out | apply below_alloc | apply pw_below_drewN | apply below_drew1 | refine below_set ?_ GE477.out | refine below_set ?_ GE478.out | refine below_set ?_ GE490.out | refine below_set ?_ GE496.out) | exact HB.out)⟩
               · rw [if_neg c74] at H
                 have c74b0 : ((!(t503 == t509) || (!(t504 == t510) || (!(t505 == t511)))) || ((!(t506 == t512) || (!(t507 == t513) || (!(t508 == t514)))))) = false := by simpa using c74
                 clear c74
                 replace H := Option.bind_eq_some_iff.mp H
                 obtain ⟨t515, A800, H⟩ := H
                 try dsimp only at H
                 have A80 := Aside0.mk A800
                 clear A800
                 obtain rfl := Option.some.inj H
                 try go_wp2
                 replace BK477 := Aside0.mk (blk_drew BK477.out)
                 replace BK478 := Aside0.mk (blk_drew BK478.out)
                 replace BK490 := Aside0.mk (blk_drew BK490.out)
                 replace BK496 := Aside0.mk (blk_drew BK496.out)
                 replace HB := Aside0.mk (below_drew1 HB.out)
                 refine start_ (n := 16) (S := fun w' => w'.cell? ⟨gb496, 0, none⟩ = some (.bool t491) ∧ w'.cell? ⟨gb496, 1, none⟩ = some (.int .u64 t492) ∧ w'.cell? ⟨gb496, 2, none⟩ = some (.int .u64 t493) ∧ w'.cell? ⟨gb496, 3, none⟩ = some (.int .i64 t494)) (ds := []) #[false, false, false, false, false, false, false, false, false, false, false, false, false, false, false, false] (by kernel_rfl) rfl rfl ⟨zc BK496 0, zc BK496 1, zc BK496 2, zc BK496 3⟩ (fun hHeld => ?_); refine with_tabW intrusionlaw06_AddressFormats.tab10 intrusionlaw06_AddressFormats.bits10 (fun HT_ HW_ => ?_)
                 generalize wc.drew = w81 at BK477 BK478 BK490 BK496 HB hHeld ⊢
                 refine zp 0 62 HT_ ?_; refine zp 1 63 HT_ ?_; refine zp 2 64 HT_ ?_; refine zt 3 65 HT_ HW_ hHeld ?_; refine zt 5 67 HT_ HW_ hHeld ?_; refine zo 4 66 HT_ (fun K hK => ?_)
                 refine zg Tryd.func36 #[.agg #[.bool t491, .int .u64 t492, .int .u64 t493, .int .i64 t494]] ?_
                 with_reducible refine (address_FormatPrefix.calls t491 t492 t493 t494 t501 _ A69.out (WOK.below hW_ (zB HB))).mono ?_
                 rintro e w82 ⟨rfl, hb⟩
                 refine ⟨_, rfl, ?_⟩
                 replace BK477 := Aside0.mk (blk_below (g := gb477) (o := .cells #[.bool a0_0, .int .u64 a0_1, .int .u64 a0_2, .int .i64 a0_3] 30 (0, 0)) (zK BK477) hb)
                 replace BK478 := Aside0.mk (blk_below (g := gb478) (o := .cells #[.bool a0_0, .int .u64 a0_1, .int .u64 a0_2] 25 (0, 0)) (zK BK478) hb)
                 replace BK490 := Aside0.mk (blk_below (g := gb490) (o := .cells #[.bool t485, .int .u64 t486, .int .u64 t487, .int .i64 t488] 30 (0, 0)) (zK BK490) hb)
                 replace BK496 := Aside0.mk (blk_below (g := gb496) (o := .cells #[.bool t491, .int .u64 t492, .int .u64 t493, .int .i64 t494] 30 (0, 0)) (zK BK496) hb)
                 replace HB := Aside0.mk (below_step (zB HB) hb)
                 (try clear hb)
                 refine hK.out _ _ ⟨zc BK496 0, zc BK496 1, zc BK496 2, zc BK496 3⟩ (fun hHeld => ?_)
                 clear hK K
                 refine zn 66 ?_; refine zo 6 68 HT_ (fun K hK => ?_)
                 refine zg Tryd.func37 #[.agg #[.bool t491, .int .u64 t492, .int .u64 t493, .int .i64 t494]] ?_
                 with_reducible refine (intrusionref06_FormatPrefix.calls kj28 t491 t492 t493 t494 t502 _ A70.out).mono ?_
                 rintro e w83 ⟨rfl, hb⟩
                 refine ⟨_, rfl, ?_⟩
                 replace BK477 := Aside0.mk (blk_below (g := gb477) (o := .cells #[.bool a0_0, .int .u64 a0_1, .int .u64 a0_2, .int .i64 a0_3] 30 (0, 0)) (zK BK477) hb)
                 replace BK478 := Aside0.mk (blk_below (g := gb478) (o := .cells #[.bool a0_0, .int .u64 a0_1, .int .u64 a0_2] 25 (0, 0)) (zK BK478) hb)
                 replace BK490 := Aside0.mk (blk_below (g := gb490) (o := .cells #[.bool t485, .int .u64 t486, .int .u64 t487, .int .i64 t488] 30 (0, 0)) (zK BK490) hb)
                 replace BK496 := Aside0.mk (blk_below (g := gb496) (o := .cells #[.bool t491, .int .u64 t492, .int .u64 t493, .int .i64 t494] 30 (0, 0)) (zK BK496) hb)
                 replace HB := Aside0.mk (below_step (zB HB) hb)
                 (try clear hb)
                 refine hK.out _ _ ⟨zc BK496 0, zc BK496 1, zc BK496 2, zc BK496 3⟩ (fun hHeld => ?_)
                 clear hK K
                 refine zn 68 ?_; refine zp 7 69 HT_ ?_; refine zp 8 70 HT_ ?_; refine zt 9 71 HT_ HW_ hHeld ?_; refine zt 11 73 HT_ HW_ hHeld ?_; refine zo 10 72 HT_ (fun K hK => ?_)
                 refine zg Tryd.func27 #[.agg #[.bool t491, .int .u64 t492, .int .u64 t493, .int .i64 t494]] ?_
                 with_reducible refine (address_Bounds.calls t491 t492 t493 t494 t503 t504 t505 t506 t507 t508 _ A72.out).mono ?_
                 rintro e w84 ⟨rfl, hb⟩
                 refine ⟨_, rfl, ?_⟩
                 replace BK477 := Aside0.mk (blk_below (g := gb477) (o := .cells #[.bool a0_0, .int .u64 a0_1, .int .u64 a0_2, .int .i64 a0_3] 30 (0, 0)) (zK BK477) hb)
                 replace BK478 := Aside0.mk (blk_below (g := gb478) (o := .cells #[.bool a0_0, .int .u64 a0_1, .int .u64 a0_2] 25 (0, 0)) (zK BK478) hb)
                 replace BK490 := Aside0.mk (blk_below (g := gb490) (o := .cells #[.bool t485, .int .u64 t486, .int .u64 t487, .int .i64 t488] 30 (0, 0)) (zK BK490) hb)
                 replace BK496 := Aside0.mk (blk_below (g := gb496) (o := .cells #[.bool t491, .int .u64 t492, .int .u64 t493, .int .i64 t494] 30 (0, 0)) (zK BK496) hb)
                 replace HB := Aside0.mk (below_step (zB HB) hb)
                 (try clear hb)
                 refine hK.out _ _ ⟨zc BK496 0, zc BK496 1, zc BK496 2, zc BK496 3⟩ (fun hHeld => ?_)
                 clear hK K
                 refine zn 72 ?_; refine zo 12 74 HT_ (fun K hK => ?_)
                 refine zg Tryd.func38 #[.agg #[.bool t491, .int .u64 t492, .int .u64 t493, .int .i64 t494]] ?_
                 with_reducible refine (intrusionref06_Bounds.calls kj28 t491 t492 t493 t494 t509 t510 t511 t512 t513 t514 _ A73.out).mono ?_
                 rintro e w85 ⟨rfl, hb⟩
                 refine ⟨_, rfl, ?_⟩
                 replace BK477 := Aside0.mk (blk_below (g := gb477) (o := .cells #[.bool a0_0, .int .u64 a0_1, .int .u64 a0_2, .int .i64 a0_3] 30 (0, 0)) (zK BK477) hb)
                 replace BK478 := Aside0.mk (blk_below (g := gb478) (o := .cells #[.bool a0_0, .int .u64 a0_1, .int .u64 a0_2] 25 (0, 0)) (zK BK478) hb)
                 replace BK490 := Aside0.mk (blk_below (g := gb490) (o := .cells #[.bool t485, .int .u64 t486, .int .u64 t487, .int .i64 t488] 30 (0, 0)) (zK BK490) hb)
                 replace BK496 := Aside0.mk (blk_below (g := gb496) (o := .cells #[.bool t491, .int .u64 t492, .int .u64 t493, .int .i64 t494] 30 (0, 0)) (zK BK496) hb)
                 replace HB := Aside0.mk (below_step (zB HB) hb)
                 (try clear hb)
                 refine hK.out _ _ ⟨zc BK496 0, zc BK496 1, zc BK496 2, zc BK496 3⟩ (fun hHeld => ?_)
                 clear hK K
                 refine zn 74 ?_; refine zp 13 75 HT_ ?_; refine zp 14 76 HT_ ?_; refine zp 15 77 HT_ ?_; refine zd HT_ ?_
                 try go_wp2_with (first | ((with_reducible refine gate_callee (f := 10) rfl ?_); refine goesL_ (some 78) rfl rfl Tryd.func10 (by kernel_rfl) rfl #[] rfl (by (try simp only [List.map_toArray, List.map_cons, List.map_nil]); first | done | rfl | (simp only [List.length_drop, List.length_take]; rfl)) ?_; (with_reducible refine (intrusionlaw06_lives.calls  t515 _ A80.out (WOK.below hW_ (zB HB))).mono ?_); rintro e w86 ⟨rfl, hb⟩; refine ⟨_, rfl, ?_⟩; replace BK477 := Aside0.mk (blk_below (g := gb477) (o := .cells #[.bool a0_0, .int .u64 a0_1, .int .u64 a0_2, .int .i64 a0_3] 30 (0, 0)) (zK BK477) hb); replace BK478 := Aside0.mk (blk_below (g := gb478) (o := .cells #[.bool a0_0, .int .u64 a0_1, .int .u64 a0_2] 25 (0, 0)) (zK BK478) hb); replace BK490 := Aside0.mk (blk_below (g := gb490) (o := .cells #[.bool t485, .int .u64 t486, .int .u64 t487, .int .i64 t488] 30 (0, 0)) (zK BK490) hb); replace BK496 := Aside0.mk (blk_below (g := gb496) (o := .cells #[.bool t491, .int .u64 t492, .int .u64 t493, .int .i64 t494] 30 (0, 0)) (zK BK496) hb); replace HB := Aside0.mk (below_step (zB HB) hb); (try clear hb)))
                 go_ret
                 exact ⟨by first | rfl | (simp [errW_none, errW_some] <;> rfl) | (simp [*, errW_none, errW_some] <;> rfl), by repeat (first | (with_reducible first | exact HB.out | apply below_alloc | apply pw_below_drewN | apply below_drew1 | refine below_set ?_ GE477.out | refine below_set ?_ GE478.out | refine below_set ?_ GE490.out | refine below_set ?_ GE496.out) | exact HB.out)⟩
             · rw [if_neg c71] at H
               have c71b0 : (t501.toList == t502.toList) = false := beq_eq_false_iff_ne.mpr c71
               have c71b1 : (t501.toList != t502.toList) = true := bne_iff_ne.mpr c71
               obtain rfl := Option.some.inj H
               try go_wp2
               replace BK477 := Aside0.mk (blk_drew BK477.out)
               replace BK478 := Aside0.mk (blk_drew BK478.out)
               replace BK490 := Aside0.mk (blk_drew BK490.out)
               replace BK496 := Aside0.mk (blk_drew BK496.out)
               replace HB := Aside0.mk (below_drew1 HB.out)
               refine start_ (n := 16) (S := fun w' => w'.cell? ⟨gb496, 0, none⟩ = some (.bool t491) ∧ w'.cell? ⟨gb496, 1, none⟩ = some (.int .u64 t492) ∧ w'.cell? ⟨gb496, 2, none⟩ = some (.int .u64 t493) ∧ w'.cell? ⟨gb496, 3, none⟩ = some (.int .i64 t494)) (ds := []) #[false, false, false, false, false, false, false, false, false, false, false, false, false, false, false, false] (by kernel_rfl) rfl rfl ⟨zc BK496 0, zc BK496 1, zc BK496 2, zc BK496 3⟩ (fun hHeld => ?_); refine with_tabW intrusionlaw06_AddressFormats.tab10 intrusionlaw06_AddressFormats.bits10 (fun HT_ HW_ => ?_)
               generalize wc.drew = w87 at BK477 BK478 BK490 BK496 HB hHeld ⊢
               refine zp 0 62 HT_ ?_; refine zp 1 63 HT_ ?_; refine zp 2 64 HT_ ?_; refine zt 3 65 HT_ HW_ hHeld ?_; refine zt 5 67 HT_ HW_ hHeld ?_; refine zo 4 66 HT_ (fun K hK => ?_)
               refine zg Tryd.func36 #[.agg #[.bool t491, .int .u64 t492, .int .u64 t493, .int .i64 t494]] ?_
               with_reducible refine (address_FormatPrefix.calls t491 t492 t493 t494 t501 _ A69.out (WOK.below hW_ (zB HB))).mono ?_
               rintro e w88 ⟨rfl, hb⟩
               refine ⟨_, rfl, ?_⟩
               replace BK477 := Aside0.mk (blk_below (g := gb477) (o := .cells #[.bool a0_0, .int .u64 a0_1, .int .u64 a0_2, .int .i64 a0_3] 30 (0, 0)) (zK BK477) hb)
               replace BK478 := Aside0.mk (blk_below (g := gb478) (o := .cells #[.bool a0_0, .int .u64 a0_1, .int .u64 a0_2] 25 (0, 0)) (zK BK478) hb)
               replace BK490 := Aside0.mk (blk_below (g := gb490) (o := .cells #[.bool t485, .int .u64 t486, .int .u64 t487, .int .i64 t488] 30 (0, 0)) (zK BK490) hb)
               replace BK496 := Aside0.mk (blk_below (g := gb496) (o := .cells #[.bool t491, .int .u64 t492, .int .u64 t493, .int .i64 t494] 30 (0, 0)) (zK BK496) hb)
               replace HB := Aside0.mk (below_step (zB HB) hb)
               (try clear hb)
               refine hK.out _ _ ⟨zc BK496 0, zc BK496 1, zc BK496 2, zc BK496 3⟩ (fun hHeld => ?_)
               clear hK K
               refine zn 66 ?_; refine zo 6 68 HT_ (fun K hK => ?_)
               refine zg Tryd.func37 #[.agg #[.bool t491, .int .u64 t492, .int .u64 t493, .int .i64 t494]] ?_
               with_reducible refine (intrusionref06_FormatPrefix.calls kj28 t491 t492 t493 t494 t502 _ A70.out).mono ?_
               rintro e w89 ⟨rfl, hb⟩
               refine ⟨_, rfl, ?_⟩
               replace BK477 := Aside0.mk (blk_below (g := gb477) (o := .cells #[.bool a0_0, .int .u64 a0_1, .int .u64 a0_2, .int .i64 a0_3] 30 (0, 0)) (zK BK477) hb)
               replace BK478 := Aside0.mk (blk_below (g := gb478) (o := .cells #[.bool a0_0, .int .u64 a0_1, .int .u64 a0_2] 25 (0, 0)) (zK BK478) hb)
               replace BK490 := Aside0.mk (blk_below (g := gb490) (o := .cells #[.bool t485, .int .u64 t486, .int .u64 t487, .int .i64 t488] 30 (0, 0)) (zK BK490) hb)
               replace BK496 := Aside0.mk (blk_below (g := gb496) (o := .cells #[.bool t491, .int .u64 t492, .int .u64 t493, .int .i64 t494] 30 (0, 0)) (zK BK496) hb)
               replace HB := Aside0.mk (below_step (zB HB) hb)
               (try clear hb)
               refine hK.out _ _ ⟨zc BK496 0, zc BK496 1, zc BK496 2, zc BK496 3⟩ (fun hHeld => ?_)
               clear hK K
               refine zn 68 ?_; refine zp 7 69 HT_ ?_; refine zp 8 70 HT_ ?_; refine zu 9 71 HT_ ?_; refine zu 10 72 HT_ ?_; refine zu 11 73 HT_ ?_; refine zu 12 74 HT_ ?_; refine zu 13 75 HT_ ?_; refine zp 14 76 HT_ ?_; refine zp 15 77 HT_ ?_; refine zd HT_ ?_
               try go_wp2
               go_ret
               exact ⟨by first | rfl | (simp [errW_none, errW_some] <;> rfl) | (simp [*, errW_none, errW_some] <;> rfl), by repeat (first | (with_reducible first | exact HB.out | apply below_alloc | apply pw_below_drewN | apply below_drew1 | refine below_set ?_ GE477.out | refine below_set ?_ GE478.out | refine below_set ?_ GE490.out | refine below_set ?_ GE496.out) | exact HB.out)⟩
           · rw [if_neg c68] at H
             have c68b0 : (t495 == 0) = false := beq_eq_false_iff_ne.mpr c68
             have c68b1 : (t495 != 0) = true := bne_iff_ne.mpr c68
             replace H := Option.bind_eq_some_iff.mp H
             obtain ⟨t516, A900, H⟩ := H
             try dsimp only at H
             have A90 := Aside0.mk A900
             clear A900
             obtain rfl := Option.some.inj H
             try go_wp2
             replace BK477 := Aside0.mk (blk_drew BK477.out)
             replace BK478 := Aside0.mk (blk_drew BK478.out)
             replace BK490 := Aside0.mk (blk_drew BK490.out)
             replace BK496 := Aside0.mk (blk_drew BK496.out)
             replace HB := Aside0.mk (below_drew1 HB.out)
             refine start_ (n := 16) (S := fun w' => True) (ds := []) #[false, false, false, false, false, false, false, false, false, false, false, false, false, false, false, false] (by kernel_rfl) rfl rfl trivial (fun hHeld => ?_); refine with_tabW intrusionlaw06_AddressFormats.tab10 intrusionlaw06_AddressFormats.bits10 (fun HT_ HW_ => ?_)
             generalize wc.drew = w91 at BK477 BK478 BK490 BK496 HB hHeld ⊢
             refine zp 0 62 HT_ ?_; refine zp 1 63 HT_ ?_; refine zp 2 64 HT_ ?_; refine zu 3 65 HT_ ?_; refine zu 4 66 HT_ ?_; refine zu 5 67 HT_ ?_; refine zu 6 68 HT_ ?_; refine zu 7 69 HT_ ?_; refine zu 8 70 HT_ ?_; refine zu 9 71 HT_ ?_; refine zu 10 72 HT_ ?_; refine zu 11 73 HT_ ?_; refine zu 12 74 HT_ ?_; refine zu 13 75 HT_ ?_; refine zu 14 76 HT_ ?_; refine zp 15 77 HT_ ?_; refine zd HT_ ?_
             try go_wp2_with (first | ((with_reducible refine gate_callee (f := 10) rfl ?_); refine goesL_ (some 78) rfl rfl Tryd.func10 (by kernel_rfl) rfl #[] rfl (by (try simp only [List.map_toArray, List.map_cons, List.map_nil]); first | done | rfl | (simp only [List.length_drop, List.length_take]; rfl)) ?_; (with_reducible refine (intrusionlaw06_lives.calls  t516 _ A90.out (WOK.below hW_ (zB HB))).mono ?_); rintro e w92 ⟨rfl, hb⟩; refine ⟨_, rfl, ?_⟩; replace BK477 := Aside0.mk (blk_below (g := gb477) (o := .cells #[.bool a0_0, .int .u64 a0_1, .int .u64 a0_2, .int .i64 a0_3] 30 (0, 0)) (zK BK477) hb); replace BK478 := Aside0.mk (blk_below (g := gb478) (o := .cells #[.bool a0_0, .int .u64 a0_1, .int .u64 a0_2] 25 (0, 0)) (zK BK478) hb); replace BK490 := Aside0.mk (blk_below (g := gb490) (o := .cells #[.bool t485, .int .u64 t486, .int .u64 t487, .int .i64 t488] 30 (0, 0)) (zK BK490) hb); replace BK496 := Aside0.mk (blk_below (g := gb496) (o := .cells #[.bool t491, .int .u64 t492, .int .u64 t493, .int .i64 t494] 30 (0, 0)) (zK BK496) hb); replace HB := Aside0.mk (below_step (zB HB) hb); (try clear hb)))
             go_ret
             exact ⟨by first | rfl | (simp [errW_none, errW_some] <;> rfl) | (simp [*, errW_none, errW_some] <;> rfl), by repeat (first | (with_reducible first | exact HB.out | apply below_alloc | apply pw_below_drewN | apply below_drew1 | refine below_set ?_ GE477.out | refine below_set ?_ GE478.out | refine below_set ?_ GE490.out | refine below_set ?_ GE496.out) | exact HB.out)⟩
     · replace c26 := Bool.eq_false_iff.mpr c26
       subst c26
       rw [if_neg zF] at H
       replace H := Option.bind_eq_some_iff.mp H
       obtain ⟨t484, A930, H⟩ := H
       try dsimp only at H
       have A93 := Aside0.mk A930
       clear A930
       obtain rfl := Option.some.inj H
       have hnb94 := NB478_477.out
       have hnc94 := NB477_478.out
       obtain ⟨hcz95_0, hcz95_1, hcz95_2⟩ := zc3 BK478
       obtain ⟨hfz95_0, hfz95_1, hfz95_2⟩ := zf3 BK478
       go_wp2_with (first | ((with_reducible refine gate_callee (f := 15) rfl ?_); refine goesL_ (some 25) rfl rfl Tryd.func15 (by kernel_rfl) rfl #[.agg #[.bool a0_0, .int .u64 a0_1, .int .u64 a0_2]] rfl (by (try simp only [List.map_toArray, List.map_cons, List.map_nil]); first | done | rfl | (simp only [List.length_drop, List.length_take]; rfl)) ?_; (with_reducible refine (intrusionref06_Valid.calls a0_0 a0_1 a0_2 false _ A25.out).mono ?_); rintro e w96 ⟨rfl, hb⟩; refine ⟨_, rfl, ?_⟩; replace BK477 := Aside0.mk (blk_below (g := gb477) (o := .cells #[.bool a0_0, .int .u64 a0_1, .int .u64 a0_2, .int .i64 a0_3] 30 (0, 0)) (zK BK477) hb); replace BK478 := Aside0.mk (blk_below (g := gb478) (o := .cells #[.bool a0_0, .int .u64 a0_1, .int .u64 a0_2] 25 (0, 0)) (zK BK478) hb); replace HB := Aside0.mk (below_step (zB HB) hb); (try clear hb)) | ((with_reducible refine gate_callee (f := 10) rfl ?_); refine goesL_ (some 27) rfl rfl Tryd.func10 (by kernel_rfl) rfl #[] rfl (by (try simp only [List.map_toArray, List.map_cons, List.map_nil]); first | done | rfl | (simp only [List.length_drop, List.length_take]; rfl)) ?_; (with_reducible refine (intrusionlaw06_lives.calls  t484 _ A93.out (WOK.below hW_ (zB HB))).mono ?_); rintro e w97 ⟨rfl, hb⟩; refine ⟨_, rfl, ?_⟩; replace BK477 := Aside0.mk (blk_below (g := gb477) (o := .cells #[.bool a0_0, .int .u64 a0_1, .int .u64 a0_2, .int .i64 a0_3] 30 (0, 0)) (zK BK477) hb); replace BK478 := Aside0.mk (blk_below (g := gb478) (o := .cells #[.bool a0_0, .int .u64 a0_1, .int .u64 a0_2] 25 (0, 0)) (zK BK478) hb); replace HB := Aside0.mk (below_step (zB HB) hb); (try clear hb)))
       go_ret
       exact ⟨by first | rfl | (simp [errW_none, errW_some] <;> rfl) | (simp [*, errW_none, errW_some] <;> rfl), by repeat (first | (with_reducible first | exact HB.out | apply below_alloc | apply pw_below_drewN | apply below_drew1 | refine below_set ?_ GE477.out | refine below_set ?_ GE478.out) | exact HB.out)⟩
end Go.Proofs.YtlgfinnldhjgeaaDoor.Q
end

section
set_option linter.unusedVariables false
namespace Go.Proofs.YtlgfinnldhjgeaaDoor.Read
open Go.RowKit Go.Deep Go.WideShapes Go.Proofs.YtlgfinnldhjgeaaDoorW.PrintWords
def Reads {α : Type} (P : Program) (W : World) (d : Kd α) (Q : α → Prop) (t : TypeId) : Prop :=
  ∀ (H : Type) (enc : TypeId × Value → H) (fuel : Nat) (cs : List Value) (x : DataW H × List MemPlace), DataW.trod enc P W 0 (fun _ => true) true fuel t cs = some x → ∃ y, d.K W y cs ∧ Q y
section
variable {P : Program} {W : World}
theorem reads_int {k : IntKind} {t : TypeId} (ht : P.underlying t = some (.int k)) : Reads P W (Kd.int k) (fun n => (Lit.int k n).wf = true) t := by
  intro H enc fuel cs x h
  obtain ⟨n, rfl, _, hw⟩ := DataW.trod_int ht h
  exact ⟨n, rfl, hw⟩
theorem reads_bool {t : TypeId} (ht : P.underlying t = some .bool) : Reads P W Kd.bool (fun _ => True) t := by
  intro H enc fuel cs x h
  obtain ⟨n, rfl, _⟩ := DataW.trod_bool ht h
  exact ⟨n, rfl, trivial⟩
theorem pair_mk {α β : Type} {a : Kd α} {b : Kd β} {x : α} {y : β} {cs : List Value} (s : Nat) (h0 : a.K W x (cs.take s)) (h1 : b.K W y (cs.drop s)) : (Kd.pair a b).K W (x, y) cs :=
  ⟨cs.take s, cs.drop s, (List.take_append_drop s cs).symm, h0, h1⟩
theorem field_at {α : Type} {d : Kd α} {Q : α → Prop} {fs : Array Field} {H : Type} {enc : TypeId × Value → H} {n : Nat} {cs : List Value} {xs : List (DataW H × List MemPlace)} (hl : xs.length = fs.size)
    (hf : ∀ (i : Nat) (f : Field), fs[i]? = some f → DataW.trod enc P W 0 (fun _ => true) true n f.type ((cs.drop f.offset).take (P.cellsOf f.type)) = xs[i]?)
    (i : Nat) {f : Field} (hi : fs[i]? = some f) {t off sz : Nat} (ht : f.type = t) (ho : f.offset = off) (hc : P.cellsOf t = sz) (hr : Reads P W d Q t) : ∃ y, d.K W y ((cs.drop off).take sz) ∧ Q y := by
  subst ht ho hc
  have h := hf i f hi
  have hlt : i < xs.length := by rw [hl]; exact (Array.getElem?_eq_some_iff.1 hi).1
  rw [List.getElem?_eq_getElem hlt] at h
  exact hr H enc n _ _ h
end
end Go.Proofs.YtlgfinnldhjgeaaDoor.Read
end

section
set_option linter.unusedVariables false
namespace Go.Proofs.YtlgfinnldhjgeaaDoor.Q
open Go.RowKit Go.Proofs.YtlgfinnldhjgeaaDoorW.PrintWords Go.Proofs.YtlgfinnldhjgeaaDoor.Read
def q25 (x : S25) : Prop := True ∧ (Lit.int .u64 x.f1).wf = true ∧ (Lit.int .u64 x.f2).wf = true
theorem reads_k25 (W : World) : Reads Tryd.prog W k25 q25 25 := by
  intro H enc fuel cs x h
  obtain ⟨xs, n, rfl, _, hcl, hxl, hf⟩ := DataW.trod_struct Tryd.underlying25 h
  have hc : cs.length = 3 := hcl.trans (by kernel_rfl)
  obtain ⟨y0, h0, g0⟩ := field_at hxl hf 0 rfl (t := 4) (off := 0) (sz := 1) rfl rfl (by kernel_rfl) (reads_bool Tryd.underlying4)
  obtain ⟨y1, h1, g1⟩ := field_at hxl hf 1 rfl (t := 23) (off := 1) (sz := 1) rfl rfl (by kernel_rfl) (reads_int Tryd.underlying23)
  obtain ⟨y2, h2, g2⟩ := field_at hxl hf 2 rfl (t := 23) (off := 2) (sz := 1) rfl rfl (by kernel_rfl) (reads_int Tryd.underlying23)
  refine ⟨⟨y0, y1, y2⟩, ?_, ⟨g0, g1, g2⟩⟩
  rw [show (cs.drop 0).take 1 = (cs.drop 0).take 1 from rfl] at h0
  rw [show (cs.drop 1).take 1 = (cs.drop 1).take 1 from rfl] at h1
  rw [show (cs.drop 2).take 1 = (cs.drop 2) from List.take_of_length_le (by rw [List.length_drop, hc]; decide)] at h2
  skip
  simp only [show 2 = 1 + 1 from rfl, ← List.drop_drop] at h2
  have e0 : cs.drop 0 = cs := rfl
  rw [e0] at h0
  exact pair_mk (a := Kd.bool) 1 h0 (pair_mk (a := (Kd.int .u64)) 1 h1 (h2))
def q30 (x : S30) : Prop := q25 x.f0 ∧ (Lit.int .i64 x.f1).wf = true
theorem reads_k30 (W : World) : Reads Tryd.prog W k30 q30 30 := by
  intro H enc fuel cs x h
  obtain ⟨xs, n, rfl, _, hcl, hxl, hf⟩ := DataW.trod_struct Tryd.underlying30 h
  have hc : cs.length = 4 := hcl.trans (by kernel_rfl)
  obtain ⟨y0, h0, g0⟩ := field_at hxl hf 0 rfl (t := 25) (off := 0) (sz := 3) rfl rfl (by kernel_rfl) (reads_k25 W)
  obtain ⟨y1, h1, g1⟩ := field_at hxl hf 1 rfl (t := 3) (off := 3) (sz := 1) rfl rfl (by kernel_rfl) (reads_int Tryd.underlying3)
  refine ⟨⟨y0, y1⟩, ?_, ⟨g0, g1⟩⟩
  rw [show (cs.drop 0).take 3 = (cs.drop 0).take 3 from rfl] at h0
  rw [show (cs.drop 3).take 1 = (cs.drop 3) from List.take_of_length_le (by rw [List.length_drop, hc]; decide)] at h1
  skip
  have e0 : cs.drop 0 = cs := rfl
  rw [e0] at h0
  exact pair_mk (a := k25) 3 h0 (h1)
end Go.Proofs.YtlgfinnldhjgeaaDoor.Q
end

section
set_option linter.unusedVariables false
set_option linter.unusedSimpArgs false
namespace Go.Proofs.YtlgfinnldhjgeaaDoor.Q
open Go.RowKit Go.Sort Go.Lib Go.Proofs.YtlgfinnldhjgeaaDoorW.PrintWords Go.Proofs.YtlgfinnldhjgeaaDoorW.PrintLast Go.Proofs.YtlgfinnldhjgeaaDoorW.PrintMore
def intrusionref06_Compare.f (a0_0 : Bool) (a0_1 : Int) (a0_2 : Int) (a1_0 : Bool) (a1_1 : Int) (a1_2 : Int) : Option (Int) := some (cmpA ⟨a0_0, a0_1, a0_2⟩ ⟨a1_0, a1_1, a1_2⟩)
end Go.Proofs.YtlgfinnldhjgeaaDoor.Q
end

section
set_option linter.unusedVariables false
set_option linter.unusedSimpArgs false
namespace Go.Proofs.YtlgfinnldhjgeaaDoor.Q
open Go.RowKit Go.Proofs.YtlgfinnldhjgeaaDoorW.PrintWords Go.Proofs.YtlgfinnldhjgeaaDoorW.PrintLast Go.Proofs.YtlgfinnldhjgeaaDoorW.PrintMore
def address_Previous.f (a0_0 : Bool) (a0_1 : Int) (a0_2 : Int) : Option (Bool × Int × Int × Bool) := if (a0_1 == 0 && (a0_2 == 0)) = true then (some (false, 0, 0, false)) else some (a0_0, (if a0_2 = 0 then IntKind.u64.wrap (a0_1 - 1) else a0_1), IntKind.u64.wrap (a0_2 - 1), true)
end Go.Proofs.YtlgfinnldhjgeaaDoor.Q
end

section
namespace Go.Proofs.YtlgfinnldhjgeaaDoor.Q
open Go.RowKit Go.Proofs.YtlgfinnldhjgeaaDoorW.PrintWords Go.Proofs.YtlgfinnldhjgeaaDoorW.PrintLast Go.Proofs.YtlgfinnldhjgeaaDoorW.PrintMore
attribute [local go_sem] max2_int min2_int max_two min_two max_three min_three max_four min_four
set_option linter.unusedVariables false
set_option linter.unusedSimpArgs false
def intrusionref06_Next.j0 : Nat → Bool → Bool → Int → Int → Option (Bool × Int × Int × Bool)
  | 0, _, _, _, _ => none
  | k + 1, x14, x294000, x294001, x294002 => if x14 = true then (if x294000 = true then (if x294002 = 0 then (if (IntKind.u64.wrap (x294001 + 1)) = 0 then (some (false, 0, 0, false)) else (some (x294000, IntKind.u64.wrap (x294001 + 1), x294002, true))) else (some (x294000, IntKind.u64.wrap (x294001 + 1), x294002, true))) else (if x294002 = 4294967296 then (some (false, 0, 0, false)) else (some (x294000, IntKind.u64.wrap (x294001 + 1), x294002, true)))) else (if x294000 = true then (if x294002 = 0 then (if x294001 = 0 then (some (false, 0, 0, false)) else (some (x294000, x294001, x294002, true))) else (some (x294000, x294001, x294002, true))) else (if x294002 = 4294967296 then (some (false, 0, 0, false)) else (some (x294000, x294001, x294002, true))))
def intrusionref06_Next.f (k : Nat) (a0_0 : Bool) (a0_1 : Int) (a0_2 : Int) : Option (Bool × Int × Int × Bool) := if a0_0 = true then (intrusionref06_Next.j0 k ((IntKind.u64.wrap (a0_2 + 1)) == 0) a0_0 a0_1 (IntKind.u64.wrap (a0_2 + 1))) else (intrusionref06_Next.j0 k false a0_0 a0_1 (IntKind.u64.wrap (a0_2 + 1)))
theorem intrusionref06_Next.mono_l : ∀ k, (∀ y0 y1 y2 y3, LeO (intrusionref06_Next.j0 k y0 y1 y2 y3) (intrusionref06_Next.j0 (k + 1) y0 y1 y2 y3))
  | 0 => fun _ _ _ _ r h => by simp [intrusionref06_Next.j0] at h
  | k + 1 => by
    have ih0 := intrusionref06_Next.mono_l k
    · intro y0 y1 y2 y3
      unfold intrusionref06_Next.j0
      repeat' first
      | (with_reducible exact ih0 _ _ _ _)
      | (with_reducible exact LeO.refl _)
      | (with_reducible exact LeO.none _)
      | (with_reducible refine LeO.ite ?_ ?_)
      | (with_reducible refine LeO.bind ?_ (fun _ => ?_))
      | exact ih0 _ _ _ _
      | exact LeO.none _
      | refine LeO.ite ?_ ?_
      | refine LeO.bind ?_ (fun _ => ?_)
theorem intrusionref06_Next.mono : ∀ a0 a1 a2 k, LeO (intrusionref06_Next.f k a0 a1 a2) (intrusionref06_Next.f (k + 1) a0 a1 a2) := by
  intro a0 a1 a2 k
  have ih0 := intrusionref06_Next.mono_l k
  unfold intrusionref06_Next.f
  repeat' first
      | (with_reducible exact ih0 _ _ _ _)
      | (with_reducible exact LeO.refl _)
      | (with_reducible exact LeO.none _)
      | (with_reducible refine LeO.ite ?_ ?_)
      | (with_reducible refine LeO.bind ?_ (fun _ => ?_))
      | exact ih0 _ _ _ _
      | exact LeO.none _
      | refine LeO.ite ?_ ?_
      | refine LeO.bind ?_ (fun _ => ?_)
end Go.Proofs.YtlgfinnldhjgeaaDoor.Q
end

section
namespace Go.Proofs.YtlgfinnldhjgeaaDoor.Q
open Go.RowKit Go.Proofs.YtlgfinnldhjgeaaDoorW.PrintWords Go.Proofs.YtlgfinnldhjgeaaDoorW.PrintLast Go.Proofs.YtlgfinnldhjgeaaDoorW.PrintMore
attribute [local go_sem] max2_int min2_int max_two min_two max_three min_three max_four min_four
set_option linter.unusedVariables false
set_option linter.unusedSimpArgs false
def intrusionref06_Previous.j0 : Nat → Bool → Bool → Int → Int → Option (Bool × Int × Int × Bool)
  | 0, _, _, _, _ => none
  | k + 1, x11, x296000, x296001, x296002 => if x11 = true then (some (false, 0, 0, false)) else (if x296002 = 0 then (some (x296000, IntKind.u64.wrap (x296001 - 1), IntKind.u64.wrap (x296002 - 1), true)) else (some (x296000, x296001, IntKind.u64.wrap (x296002 - 1), true)))
def intrusionref06_Previous.f (k : Nat) (a0_0 : Bool) (a0_1 : Int) (a0_2 : Int) : Option (Bool × Int × Int × Bool) := if a0_2 = 0 then (intrusionref06_Previous.j0 k (a0_1 == 0) a0_0 a0_1 a0_2) else (intrusionref06_Previous.j0 k false a0_0 a0_1 a0_2)
theorem intrusionref06_Previous.mono_l : ∀ k, (∀ y0 y1 y2 y3, LeO (intrusionref06_Previous.j0 k y0 y1 y2 y3) (intrusionref06_Previous.j0 (k + 1) y0 y1 y2 y3))
  | 0 => fun _ _ _ _ r h => by simp [intrusionref06_Previous.j0] at h
  | k + 1 => by
    have ih0 := intrusionref06_Previous.mono_l k
    · intro y0 y1 y2 y3
      unfold intrusionref06_Previous.j0
      repeat' first
      | (with_reducible exact ih0 _ _ _ _)
      | (with_reducible exact LeO.refl _)
      | (with_reducible exact LeO.none _)
      | (with_reducible refine LeO.ite ?_ ?_)
      | (with_reducible refine LeO.bind ?_ (fun _ => ?_))
      | exact ih0 _ _ _ _
      | exact LeO.none _
      | refine LeO.ite ?_ ?_
      | refine LeO.bind ?_ (fun _ => ?_)
theorem intrusionref06_Previous.mono : ∀ a0 a1 a2 k, LeO (intrusionref06_Previous.f k a0 a1 a2) (intrusionref06_Previous.f (k + 1) a0 a1 a2) := by
  intro a0 a1 a2 k
  have ih0 := intrusionref06_Previous.mono_l k
  unfold intrusionref06_Previous.f
  repeat' first
      | (with_reducible exact ih0 _ _ _ _)
      | (with_reducible exact LeO.refl _)
      | (with_reducible exact LeO.none _)
      | (with_reducible refine LeO.ite ?_ ?_)
      | (with_reducible refine LeO.bind ?_ (fun _ => ?_))
      | exact ih0 _ _ _ _
      | exact LeO.none _
      | refine LeO.ite ?_ ?_
      | refine LeO.bind ?_ (fun _ => ?_)
end Go.Proofs.YtlgfinnldhjgeaaDoor.Q
end

section
set_option linter.unusedVariables false
set_option linter.unusedSimpArgs false
namespace Go.Proofs.YtlgfinnldhjgeaaDoor.Q
open Go.RowKit Go.Proofs.YtlgfinnldhjgeaaDoorW.PrintWords Go.Proofs.YtlgfinnldhjgeaaDoorW.PrintLast Go.Proofs.YtlgfinnldhjgeaaDoorW.PrintMore
abbrev Ad := S25
abbrev Px := S30
def AW (a : Ad) : Prop := 0 ≤ a.f1 ∧ a.f1 < 18446744073709551616 ∧ 0 ≤ a.f2 ∧ a.f2 < 18446744073709551616
def AF (a : Ad) : Prop := AW a ∧ (a.f0 = true ∨ (a.f1 = 0 ∧ a.f2 ≤ 4294967295))
theorem wf_u64 {n : Int} (h : (Lit.int .u64 n).wf = true) : 0 ≤ n ∧ n < 18446744073709551616 := by
  simp only [Lit.wf, Bool.and_eq_true, decide_eq_true_eq] at h
  have e1 : IntKind.u64.min = 0 := by decide
  have e2 : IntKind.u64.max = 18446744073709551615 := by decide
  rw [e1, e2] at h
  omega
theorem aw_of {a : Ad} (h : q25 a) : AW a := by
  obtain ⟨_, h1, h2⟩ := h
  have := wf_u64 h1
  have := wf_u64 h2
  exact ⟨by omega, by omega, by omega, by omega⟩
def fineB (a : Ad) : Bool := a.f0 || (decide (a.f1 = 0) && decide (a.f2 ≤ 4294967295))
theorem fine_eq (a : Ad) : address_Valid.f a.f0 a.f1 a.f2 = some (fineB a) := by
  unfold address_Valid.f fineB
  cases a.f0
  · by_cases h : a.f1 = 0 <;> simp [h]
  · simp
theorem rfine_eq (a : Ad) : intrusionref06_Valid.f a.f0 a.f1 a.f2 = some (fineB a) := by
  unfold intrusionref06_Valid.f fineB
  cases a.f0
  · by_cases h : a.f1 = 0
    · simp [h]; omega
    · simp [h]
  · simp
theorem fine_iff {a : Ad} (ha : AW a) : fineB a = true ↔ AF a := by
  unfold fineB AF
  simp only [Bool.or_eq_true, Bool.and_eq_true, decide_eq_true_eq]
  exact ⟨fun h => ⟨ha, h⟩, fun h => h.2⟩
theorem u64_id {n : Int} (h0 : 0 ≤ n) (h1 : n < 18446744073709551616) : IntKind.u64.wrap n = n := IntWalk.u64_in n ⟨h0, by omega⟩
instance decAd : DecidableEq Ad := fun a b => decidable_of_iff (a.f0 = b.f0 ∧ a.f1 = b.f1 ∧ a.f2 = b.f2) ⟨fun h => by cases a; cases b; simp at h; simp [h], fun h => by rw [h]; exact ⟨rfl, rfl, rfl⟩⟩
def nextA (a : Ad) : Ad := ⟨a.f0, if IntKind.u64.wrap (a.f2 + 1) = 0 then IntKind.u64.wrap (a.f1 + 1) else a.f1, IntKind.u64.wrap (a.f2 + 1)⟩
def topA (f : Bool) : Ad := if f then ⟨true, 18446744073709551615, 18446744073709551615⟩ else ⟨false, 0, 4294967295⟩
theorem next_eq (a : Ad) (h : AF a) : address_Next.f a.f0 a.f1 a.f2 = some (if a = topA a.f0 then (false, 0, 0, false) else ((nextA a).f0, (nextA a).f1, (nextA a).f2, true)) := by
  obtain ⟨a0, a1, a2⟩ := a
  have e : address_last.f a0 = some ((topA a0).f0, (topA a0).f1, (topA a0).f2) := by cases a0 <;> rfl
  unfold address_Next.f
  rw [e]
  simp only [Option.bind_some]
  have e2 : (a0 == (topA a0).f0 && (a1 == (topA a0).f1 && (a2 == (topA a0).f2))) = decide ((⟨a0, a1, a2⟩ : Ad) = topA a0) := by
    rw [Bool.eq_iff_iff]
    simp only [Bool.and_eq_true, beq_iff_eq, decide_eq_true_eq]
    constructor
    · rintro ⟨h1, h2, h3⟩
      cases a0 <;> simp [topA] at * <;> simp [h2, h3]
    · intro h
      rw [← h]
      exact ⟨rfl, rfl, rfl⟩
  rw [e2]
  by_cases c : (⟨a0, a1, a2⟩ : Ad) = topA a0
  · rw [if_pos (decide_eq_true c), if_pos c]
  · rw [if_neg (by simpa using c), if_neg c]
    unfold nextA
    by_cases d : IntKind.u64.wrap (a2 + 1) = 0
    · simp [d]
    · simp [d]
theorem ends_eq (x y : Ad) : (x.f0 == y.f0 && (x.f1 == y.f1 && x.f2 == y.f2)) = decide (x = y) := by
  obtain ⟨x0, x1, x2⟩ := x
  obtain ⟨y0, y1, y2⟩ := y
  rw [Bool.eq_iff_iff]
  simp only [Bool.and_eq_true, beq_iff_eq, decide_eq_true_eq, Ad, S25.mk.injEq]
end Go.Proofs.YtlgfinnldhjgeaaDoor.Q
end

section
namespace Go.Proofs.YtlgfinnldhjgeaaDoor.Q
open Go.RowKit Go.Proofs.YtlgfinnldhjgeaaDoorW.PrintWords Go.Proofs.YtlgfinnldhjgeaaDoorW.PrintLast Go.Proofs.YtlgfinnldhjgeaaDoorW.PrintMore
attribute [local go_sem] max2_int min2_int max_two min_two max_three min_three max_four min_four
set_option linter.unusedVariables false
set_option linter.unusedSimpArgs false
attribute [local go_sem high] eqA25
def intrusionref06_Contains.f (k : Nat) (a0_0 : Bool) (a0_1 : Int) (a0_2 : Int) (a0_3 : Int) (a1_0 : Bool) (a1_1 : Int) (a1_2 : Int) : Option (Bool) := if (a0_0 == a1_0) = true then ((intrusionref06_with.f k a1_0 a1_1 a1_2 a0_3 false).bind fun bt305 => (some (bt305.1 == a0_0 && (bt305.2.1 == a0_1 && (bt305.2.2 == a0_2))))) else (some false)
theorem intrusionref06_Contains.mono : ∀ a0 a1 a2 a3 a4 a5 a6 k, LeO (intrusionref06_Contains.f k a0 a1 a2 a3 a4 a5 a6) (intrusionref06_Contains.f (k + 1) a0 a1 a2 a3 a4 a5 a6) := by
  intro a0 a1 a2 a3 a4 a5 a6 k
  unfold intrusionref06_Contains.f
  repeat' first
      | (with_reducible exact intrusionref06_with.mono _ _ _ _ _ _)
      | (with_reducible exact LeO.refl _)
      | (with_reducible exact LeO.none _)
      | (with_reducible refine LeO.ite ?_ ?_)
      | (with_reducible refine LeO.bind ?_ (fun _ => ?_))
      | exact intrusionref06_with.mono _ _ _ _ _ _
      | exact LeO.none _
      | refine LeO.ite ?_ ?_
      | refine LeO.bind ?_ (fun _ => ?_)
end Go.Proofs.YtlgfinnldhjgeaaDoor.Q
end

section
set_option linter.unusedVariables false
set_option linter.unusedSimpArgs false
namespace Go.Proofs.YtlgfinnldhjgeaaDoor.Q
open Go.RowKit Go.Proofs.YtlgfinnldhjgeaaDoorW.PrintWords Go.Proofs.YtlgfinnldhjgeaaDoorW.PrintLast Go.Proofs.YtlgfinnldhjgeaaDoorW.PrintMore
theorem wid {x : Int} (h0 : -9223372036854775808 ≤ x) (h1 : x ≤ 9223372036854775807) : wrap64 x = x := by unfold wrap64; omega
theorem xor_one (q : Nat) : q ^^^ 1 = if q % 2 = 1 then q - 1 else q + 1 := by
  have a1 : (q ^^^ 1) / 2 = q / 2 := by
    have := @Nat.xor_div_two_pow q 1 1
    simpa using this
  have a2 : (q ^^^ 1) % 2 = 1 - q % 2 := by
    have := @Nat.xor_mod_two_pow q 1 1
    rw [show 2 ^ 1 = 2 from rfl] at this
    rw [this]
    rcases Nat.mod_two_eq_zero_or_one q with h | h <;> rw [h] <;> rfl
  by_cases h : q % 2 = 1
  · rw [if_pos h]; omega
  · rw [if_neg h]; omega
theorem xor_bit (n j : Nat) : n ^^^ 2 ^ j = if (n / 2 ^ j) % 2 = 1 then n - 2 ^ j else n + 2 ^ j := by
  have h1 : (n ^^^ 2 ^ j) % 2 ^ j = n % 2 ^ j := by rw [Nat.xor_mod_two_pow]; simp
  have h2 : (n ^^^ 2 ^ j) / 2 ^ j = (n / 2 ^ j) ^^^ 1 := by rw [Nat.xor_div_two_pow, Nat.div_self (Nat.pow_pos (by decide))]
  have d1 := Nat.div_add_mod (n ^^^ 2 ^ j) (2 ^ j)
  have d2 := Nat.div_add_mod n (2 ^ j)
  rw [h1, h2, xor_one] at d1
  by_cases h : (n / 2 ^ j) % 2 = 1
  · rw [if_pos h] at d1 ⊢
    have g : 0 < n / 2 ^ j := Nat.pos_of_ne_zero (fun e => by rw [e] at h; exact absurd h (by decide))
    generalize n / 2 ^ j = q at *
    generalize 2 ^ j = p at *
    rw [Nat.mul_sub, Nat.mul_one] at d1
    have : p ≤ p * q := Nat.le_mul_of_pos_right _ g
    omega
  · rw [if_neg h] at d1 ⊢
    rw [Nat.mul_add, Nat.mul_one] at d1
    omega
def setN (n k : Nat) (b : Bool) : Nat := n - n % 2 ^ k + (if b then 2 ^ k - 1 else 0)
def flipN (n j : Nat) (b : Bool) : Nat := if ((n / 2 ^ j) % 2 == 1) = b then n else n ^^^ 2 ^ j
theorem setN_flip (n j : Nat) (b : Bool) : setN (flipN n j b) j b = setN n (j + 1) b := by
  have hp : 0 < 2 ^ j := Nat.pow_pos (by decide)
  have d2 := Nat.div_add_mod n (2 ^ j)
  have hl := Nat.mod_lt n hp
  have e1 : n % 2 ^ (j + 1) = n % 2 ^ j + 2 ^ j * ((n / 2 ^ j) % 2) := by rw [Nat.pow_succ, Nat.mod_mul]
  have hle : n % 2 ^ (j + 1) ≤ n := Nat.mod_le _ _
  have f1 : ∀ q : Nat, (2 ^ j * q + n % 2 ^ j) % 2 ^ j = n % 2 ^ j := fun q => by rw [Nat.mul_add_mod]; exact Nat.mod_mod _ _
  unfold setN flipN
  rw [xor_bit, e1, Nat.pow_succ]
  have f2 := f1 (n / 2 ^ j - 1)
  have f3 := f1 (n / 2 ^ j + 1)
  generalize hq : n / 2 ^ j = q at *
  generalize hr : n % 2 ^ j = r at *
  generalize 2 ^ j = p at *
  rcases Nat.mod_two_eq_zero_or_one q with h | h
  · rw [h]
    cases b
    · simp [hr]
    · simp only [show ((0 : Nat) == 1) = false from rfl, Bool.false_eq_true, if_false, if_true, show ¬ (0 = 1) from by omega]
      rw [Nat.mul_add, Nat.mul_one] at f3
      rw [show p * q + p + r = n + p from by omega] at f3
      rw [f3]
      omega
  · rw [h]
    have hq1 : 0 < q := by omega
    have hpq : p ≤ p * q := Nat.le_mul_of_pos_right _ hq1
    cases b
    · simp only [show ((1 : Nat) == 1) = true from rfl, if_true, Bool.false_eq_true, if_false, reduceCtorEq]
      rw [Nat.mul_sub, Nat.mul_one] at f2
      rw [show p * q - p + r = n - p from by omega] at f2
      rw [f2]
      omega
    · simp only [show ((1 : Nat) == 1) = true from rfl, if_true]
      rw [hr]
      omega
theorem ofInt_toNat (x : Nat) (h : x < 18446744073709551616) : (BitVec.ofInt 64 (x : Int)).toNat = x := by
  rw [BitVec.toNat_ofInt]
  simp
  omega
theorem pow_le64 (n : Nat) (hn : n ≤ 64) : 2 ^ n ≤ 18446744073709551616 := Nat.le_trans (Nat.pow_le_pow_right (by decide) hn) (by decide)
theorem bits_and (x n : Nat) (hx : x < 18446744073709551616) (hn : n ≤ 64) : Go.bits .and .u64 (x : Int) ((2 ^ n - 1 : Nat) : Int) = ((x % 2 ^ n : Nat) : Int) := by
  have hp := pow_le64 n hn
  have hpos : 0 < 2 ^ n := Nat.pow_pos (by decide)
  unfold Go.bits
  show IntKind.u64.wrap ((((BitVec.ofInt 64 (x : Int)) &&& (BitVec.ofInt 64 ((2 ^ n - 1 : Nat) : Int))).toNat : Nat) : Int) = _
  rw [BitVec.toNat_and, ofInt_toNat x hx, ofInt_toNat _ (by omega), Nat.and_two_pow_sub_one_eq_mod]
  have := Nat.mod_le x (2 ^ n)
  exact u64_id (by omega) (by omega)
theorem shl_one (n : Nat) (hn : n < 64) : IntKind.u64.wrap ((shl .u64 1 (n : Int)) - 1) = ((2 ^ n - 1 : Nat) : Int) := by
  have hp : 2 ^ n ≤ 9223372036854775808 := Nat.le_trans (Nat.pow_le_pow_right (by decide) (show n ≤ 63 by omega)) (by decide)
  have hpos : 0 < 2 ^ n := Nat.pow_pos (by decide)
  have e : shl .u64 1 (n : Int) = ((2 ^ n : Nat) : Int) := by
    unfold shl
    rw [show min (n : Int).toNat IntKind.u64.bits = n from by show min n 64 = n; omega]
    rw [Int.one_mul, show (2 : Int) ^ n = ((2 ^ n : Nat) : Int) from by simp]
    exact u64_id (by omega) (by omega)
  rw [e]
  rw [u64_id (by omega) (by omega)]
  omega
def hiM (k : Nat) : Int := ((2 ^ (k - 64) - 1 : Nat) : Int)
def loM (k : Nat) : Int := ((2 ^ (min k 64) - 1 : Nat) : Int)
def szA (f : Bool) : Nat := if f then 128 else 32
theorem low_eq (n : Int) (h : n ≤ 1000) : address_low.f n = some (((2 ^ (min n.toNat 64) - 1 : Nat)) : Int) := by
  unfold address_low.f
  by_cases h1 : n ≥ 64
  · rw [if_pos h1, show min n.toNat 64 = 64 from by omega]
    rfl
  · rw [if_neg h1]
    by_cases h2 : n ≤ 0
    · rw [if_pos h2, show min n.toNat 64 = 0 from by omega]
      rfl
    · rw [if_neg h2, if_pos (by omega), show min n.toNat 64 = n.toNat from by omega]
      have := shl_one n.toNat (by omega)
      rw [show ((n.toNat : Nat) : Int) = n from by omega] at this
      rw [this]
theorem size_eq (a : Ad) : address_size.f a.f0 a.f1 a.f2 = some ((szA a.f0 : Nat) : Int) := by
  unfold address_size.f szA
  cases a.f0 <;> rfl
theorem mask_eq (a : Ad) (b : Int) (k : Nat) (hk : (k : Int) = (szA a.f0 : Int) - b) (h0 : 0 ≤ b) (h1 : b ≤ szA a.f0) : address_mask.f a.f0 a.f1 a.f2 b = some (hiM k, loM k) := by
  have hs : szA a.f0 ≤ 128 := by unfold szA; split <;> omega
  unfold address_mask.f
  rw [size_eq]
  simp only [Option.bind_some]
  rw [wid (x := (szA a.f0 : Int) - b) (by omega) (by omega), ← hk, wid (x := (k : Int) - 64) (by omega) (by omega), low_eq _ (by omega), low_eq _ (by omega)]
  simp only [Option.bind_some]
  unfold hiM loM
  rw [show min ((k : Int) - 64).toNat 64 = k - 64 from by omega, show min ((k : Nat) : Int).toNat 64 = min k 64 from by omega]
theorem or_low (x n : Nat) : x ||| (2 ^ n - 1) = x - x % 2 ^ n + (2 ^ n - 1) := by
  have hp : 0 < 2 ^ n := Nat.pow_pos (by decide)
  have h1 : (x ||| (2 ^ n - 1)) / 2 ^ n = x / 2 ^ n := by
    rw [Nat.or_div_two_pow, Nat.div_eq_of_lt (show 2 ^ n - 1 < 2 ^ n by omega)]
    simp
  have h2 : (x ||| (2 ^ n - 1)) % 2 ^ n = 2 ^ n - 1 := by
    rw [Nat.or_mod_two_pow, Nat.mod_eq_of_lt (show 2 ^ n - 1 < 2 ^ n by omega)]
    have a1 : (x % 2 ^ n ||| (2 ^ n - 1)) < 2 ^ n := Nat.or_lt_two_pow (Nat.mod_lt _ hp) (by omega)
    have a2 : 2 ^ n - 1 ≤ (x % 2 ^ n ||| (2 ^ n - 1)) := Nat.right_le_or
    omega
  have d1 := Nat.div_add_mod (x ||| (2 ^ n - 1)) (2 ^ n)
  have d2 := Nat.div_add_mod x (2 ^ n)
  rw [h1, h2] at d1
  omega
theorem setN_le {n k m : Nat} (b : Bool) (hn : n < 2 ^ m) (hk : k ≤ m) : setN n k b < 2 ^ m := by
  have hp : 0 < 2 ^ k := Nat.pow_pos (by decide)
  have d2 := Nat.div_add_mod n (2 ^ k)
  have hl := Nat.mod_lt n hp
  have e : 2 ^ m = 2 ^ k * 2 ^ (m - k) := by rw [← Nat.pow_add, show k + (m - k) = m from by omega]
  have h1 : n / 2 ^ k < 2 ^ (m - k) := Nat.div_lt_of_lt_mul (by rw [← e]; exact hn)
  have h2 : 2 ^ k * (n / 2 ^ k + 1) ≤ 2 ^ k * 2 ^ (m - k) := Nat.mul_le_mul_left _ h1
  rw [Nat.mul_add, Nat.mul_one, ← e] at h2
  unfold setN
  split <;> omega
theorem bits_or (x n : Nat) (hx : x < 18446744073709551616) (hn : n ≤ 64) : Go.bits .or .u64 (x : Int) ((2 ^ n - 1 : Nat) : Int) = ((setN x n true : Nat) : Int) := by
  have hp := pow_le64 n hn
  have hpos : 0 < 2 ^ n := Nat.pow_pos (by decide)
  have hl := setN_le (m := 64) true hx hn
  unfold Go.bits
  show IntKind.u64.wrap ((((BitVec.ofInt 64 (x : Int)) ||| (BitVec.ofInt 64 ((2 ^ n - 1 : Nat) : Int))).toNat : Nat) : Int) = _
  rw [BitVec.toNat_or, ofInt_toNat x hx, ofInt_toNat _ (by omega), or_low]
  unfold setN at hl ⊢
  rw [if_pos rfl] at hl ⊢
  exact u64_id (by omega) (by omega)
theorem andNot_low (X M : BitVec 64) (n : Nat) (hn : n ≤ 64) (hM : M.toNat = 2 ^ n - 1) : (X &&& ~~~M).toNat = X.toNat - X.toNat % 2 ^ n := by
  have hpos : 0 < 2 ^ n := Nat.pow_pos (by decide)
  have hp := pow_le64 n hn
  have e : 18446744073709551616 = 2 ^ n * 2 ^ (64 - n) := by rw [← Nat.pow_add, show n + (64 - n) = 64 from by omega]
  have hq : 0 < 2 ^ (64 - n) := Nat.pow_pos (by decide)
  have hX := X.isLt
  rw [BitVec.toNat_and, BitVec.toNat_not, hM]
  have hC : 2 ^ 64 - 1 - (2 ^ n - 1) = 2 ^ n * (2 ^ (64 - n) - 1) := by
    rw [Nat.mul_sub, ← e, Nat.mul_one]
    omega
  rw [hC]
  generalize X.toNat = x at *
  have h1 : (x &&& (2 ^ n * (2 ^ (64 - n) - 1))) / 2 ^ n = x / 2 ^ n := by
    rw [Nat.and_div_two_pow, Nat.mul_div_cancel_left _ hpos, Nat.and_two_pow_sub_one_eq_mod]
    exact Nat.mod_eq_of_lt (Nat.div_lt_of_lt_mul (by rw [← e]; exact hX))
  have h2 : (x &&& (2 ^ n * (2 ^ (64 - n) - 1))) % 2 ^ n = 0 := by
    rw [Nat.and_mod_two_pow, Nat.mul_mod_right]
    simp
  have d1 := Nat.div_add_mod (x &&& (2 ^ n * (2 ^ (64 - n) - 1))) (2 ^ n)
  have d2 := Nat.div_add_mod x (2 ^ n)
  rw [h1, h2] at d1
  omega
theorem bits_andNot (x n : Nat) (hx : x < 18446744073709551616) (hn : n ≤ 64) : Go.bits .andNot .u64 (x : Int) ((2 ^ n - 1 : Nat) : Int) = ((setN x n false : Nat) : Int) := by
  have hp := pow_le64 n hn
  have hpos : 0 < 2 ^ n := Nat.pow_pos (by decide)
  unfold Go.bits
  show IntKind.u64.wrap ((((BitVec.ofInt 64 (x : Int)) &&& ~~~(BitVec.ofInt 64 ((2 ^ n - 1 : Nat) : Int))).toNat : Nat) : Int) = _
  rw [andNot_low _ _ n hn (ofInt_toNat _ (by omega)), ofInt_toNat x hx]
  unfold setN
  simp only [Bool.false_eq_true, if_false, Nat.add_zero]
  exact u64_id (by omega) (by omega)
theorem bits_xor (x j : Nat) (hx : x < 18446744073709551616) (hj : j < 64) : Go.bits .xor .u64 (x : Int) ((2 ^ j : Nat) : Int) = ((x ^^^ 2 ^ j : Nat) : Int) := by
  have hp : 2 ^ j < 18446744073709551616 := Nat.lt_of_le_of_lt (Nat.pow_le_pow_right (by decide) (show j ≤ 63 by omega)) (by decide)
  have hl : (x ^^^ 2 ^ j) < 2 ^ 64 := Nat.xor_lt_two_pow hx hp
  unfold Go.bits
  show IntKind.u64.wrap ((((BitVec.ofInt 64 (x : Int)) ^^^ (BitVec.ofInt 64 ((2 ^ j : Nat) : Int))).toNat : Nat) : Int) = _
  rw [BitVec.toNat_xor, ofInt_toNat x hx, ofInt_toNat _ hp]
  exact u64_id (by omega) (by omega)
theorem shl_pow (j : Nat) (hj : j < 64) : shl .u64 1 (j : Int) = ((2 ^ j : Nat) : Int) := by
  have hp : 2 ^ j < 18446744073709551616 := Nat.lt_of_le_of_lt (Nat.pow_le_pow_right (by decide) (show j ≤ 63 by omega)) (by decide)
  unfold shl
  rw [show min (j : Int).toNat IntKind.u64.bits = j from by show min j 64 = j; omega]
  rw [Int.one_mul, show (2 : Int) ^ j = ((2 ^ j : Nat) : Int) from by simp]
  exact u64_id (Int.natCast_nonneg _) (Int.ofNat_lt.2 hp)
theorem shr_bit (x j : Nat) (hx : x < 18446744073709551616) (hj : j < 64) : (Go.bits .and .u64 (shr .u64 (x : Int) (j : Int)) 1 == 1) = ((x / 2 ^ j) % 2 == 1) := by
  unfold shr
  rw [show min (j : Int).toNat IntKind.u64.bits = j from by show min j 64 = j; omega]
  rw [show (x : Int) / 2 ^ j = ((x / 2 ^ j : Nat) : Int) from by simp]
  have h := bits_and (x / 2 ^ j) 1 (Nat.lt_of_le_of_lt (Nat.div_le_self _ _) hx) (by decide)
  rw [show ((2 ^ 1 - 1 : Nat) : Int) = 1 from rfl] at h
  rw [h, show (2 : Nat) ^ 1 = 2 from rfl]
  rw [Bool.eq_iff_iff, beq_iff_eq, beq_iff_eq]
  omega
def nv (a : Ad) : Nat := a.f1.toNat * 18446744073709551616 + a.f2.toNat
def mkN (f : Bool) (n : Nat) : Ad := ⟨f, ((n / 18446744073709551616 : Nat) : Int), ((n % 18446744073709551616 : Nat) : Int)⟩
theorem mkN_nv {a : Ad} (h : AW a) : mkN a.f0 (nv a) = a := by
  obtain ⟨h1, h2, h3, h4⟩ := h
  obtain ⟨a0, a1, a2⟩ := a
  simp only at h1 h2 h3 h4
  unfold mkN nv
  simp only [Ad, S25.mk.injEq, true_and]
  exact ⟨by omega, by omega⟩
theorem nv_mkN (f : Bool) (n : Nat) : nv (mkN f n) = n := by unfold nv mkN; simp only [Int.toNat_natCast]; omega
theorem mkN_f0 (f : Bool) (n : Nat) : (mkN f n).f0 = f := rfl
theorem mkN_aw (f : Bool) {n : Nat} (h : n < 340282366920938463463374607431768211456) : AW (mkN f n) := by
  unfold AW mkN
  exact ⟨by simp; omega, by simp; omega, by simp; omega, by simp; omega⟩
theorem szA_cases (f : Bool) : szA f = 128 ∧ f = true ∨ szA f = 32 ∧ f = false := by cases f <;> simp [szA]
theorem AF.nvlt {a : Ad} (h : AF a) : nv a < 2 ^ szA a.f0 := by
  obtain ⟨⟨h1, h2, h3, h4⟩, h5⟩ := h
  unfold nv
  rcases szA_cases a.f0 with ⟨e, e2⟩ | ⟨e, e2⟩ <;> rw [e]
  · rw [show (2 : Nat) ^ 128 = 340282366920938463463374607431768211456 from by decide]; omega
  · rw [show (2 : Nat) ^ 32 = 4294967296 from by decide]
    rcases h5 with h5 | h5
    · rw [e2] at h5; cases h5
    · omega
theorem mkN_af {f : Bool} {n : Nat} (h : n < 2 ^ szA f) : AF (mkN f n) := by
  rcases szA_cases f with ⟨e, e2⟩ | ⟨e, e2⟩ <;> rw [e] at h
  · rw [show (2 : Nat) ^ 128 = 340282366920938463463374607431768211456 from by decide] at h
    exact ⟨mkN_aw f h, .inl e2⟩
  · rw [show (2 : Nat) ^ 32 = 4294967296 from by decide] at h
    exact ⟨mkN_aw f (by omega), .inr ⟨by unfold mkN; simp; omega, by unfold mkN; simp; omega⟩⟩
def subA (a : Ad) (k : Nat) (b : Bool) : Ad := mkN a.f0 (setN (nv a) k b)
theorem subA_f0 (a : Ad) (k : Nat) (b : Bool) : (subA a k b).f0 = a.f0 := rfl
theorem subA_af {a : Ad} (h : AF a) {k : Nat} (hk : k ≤ szA a.f0) (b : Bool) : AF (subA a k b) := mkN_af (setN_le b h.nvlt hk)
theorem setN_parts (x y k : Nat) (hy : y < 18446744073709551616) (hk : k ≤ 128) (b : Bool) : setN (x * 18446744073709551616 + y) k b / 18446744073709551616 = setN x (k - 64) b ∧ setN (x * 18446744073709551616 + y) k b % 18446744073709551616 = setN y (min k 64) b := by
  by_cases h : k ≤ 64
  · rw [show k - 64 = 0 from by omega, show min k 64 = k from by omega]
    have e : 18446744073709551616 = 2 ^ k * 2 ^ (64 - k) := by rw [← Nat.pow_add, show k + (64 - k) = 64 from by omega]
    have hm : (x * 18446744073709551616 + y) % 2 ^ k = y % 2 ^ k := by
      rw [e, show x * (2 ^ k * 2 ^ (64 - k)) + y = 2 ^ k * (x * 2 ^ (64 - k)) + y from by rw [Nat.mul_left_comm], Nat.mul_add_mod]
    have hl := setN_le (m := 64) b hy h
    unfold setN at hl ⊢
    rw [hm]
    have hle := Nat.mod_le y (2 ^ k)
    have e0 : x % 2 ^ 0 = 0 := by rw [Nat.pow_zero]; omega
    rw [e0, Nat.pow_zero]
    generalize y % 2 ^ k = r at *
    generalize 2 ^ k = p at *
    rw [show (2 : Nat) ^ 64 = 18446744073709551616 from by decide] at hl
    cases b
    · simp only [Bool.false_eq_true, if_false] at hl ⊢
      omega
    · simp only [if_true] at hl ⊢
      omega
  · rw [show min k 64 = 64 from by omega]
    have e : 2 ^ k = 18446744073709551616 * 2 ^ (k - 64) := by rw [show 18446744073709551616 = 2 ^ 64 from by decide, ← Nat.pow_add, show 64 + (k - 64) = k from by omega]
    have hm : (x * 18446744073709551616 + y) % 2 ^ k = y + 18446744073709551616 * (x % 2 ^ (k - 64)) := by
      rw [e, Nat.mod_mul]
      rw [show (x * 18446744073709551616 + y) % 18446744073709551616 = y from by omega, show (x * 18446744073709551616 + y) / 18446744073709551616 = x from by omega]
    have hp : 0 < 2 ^ (k - 64) := Nat.pow_pos (by decide)
    unfold setN
    rw [hm, e, show y % 2 ^ 64 = y from Nat.mod_eq_of_lt hy]
    have hle := Nat.mod_le x (2 ^ (k - 64))
    generalize x % 2 ^ (k - 64) = r at *
    generalize 2 ^ (k - 64) = p at *
    rw [show (2 : Nat) ^ 64 = 18446744073709551616 from by decide]
    cases b
    · simp only [Bool.false_eq_true, if_false]
      omega
    · simp only [if_true]
      omega
theorem subA_eq {a : Ad} (h : AW a) {k : Nat} (hk : k ≤ 128) (b : Bool) : subA a k b = ⟨a.f0, ((setN a.f1.toNat (k - 64) b : Nat) : Int), ((setN a.f2.toNat (min k 64) b : Nat) : Int)⟩ := by
  obtain ⟨h1, h2, h3, h4⟩ := h
  have := setN_parts a.f1.toNat a.f2.toNat k (by omega) hk b
  unfold subA mkN nv
  rw [this.1, this.2]
theorem maskOff {a : Ad} (h : AW a) {k : Nat} (hk : k ≤ 128) : Go.bits .andNot .u64 a.f1 (hiM k) = (subA a k false).f1 ∧ Go.bits .andNot .u64 a.f2 (loM k) = (subA a k false).f2 := by
  rw [subA_eq h hk]
  obtain ⟨h1, h2, h3, h4⟩ := h
  have e1 := bits_andNot a.f1.toNat (k - 64) (by omega) (by omega)
  have e2 := bits_andNot a.f2.toNat (min k 64) (by omega) (by omega)
  rw [show ((a.f1.toNat : Nat) : Int) = a.f1 from by omega] at e1
  rw [show ((a.f2.toNat : Nat) : Int) = a.f2 from by omega] at e2
  exact ⟨e1, e2⟩
theorem maskOn {a : Ad} (h : AW a) {k : Nat} (hk : k ≤ 128) : Go.bits .or .u64 a.f1 (hiM k) = (subA a k true).f1 ∧ Go.bits .or .u64 a.f2 (loM k) = (subA a k true).f2 := by
  rw [subA_eq h hk]
  obtain ⟨h1, h2, h3, h4⟩ := h
  have e1 := bits_or a.f1.toNat (k - 64) (by omega) (by omega)
  have e2 := bits_or a.f2.toNat (min k 64) (by omega) (by omega)
  rw [show ((a.f1.toNat : Nat) : Int) = a.f1 from by omega] at e1
  rw [show ((a.f2.toNat : Nat) : Int) = a.f2 from by omega] at e2
  exact ⟨e1, e2⟩
end Go.Proofs.YtlgfinnldhjgeaaDoor.Q
end

section
namespace Go.Proofs.YtlgfinnldhjgeaaDoor.Q
open Go.RowKit Go.Proofs.YtlgfinnldhjgeaaDoorW.PrintWords Go.Proofs.YtlgfinnldhjgeaaDoorW.PrintLast Go.Proofs.YtlgfinnldhjgeaaDoorW.PrintMore
attribute [local go_sem] max2_int min2_int max_two min_two max_three min_three max_four min_four
set_option linter.unusedVariables false
set_option linter.unusedSimpArgs false
def address_value.l0 : Nat → ByteArray → Int → Int → Int → Option (Int)
  | 0, _, _, _, _ => none
  | k + 1, x0, x3, x6, x7 => if x7 < x6 then (if 0 ≤ x7 then (if x7 < (x0.size : Int) then (address_value.l0 k x0 (Go.bits .or .u64 (IntKind.u64.wrap (x3 * 256)) (IntKind.u64.wrap (bt x0 x7))) x6 (wrap64 (x7 + 1))) else (none)) else (none)) else (some x3)
def address_value.f (k : Nat) (a0 : ByteArray) : Option (Int) := address_value.l0 k a0 0 (a0.size : Int) 0
theorem address_value.mono_l : ∀ k, (∀ y0 y1 y2 y3, LeO (address_value.l0 k y0 y1 y2 y3) (address_value.l0 (k + 1) y0 y1 y2 y3))
  | 0 => fun _ _ _ _ r h => by simp [address_value.l0] at h
  | k + 1 => by
    have ih0 := address_value.mono_l k
    · intro y0 y1 y2 y3
      unfold address_value.l0
      repeat' first
      | (with_reducible exact ih0 _ _ _ _)
      | (with_reducible exact LeO.refl _)
      | (with_reducible exact LeO.none _)
      | (with_reducible refine LeO.ite ?_ ?_)
      | (with_reducible refine LeO.bind ?_ (fun _ => ?_))
      | exact ih0 _ _ _ _
      | exact LeO.none _
      | refine LeO.ite ?_ ?_
      | refine LeO.bind ?_ (fun _ => ?_)
theorem address_value.mono : ∀ a0 k, LeO (address_value.f k a0) (address_value.f (k + 1) a0) := by
  intro a0 k
  have ih0 := address_value.mono_l k
  unfold address_value.f
  repeat' first
      | (with_reducible exact ih0 _ _ _ _)
      | (with_reducible exact LeO.refl _)
      | (with_reducible exact LeO.none _)
      | (with_reducible refine LeO.ite ?_ ?_)
      | (with_reducible refine LeO.bind ?_ (fun _ => ?_))
      | exact ih0 _ _ _ _
      | exact LeO.none _
      | refine LeO.ite ?_ ?_
      | refine LeO.bind ?_ (fun _ => ?_)
end Go.Proofs.YtlgfinnldhjgeaaDoor.Q
end

section
namespace Go.Proofs.YtlgfinnldhjgeaaDoor.Q
open Go.RowKit Go.Proofs.YtlgfinnldhjgeaaDoorW.PrintWords Go.Proofs.YtlgfinnldhjgeaaDoorW.PrintLast Go.Proofs.YtlgfinnldhjgeaaDoorW.PrintMore
attribute [local go_sem] max2_int min2_int max_two min_two max_three min_three max_four min_four
set_option linter.unusedVariables false
set_option linter.unusedSimpArgs false
def address_FromBytes.f (k : Nat) (a0 : ByteArray) : Option (Bool × Int × Int × Int) := if (a0.size : Int) = 4 then ((address_value.f k a0).bind fun t400 => (some (false, 0, t400, 0))) else (if (a0.size : Int) = 16 then (if 0 ≤ 8 then (if 8 ≤ (a0.size : Int) then ((address_value.f k (a0.extract 0 8)).bind fun t401 => ((address_value.f k (a0.extract 8 a0.size)).bind fun t402 => (some (true, t401, t402, 0)))) else (none)) else (none)) else (some (false, 0, 0, 2)))
theorem address_FromBytes.mono : ∀ a0 k, LeO (address_FromBytes.f k a0) (address_FromBytes.f (k + 1) a0) := by
  intro a0 k
  unfold address_FromBytes.f
  repeat' first
      | (with_reducible exact address_value.mono _ _)
      | (with_reducible exact LeO.refl _)
      | (with_reducible exact LeO.none _)
      | (with_reducible refine LeO.ite ?_ ?_)
      | (with_reducible refine LeO.bind ?_ (fun _ => ?_))
      | exact address_value.mono _ _
      | exact LeO.none _
      | refine LeO.ite ?_ ?_
      | refine LeO.bind ?_ (fun _ => ?_)
end Go.Proofs.YtlgfinnldhjgeaaDoor.Q
end

section
namespace Go.Proofs.YtlgfinnldhjgeaaDoor.Q
open Go.RowKit Go.Proofs.YtlgfinnldhjgeaaDoorW.PrintWords Go.Proofs.YtlgfinnldhjgeaaDoorW.PrintLast Go.Proofs.YtlgfinnldhjgeaaDoorW.PrintMore
attribute [local go_sem] max2_int min2_int max_two min_two max_three min_three max_four min_four
set_option linter.unusedVariables false
set_option linter.unusedSimpArgs false
mutual
def intrusionref06_FromBytes.j0 : Nat → ByteArray → Bool → Option (Bool × Int × Int × Int)
  | 0, _, _ => none
  | k + 1, x0, x13 => if x13 = true then (some (false, 0, 0, 2)) else (intrusionref06_FromBytes.l0 k x0 0 ((x0.size : Int) == 16) 0 0)
def intrusionref06_FromBytes.l0 : Nat → ByteArray → Int → Bool → Int → Int → Option (Bool × Int × Int × Int)
  | 0, _, _, _, _, _ => none
  | k + 1, x0, x5, x405000, x405001, x405002 => if x5 < (x0.size : Int) then (if x405000 = true then (if x5 < 8 then (if 0 ≤ x5 then (intrusionref06_FromBytes.l0 k x0 (wrap64 (x5 + 1)) x405000 (Go.bits .or .u64 (IntKind.u64.wrap (x405001 * 256)) (IntKind.u64.wrap (bt x0 x5))) x405002) else (none)) else (if 0 ≤ x5 then (intrusionref06_FromBytes.l0 k x0 (wrap64 (x5 + 1)) x405000 x405001 (Go.bits .or .u64 (IntKind.u64.wrap (x405002 * 256)) (IntKind.u64.wrap (bt x0 x5)))) else (none))) else (if 0 ≤ x5 then (intrusionref06_FromBytes.l0 k x0 (wrap64 (x5 + 1)) x405000 x405001 (Go.bits .or .u64 (IntKind.u64.wrap (x405002 * 256)) (IntKind.u64.wrap (bt x0 x5)))) else (none))) else (some (x405000, x405001, x405002, 0))
end
def intrusionref06_FromBytes.f (k : Nat) (a0 : ByteArray) : Option (Bool × Int × Int × Int) := if (a0.size : Int) = 4 then (intrusionref06_FromBytes.j0 k a0 false) else (intrusionref06_FromBytes.j0 k a0 ((a0.size : Int) != 16))
theorem intrusionref06_FromBytes.mono_l : ∀ k, (∀ y0 y1, LeO (intrusionref06_FromBytes.j0 k y0 y1) (intrusionref06_FromBytes.j0 (k + 1) y0 y1)) ∧ (∀ y0 y1 y2 y3 y4, LeO (intrusionref06_FromBytes.l0 k y0 y1 y2 y3 y4) (intrusionref06_FromBytes.l0 (k + 1) y0 y1 y2 y3 y4))
  | 0 => ⟨fun _ _ r h => by simp [intrusionref06_FromBytes.j0] at h, fun _ _ _ _ _ r h => by simp [intrusionref06_FromBytes.l0] at h⟩
  | k + 1 => by
    obtain ⟨ih0, ih1⟩ := intrusionref06_FromBytes.mono_l k
    refine ⟨?_, ?_⟩
    · intro y0 y1
      unfold intrusionref06_FromBytes.j0
      repeat' first
      | (with_reducible exact ih0 _ _)
      | (with_reducible exact ih1 _ _ _ _ _)
      | (with_reducible exact LeO.refl _)
      | (with_reducible exact LeO.none _)
      | (with_reducible refine LeO.ite ?_ ?_)
      | (with_reducible refine LeO.bind ?_ (fun _ => ?_))
      | exact ih0 _ _
      | exact ih1 _ _ _ _ _
      | exact LeO.none _
      | refine LeO.ite ?_ ?_
      | refine LeO.bind ?_ (fun _ => ?_)
    · intro y0 y1 y2 y3 y4
      unfold intrusionref06_FromBytes.l0
      repeat' first
      | (with_reducible exact ih0 _ _)
      | (with_reducible exact ih1 _ _ _ _ _)
      | (with_reducible exact LeO.refl _)
      | (with_reducible exact LeO.none _)
      | (with_reducible refine LeO.ite ?_ ?_)
      | (with_reducible refine LeO.bind ?_ (fun _ => ?_))
      | exact ih0 _ _
      | exact ih1 _ _ _ _ _
      | exact LeO.none _
      | refine LeO.ite ?_ ?_
      | refine LeO.bind ?_ (fun _ => ?_)
theorem intrusionref06_FromBytes.mono : ∀ a0 k, LeO (intrusionref06_FromBytes.f k a0) (intrusionref06_FromBytes.f (k + 1) a0) := by
  intro a0 k
  obtain ⟨ih0, ih1⟩ := intrusionref06_FromBytes.mono_l k
  unfold intrusionref06_FromBytes.f
  repeat' first
      | (with_reducible exact ih0 _ _)
      | (with_reducible exact ih1 _ _ _ _ _)
      | (with_reducible exact LeO.refl _)
      | (with_reducible exact LeO.none _)
      | (with_reducible refine LeO.ite ?_ ?_)
      | (with_reducible refine LeO.bind ?_ (fun _ => ?_))
      | exact ih0 _ _
      | exact ih1 _ _ _ _ _
      | exact LeO.none _
      | refine LeO.ite ?_ ?_
      | refine LeO.bind ?_ (fun _ => ?_)
end Go.Proofs.YtlgfinnldhjgeaaDoor.Q
end

section
set_option linter.unusedVariables false
set_option linter.unusedSimpArgs false
namespace Go.Proofs.YtlgfinnldhjgeaaDoor.Q
open Go.RowKit Go.Proofs.YtlgfinnldhjgeaaDoorW.PrintWords Go.Proofs.YtlgfinnldhjgeaaDoorW.PrintLast Go.Proofs.YtlgfinnldhjgeaaDoorW.PrintMore
theorem bt_list (s : ByteArray) (i : Nat) (h : i < s.data.toList.length) : bt s (i : Int) = ((s.data.toList[i]'h).toNat : Int) := by
  have hs : i < s.size := by rw [Array.length_toList] at h; exact h
  unfold bt
  have e : ((i : Int)).toNat = i := Int.toNat_natCast i
  rw [dif_pos (by rw [e]; exact hs)]
  have : ∀ (j : Nat) (hj : j < s.size), j = i → s[j].toNat = (s.data.toList[i]'h).toNat := fun j hj e => by
    subst e
    rfl
  rw [this _ _ e]
theorem size_list (s : ByteArray) : s.size = s.data.toList.length := (Array.length_toList).symm
theorem up_i {i : Nat} (h : i < 1000) : wrap64 ((i : Int) + 1) = ((i + 1 : Nat) : Int) := by rw [wid (by omega) (by omega)]; omega
def bytesN (n len : Nat) : List Int := (List.range len).map (fun i => ((n / 256 ^ (len - 1 - i) % 256 : Nat) : Int))
theorem bytesN_len (n len : Nat) : (bytesN n len).length = len := by unfold bytesN; rw [List.length_map, List.length_range]
theorem shr_u64 (x j : Nat) (hj : j < 64) : shr .u64 (x : Int) (j : Int) = ((x / 2 ^ j : Nat) : Int) := by
  unfold shr
  rw [show min (j : Int).toNat IntKind.u64.bits = j from by show min j 64 = j; omega]
  simp
theorem p256 (j : Nat) : 2 ^ (8 * j) = 256 ^ j := by rw [Nat.pow_mul]
theorem bytes_ev0 (n len : Nat) (hlen : len ≤ 8) : ∀ (d i : Nat), len - i = d → i ≤ len → Ev (fun k => address_bytes.l0 k (n : Int) (len : Int) ((bytesN n len).take i) (len : Int) (i : Int)) (strOfNums (bytesN n len))
  | 0, i, hd, hi => by
    refine Ev.step (f := fun _ => some (strOfNums (bytesN n len))) (fun k => ?_) (Ev.now _)
    rw [address_bytes.l0, if_neg (by omega), List.take_of_length_le (by rw [bytesN_len]; omega)]
  | d + 1, i, hd, hi => by
    have ih := bytes_ev0 n len hlen d (i + 1) (by omega) (by omega)
    refine Ev.step (fun k => ?_) ih
    have e : wrap64 (8 * wrap64 (wrap64 ((len : Int) - 1) - (i : Int))) = ((8 * (len - 1 - i) : Nat) : Int) := by
      rw [wid (x := (len : Int) - 1) (by omega) (by omega), wid (x := (len : Int) - 1 - i) (by omega) (by omega), wid (by omega) (by omega)]
      omega
    have hl : i < (bytesN n len).length := by rw [bytesN_len]; omega
    have hg : (bytesN n len)[i] = (((n / 256 ^ (len - 1 - i)) % 256 : Nat) : Int) := by
      simp [bytesN]
    rw [address_bytes.l0, if_pos (by omega), e, if_pos (by omega), if_pos (by rw [List.length_take, bytesN_len]; omega), shr_u64 _ _ (by omega), p256, up_i (by omega), List.take_succ_eq_append_getElem hl, hg]
    rfl
theorem bytes_ev (n len : Nat) (hlen : len ≤ 8) : Ev (fun k => address_bytes.f k (n : Int) (len : Int)) (strOfNums (bytesN n len)) := bytes_ev0 n len hlen _ 0 rfl (by omega)
theorem strOf_size (l : List Int) : (strOfNums l).size = l.length := by
  unfold strOfNums
  show (l.map _).toArray.size = _
  rw [List.size_toArray, List.length_map]
theorem strOf_app (l r : List Int) : strOfNums l ++ strOfNums r = strOfNums (l ++ r) := by
  unfold strOfNums
  rw [List.map_append]
  apply ByteArray.ext
  simp
def bytesA (a : Ad) : List Int := if a.f0 = true then bytesN a.f1.toNat 8 ++ bytesN a.f2.toNat 8 else bytesN a.f2.toNat 4
theorem aBytes_ev {a : Ad} (h : AW a) : Ev (fun k => address_Bytes.f k a.f0 a.f1 a.f2) (strOfNums (bytesA a)) := by
  obtain ⟨h1, h2, h3, h4⟩ := h
  obtain ⟨a0, a1, a2⟩ := a
  simp only at h1 h2 h3 h4
  obtain ⟨x, rfl⟩ : ∃ x : Nat, a1 = (x : Int) := ⟨a1.toNat, by omega⟩
  obtain ⟨y, rfl⟩ : ∃ y : Nat, a2 = (y : Int) := ⟨a2.toNat, by omega⟩
  unfold address_Bytes.f bytesA
  simp only [Int.toNat_natCast]
  cases a0
  · exact Ev.bind (bytes_ev y 4 (by omega)) (Ev.now _)
  · simp only [if_true]
    refine Ev.bind (bytes_ev x 8 (by omega)) (Ev.bind (bytes_ev y 8 (by omega)) ?_)
    rw [strOf_size, strOf_size, bytesN_len, bytesN_len]
    simp only [show (8 + 8 ≤ 9223372036854775807) = True from by simp, if_true]
    rw [strOf_app]
    exact Ev.now _
end Go.Proofs.YtlgfinnldhjgeaaDoor.Q
end

section
set_option linter.unusedVariables false
set_option linter.unusedSimpArgs false
namespace Go.Proofs.YtlgfinnldhjgeaaDoor.Q
open Go.RowKit Go.Proofs.YtlgfinnldhjgeaaDoorW.PrintWords Go.Proofs.YtlgfinnldhjgeaaDoorW.PrintLast Go.Proofs.YtlgfinnldhjgeaaDoorW.PrintMore
theorem width_eq (a : Ad) : intrusionref06_Width.f a.f0 a.f1 a.f2 = some ((szA a.f0 : Nat) : Int) := by
  unfold intrusionref06_Width.f szA
  cases a.f0 <;> rfl
theorem szA_le (f : Bool) : szA f ≤ 128 := by unfold szA; split <;> omega
theorem u64_wr {x : Int} (h0 : 0 ≤ x) (h1 : x ≤ 1000) : IntKind.u64.wrap (wrap64 x) = x := by rw [wid (by omega) (by omega)]; exact u64_id h0 (by omega)
theorem nv_bit_hi (x y j : Nat) (hy : y < 18446744073709551616) : (x * 18446744073709551616 + y) / 2 ^ (64 + j) = x / 2 ^ j := by
  rw [Nat.pow_add, ← Nat.div_div_eq_div_mul, show (2 : Nat) ^ 64 = 18446744073709551616 from by decide, show (x * 18446744073709551616 + y) / 18446744073709551616 = x from by omega]
theorem nv_bit_lo (x y j : Nat) (hj : j < 64) (hy : y < 18446744073709551616) : ((x * 18446744073709551616 + y) / 2 ^ j) % 2 = (y / 2 ^ j) % 2 := by
  have e : 18446744073709551616 = 2 ^ j * (2 * 2 ^ (63 - j)) := by rw [show 2 * 2 ^ (63 - j) = 2 ^ (64 - j) from by rw [show 64 - j = (63 - j) + 1 from by omega, Nat.pow_succ, Nat.mul_comm], ← Nat.pow_add, show j + (64 - j) = 64 from by omega]
  rw [e, show x * (2 ^ j * (2 * 2 ^ (63 - j))) + y = y + 2 ^ j * (2 * (x * 2 ^ (63 - j))) from by rw [Nat.add_comm, Nat.mul_left_comm, Nat.mul_left_comm x 2], Nat.add_mul_div_left _ _ (Nat.pow_pos (by decide)), Nat.add_mul_mod_self_left]
theorem bit_eq {a : Ad} (h : AF a) (r i : Nat) (hr : i + (r + 1) = szA a.f0) : intrusionref06_Bit.f a.f0 a.f1 a.f2 (i : Int) = some ((nv a / 2 ^ r) % 2 == 1) := by
  obtain ⟨⟨h1, h2, h3, h4⟩, h5⟩ := h
  obtain ⟨a0, a1, a2⟩ := a
  simp only at h1 h2 h3 h4 h5 hr
  have e1 : ((a1.toNat : Nat) : Int) = a1 := by omega
  have e2 : ((a2.toNat : Nat) : Int) = a2 := by omega
  unfold intrusionref06_Bit.f nv
  cases a0
  · have hr : i + (r + 1) = 32 := hr
    simp only [Bool.false_eq_true, if_false]
    rw [u64_wr (by omega) (by omega), if_pos (by omega)]
    have := shr_bit a2.toNat r (by omega) (by omega)
    rw [e2] at this
    rw [show (31 - (i : Int)) = (r : Int) from by omega, this, nv_bit_lo _ _ _ (by omega) (by omega)]
  · have hr : i + (r + 1) = 128 := hr
    simp only [if_true]
    by_cases hi : (i : Int) < 64
    · rw [if_pos hi, u64_wr (by omega) (by omega), if_pos (by omega)]
      obtain ⟨j, rfl⟩ : ∃ j, r = 64 + j := ⟨r - 64, by omega⟩
      have := shr_bit a1.toNat j (by omega) (by omega)
      rw [e1] at this
      rw [show (63 - (i : Int)) = (j : Int) from by omega, this, nv_bit_hi _ _ _ (by omega)]
    · rw [if_neg hi, u64_wr (by omega) (by omega), if_pos (by omega)]
      have := shr_bit a2.toNat r (by omega) (by omega)
      rw [e2] at this
      rw [show (127 - (i : Int)) = (r : Int) from by omega, this, nv_bit_lo _ _ _ (by omega) (by omega)]
theorem xor_hi (x y j : Nat) (hy : y < 18446744073709551616) : (x * 18446744073709551616 + y) ^^^ 2 ^ (64 + j) = (x ^^^ 2 ^ j) * 18446744073709551616 + y := by
  have h1 : ((x * 18446744073709551616 + y) ^^^ 2 ^ (64 + j)) / 2 ^ 64 = x ^^^ 2 ^ j := by
    rw [Nat.xor_div_two_pow, Nat.pow_add, Nat.mul_div_cancel_left _ (Nat.pow_pos (by decide)), show (2 : Nat) ^ 64 = 18446744073709551616 from by decide, show (x * 18446744073709551616 + y) / 18446744073709551616 = x from by omega]
  have h2 : ((x * 18446744073709551616 + y) ^^^ 2 ^ (64 + j)) % 2 ^ 64 = y := by
    rw [Nat.xor_mod_two_pow, Nat.pow_add, Nat.mul_mod_right, Nat.xor_zero, show (2 : Nat) ^ 64 = 18446744073709551616 from by decide]
    omega
  have d1 := Nat.div_add_mod ((x * 18446744073709551616 + y) ^^^ 2 ^ (64 + j)) (2 ^ 64)
  rw [h1, h2] at d1
  rw [← d1, show (2 : Nat) ^ 64 = 18446744073709551616 from by decide, Nat.mul_comm]
theorem xor_lo (x y j : Nat) (hj : j < 64) (hy : y < 18446744073709551616) : (x * 18446744073709551616 + y) ^^^ 2 ^ j = x * 18446744073709551616 + (y ^^^ 2 ^ j) := by
  have hp : 2 ^ j < 2 ^ 64 := Nat.pow_lt_pow_right (by decide) hj
  have h1 : ((x * 18446744073709551616 + y) ^^^ 2 ^ j) / 2 ^ 64 = x := by
    rw [Nat.xor_div_two_pow, Nat.div_eq_of_lt hp, Nat.xor_zero, show (2 : Nat) ^ 64 = 18446744073709551616 from by decide]
    omega
  have h2 : ((x * 18446744073709551616 + y) ^^^ 2 ^ j) % 2 ^ 64 = y ^^^ 2 ^ j := by
    rw [Nat.xor_mod_two_pow, Nat.mod_eq_of_lt hp]
    rw [show (x * 18446744073709551616 + y) % 2 ^ 64 = y from by rw [show (2 : Nat) ^ 64 = 18446744073709551616 from by decide]; omega]
  have d1 := Nat.div_add_mod ((x * 18446744073709551616 + y) ^^^ 2 ^ j) (2 ^ 64)
  rw [h1, h2] at d1
  rw [← d1, show (2 : Nat) ^ 64 = 18446744073709551616 from by decide, Nat.mul_comm]
theorem r_up {i : Nat} (h : i < 1000) : wrap64 ((i : Int) + 1) = ((i + 1 : Nat) : Int) := by rw [wid (by omega) (by omega)]; omega
theorem flip_lo {f : Bool} {x y : Int} {r : Nat} (h1 : 0 ≤ x) (h2 : x < 18446744073709551616) (h3 : 0 ≤ y) (h4 : y < 18446744073709551616) (hr : r < 64) : mkN f ((x.toNat * 18446744073709551616 + y.toNat) ^^^ 2 ^ r) = ⟨f, x, Go.bits .xor .u64 y (shl .u64 1 (r : Int))⟩ := by
  have hl : (y.toNat ^^^ 2 ^ r) < 2 ^ 64 := Nat.xor_lt_two_pow (by omega) (Nat.pow_lt_pow_right (by decide) hr)
  rw [show (2 : Nat) ^ 64 = 18446744073709551616 from by decide] at hl
  have := bits_xor y.toNat r (by omega) hr
  rw [show ((y.toNat : Nat) : Int) = y from by omega] at this
  rw [shl_pow r hr, this]
  unfold mkN
  rw [xor_lo _ _ _ hr (by omega)]
  generalize y.toNat ^^^ 2 ^ r = z at *
  simp only [Ad, S25.mk.injEq, true_and]
  exact ⟨by omega, by omega⟩
theorem flip_hi {f : Bool} {x y : Int} {r : Nat} (h1 : 0 ≤ x) (h2 : x < 18446744073709551616) (h3 : 0 ≤ y) (h4 : y < 18446744073709551616) (hr : r < 64) : mkN f ((x.toNat * 18446744073709551616 + y.toNat) ^^^ 2 ^ (64 + r)) = ⟨f, Go.bits .xor .u64 x (shl .u64 1 (r : Int)), y⟩ := by
  have hl : (x.toNat ^^^ 2 ^ r) < 2 ^ 64 := Nat.xor_lt_two_pow (by omega) (Nat.pow_lt_pow_right (by decide) hr)
  rw [show (2 : Nat) ^ 64 = 18446744073709551616 from by decide] at hl
  have := bits_xor x.toNat r (by omega) hr
  rw [show ((x.toNat : Nat) : Int) = x from by omega] at this
  rw [shl_pow r hr, this]
  unfold mkN
  rw [xor_hi _ _ _ (by omega)]
  generalize x.toNat ^^^ 2 ^ r = z at *
  simp only [Ad, S25.mk.injEq, true_and]
  exact ⟨by omega, by omega⟩
theorem with_flip {b : Bool} {a : Ad} (h : AF a) {r i : Nat} (hr : i + (r + 1) = szA a.f0) (hb : ¬ ((nv a / 2 ^ r) % 2 == 1) = b) (k : Nat) : intrusionref06_with.l0 (k + 1) b (i : Int) a.f0 a.f1 a.f2 = intrusionref06_with.l0 k b ((i + 1 : Nat) : Int) (mkN a.f0 (nv a ^^^ 2 ^ r)).f0 (mkN a.f0 (nv a ^^^ 2 ^ r)).f1 (mkN a.f0 (nv a ^^^ 2 ^ r)).f2 := by
  have hW := szA_le a.f0
  have hi : (i : Int) < ((szA a.f0 : Nat) : Int) := by omega
  have hwi : wrap64 ((i : Int) + 1) = ((i + 1 : Nat) : Int) := r_up (by omega)
  rw [intrusionref06_with.l0, width_eq]
  rw [Option.bind_some]
  rw [if_pos hi, bit_eq h r i hr]
  rw [Option.bind_some]
  rw [if_neg (by rw [beq_iff_eq]; exact hb), hwi]
  clear hb hi hwi
  obtain ⟨⟨h1, h2, h3, h4⟩, h5⟩ := h
  obtain ⟨a0, a1, a2⟩ := a
  unfold nv
  dsimp only at h1 h2 h3 h4 h5 hr hW ⊢
  cases a0
  · have hr : i + (r + 1) = 32 := hr
    rw [if_neg Bool.false_ne_true, u64_wr (by omega) (by omega), if_pos (by omega), show (31 - (i : Int)) = (r : Int) from by omega, flip_lo h1 h2 h3 h4 (by omega)]
  · have hr : i + (r + 1) = 128 := hr
    rw [if_pos rfl]
    by_cases hi6 : (i : Int) < 64
    · rw [if_pos hi6, u64_wr (by omega) (by omega), if_pos (by omega)]
      obtain ⟨j, rfl⟩ : ∃ j, r = 64 + j := ⟨r - 64, by omega⟩
      rw [show (63 - (i : Int)) = (j : Int) from by omega, flip_hi h1 h2 h3 h4 (by omega)]
    · rw [if_neg hi6, u64_wr (by omega) (by omega), if_pos (by omega), show (127 - (i : Int)) = (r : Int) from by omega, flip_lo h1 h2 h3 h4 (by omega)]
theorem with_ev (b : Bool) : ∀ (r i : Nat) (a : Ad), AF a → i + r = szA a.f0 → Ev (fun k => intrusionref06_with.l0 k b (i : Int) a.f0 a.f1 a.f2) ((subA a r b).f0, (subA a r b).f1, (subA a r b).f2)
  | 0, i, a, h, hr => by
    refine Ev.step (f := fun _ => some (a.f0, a.f1, a.f2)) (fun k => ?_) ?_
    · rw [intrusionref06_with.l0, width_eq]
      rw [Option.bind_some]
      rw [if_neg (by omega)]
    · have e : subA a 0 b = a := by
        unfold subA setN
        rw [Nat.pow_zero, Nat.mod_one]
        cases b
        · simpa using mkN_nv h.1
        · simpa using mkN_nv h.1
      rw [e]
      exact Ev.now _
  | r + 1, i, a, h, hr => by
    have hW := szA_le a.f0
    have hi : (i : Int) < ((szA a.f0 : Nat) : Int) := by omega
    have hnl := h.nvlt
    by_cases hb : ((nv a / 2 ^ r) % 2 == 1) = b
    · have ih := with_ev b r (i + 1) a h (by omega)
      have e : subA a r b = subA a (r + 1) b := by
        unfold subA
        rw [← setN_flip, flipN, if_pos hb]
      rw [e] at ih
      refine Ev.step (fun k => ?_) ih
      rw [intrusionref06_with.l0, width_eq]
      rw [Option.bind_some]
      rw [if_pos hi, bit_eq h r i hr]
      rw [Option.bind_some]
      rw [if_pos (by rw [hb]; exact beq_self_eq_true b), show wrap64 ((i : Int) + 1) = ((i + 1 : Nat) : Int) from r_up (by omega)]
    · have hx : nv a ^^^ 2 ^ r < 2 ^ szA a.f0 := Nat.xor_lt_two_pow hnl (Nat.pow_lt_pow_right (by decide) (by omega))
      have ih := with_ev b r (i + 1) (mkN a.f0 (nv a ^^^ 2 ^ r)) (mkN_af hx) (by rw [mkN_f0]; omega)
      have e : subA (mkN a.f0 (nv a ^^^ 2 ^ r)) r b = subA a (r + 1) b := by
        unfold subA
        rw [nv_mkN, mkN_f0, ← setN_flip, flipN, if_neg hb]
      rw [e] at ih
      exact Ev.step (with_flip h hr hb) ih
def restN (a : Ad) (b : Int) : Nat := szA a.f0 - b.toNat
theorem withf_ev {a : Ad} (h : AF a) {b : Int} (h0 : 0 ≤ b) (h1 : b ≤ szA a.f0) (o : Bool) : Ev (fun k => intrusionref06_with.f k a.f0 a.f1 a.f2 b o) ((subA a (restN a b) o).f0, (subA a (restN a b) o).f1, (subA a (restN a b) o).f2) := by
  have := with_ev o (restN a b) b.toNat a h (by unfold restN; omega)
  rw [show ((b.toNat : Nat) : Int) = b from by omega] at this
  exact this
theorem mkp_eq {a : Ad} (h : AW a) {b : Int} (h0 : 0 ≤ b) (h1 : b ≤ szA a.f0) : address_MakePrefix.f a.f0 a.f1 a.f2 b = some (a.f0, (subA a (restN a b) false).f1, (subA a (restN a b) false).f2, b, 0) := by
  have hs := szA_le a.f0
  have := maskOff h (k := restN a b) (by unfold restN; omega)
  unfold address_MakePrefix.f
  rw [if_neg (by omega), size_eq]
  rw [Option.bind_some]
  rw [if_neg (by omega), mask_eq a b (restN a b) (by unfold restN; omega) h0 h1]
  rw [Option.bind_some]
  rw [this.1, this.2]
theorem mkp_out {a : Ad} {b : Int} (h : ¬ (0 ≤ b ∧ b ≤ szA a.f0)) : address_MakePrefix.f a.f0 a.f1 a.f2 b = some (false, 0, 0, 0, 4) := by
  unfold address_MakePrefix.f
  by_cases h0 : b < 0
  · rw [if_pos h0]
  · rw [if_neg h0, size_eq]
    rw [Option.bind_some]
    rw [if_pos (by omega)]
theorem rmkp_ev {a : Ad} (h : AF a) {b : Int} (h0 : 0 ≤ b) (h1 : b ≤ szA a.f0) : Ev (fun k => intrusionref06_MakePrefix.f k a.f0 a.f1 a.f2 b) (a.f0, (subA a (restN a b) false).f1, (subA a (restN a b) false).f2, b, 0) := by
  refine Ev.congr (g := fun k => intrusionref06_MakePrefix.f k a.f0 a.f1 a.f2 b) (f := fun k => (intrusionref06_with.f k a.f0 a.f1 a.f2 b false).bind fun t => some (t.1, t.2.1, t.2.2, b, 0)) (fun k => ?_) ?_
  · unfold intrusionref06_MakePrefix.f
    rw [if_neg (by omega), width_eq]
    rw [Option.bind_some]
    rw [if_neg (by omega)]
  · exact Ev.bind (withf_ev h h0 h1 false) (Ev.now _)
theorem rmkp_out {a : Ad} {b : Int} (h : ¬ (0 ≤ b ∧ b ≤ szA a.f0)) (k : Nat) : intrusionref06_MakePrefix.f k a.f0 a.f1 a.f2 b = some (false, 0, 0, 0, 4) := by
  unfold intrusionref06_MakePrefix.f
  by_cases h0 : b < 0
  · rw [if_pos h0]
  · rw [if_neg h0, width_eq]
    rw [Option.bind_some]
    rw [if_pos (by omega)]
theorem bounds_eq {p : Ad} (h : AW p) {b : Int} (h0 : 0 ≤ b) (h1 : b ≤ szA p.f0) : address_Bounds.f p.f0 p.f1 p.f2 b = some (p.f0, p.f1, p.f2, p.f0, (subA p (restN p b) true).f1, (subA p (restN p b) true).f2) := by
  have hs := szA_le p.f0
  have := maskOn h (k := restN p b) (by unfold restN; omega)
  unfold address_Bounds.f
  rw [mask_eq p b (restN p b) (by unfold restN; omega) h0 h1]
  rw [Option.bind_some]
  rw [this.1, this.2]
theorem rbounds_ev {p : Ad} (h : AF p) {b : Int} (h0 : 0 ≤ b) (h1 : b ≤ szA p.f0) : Ev (fun k => intrusionref06_Bounds.f k p.f0 p.f1 p.f2 b) (p.f0, p.f1, p.f2, p.f0, (subA p (restN p b) true).f1, (subA p (restN p b) true).f2) := by
  unfold intrusionref06_Bounds.f
  exact Ev.bind (withf_ev h h0 h1 true) (Ev.now _)
end Go.Proofs.YtlgfinnldhjgeaaDoor.Q
end

section
set_option linter.unusedVariables false
set_option linter.unusedSimpArgs false
namespace Go.Proofs.YtlgfinnldhjgeaaDoor.Q
open Go.RowKit Go.Proofs.YtlgfinnldhjgeaaDoorW.PrintWords Go.Proofs.YtlgfinnldhjgeaaDoorW.PrintLast Go.Proofs.YtlgfinnldhjgeaaDoorW.PrintMore
theorem bytesN_get (n len i : Nat) (h : i < (bytesN n len).length) : (bytesN n len)[i] = (((n / 256 ^ (len - 1 - i)) % 256 : Nat) : Int) := by simp [bytesN]
theorem r_shift {m j : Nat} (h : j ≤ m) (hm : m ≤ 7) : IntKind.u64.wrap (wrap64 (8 * ((m : Int) - (j : Int)))) = ((8 * (m - j) : Nat) : Int) := by
  rw [wid (by omega) (by omega), u64_id (by omega) (by omega)]
  omega
theorem r_down {m j : Nat} (hm : m ≤ 7) (h : j ≤ m) : wrap64 ((m : Int) - (j : Int) - 1) = (m : Int) - ((j + 1 : Nat) : Int) := by
  rw [wid (by omega) (by omega)]
  omega
theorem rby2 (y : Nat) (hi : Int) (f : Bool) : ∀ (d j : Nat), 4 - j = d → j ≤ 4 → Ev (fun k => intrusionref06_Bytes.l2 k ((bytesN y 4).take j) (((3 : Nat) : Int) - (j : Int)) f hi (y : Int)) (strOfNums (bytesN y 4))
  | 0, j, hd, hj => by
    refine Ev.step (f := fun _ => some (strOfNums (bytesN y 4))) (fun k => ?_) (Ev.now _)
    rw [intrusionref06_Bytes.l2, if_neg (by omega), List.take_of_length_le (by rw [bytesN_len]; omega)]
  | d + 1, j, hd, hj => by
    have ih := rby2 y hi f d (j + 1) (by omega) (by omega)
    refine Ev.step (fun k => ?_) ih
    have hl : j < (bytesN y 4).length := by rw [bytesN_len]; omega
    rw [intrusionref06_Bytes.l2, if_pos (by omega), r_shift (by omega) (by omega), if_pos (by omega), if_pos (by rw [List.length_take, bytesN_len]; omega), r_down (by omega) (by omega), shr_u64 _ _ (by omega), p256, List.take_succ_eq_append_getElem hl, bytesN_get]
    rfl
theorem rby1 (y : Nat) (hi : Int) (f : Bool) (pre : List Int) (hp : pre.length = 8) : ∀ (d j : Nat), 8 - j = d → j ≤ 8 → Ev (fun k => intrusionref06_Bytes.l1 k (pre ++ (bytesN y 8).take j) (((7 : Nat) : Int) - (j : Int)) f hi (y : Int)) (strOfNums (pre ++ bytesN y 8))
  | 0, j, hd, hj => by
    refine Ev.step (f := fun _ => some (strOfNums (pre ++ bytesN y 8))) (fun k => ?_) (Ev.now _)
    rw [intrusionref06_Bytes.l1, if_neg (by omega), List.take_of_length_le (by rw [bytesN_len]; omega)]
  | d + 1, j, hd, hj => by
    have ih := rby1 y hi f pre hp d (j + 1) (by omega) (by omega)
    refine Ev.step (fun k => ?_) ih
    have hl : j < (bytesN y 8).length := by rw [bytesN_len]; omega
    rw [intrusionref06_Bytes.l1, if_pos (by omega), r_shift (by omega) (by omega), if_pos (by omega), if_pos (by rw [List.length_append, List.length_take, bytesN_len]; omega), r_down (by omega) (by omega), shr_u64 _ _ (by omega), p256, List.take_succ_eq_append_getElem hl, bytesN_get, List.append_assoc]
    rfl
theorem rby0 (x y : Nat) (f : Bool) : ∀ (d j : Nat), 8 - j = d → j ≤ 8 → Ev (fun k => intrusionref06_Bytes.l0 k ((bytesN x 8).take j) (((7 : Nat) : Int) - (j : Int)) f (x : Int) (y : Int)) (strOfNums (bytesN x 8 ++ bytesN y 8))
  | 0, j, hd, hj => by
    refine Ev.step (fun k => ?_) (rby1 y (x : Int) f (bytesN x 8) (bytesN_len _ _) 8 0 rfl (by omega))
    rw [intrusionref06_Bytes.l0, if_neg (by omega), List.take_of_length_le (by rw [bytesN_len]; omega), List.take_zero, List.append_nil]
    rfl
  | d + 1, j, hd, hj => by
    have ih := rby0 x y f d (j + 1) (by omega) (by omega)
    refine Ev.step (fun k => ?_) ih
    have hl : j < (bytesN x 8).length := by rw [bytesN_len]; omega
    rw [intrusionref06_Bytes.l0, if_pos (by omega), r_shift (by omega) (by omega), if_pos (by omega), if_pos (by rw [List.length_take, bytesN_len]; omega), r_down (by omega) (by omega), shr_u64 _ _ (by omega), p256, List.take_succ_eq_append_getElem hl, bytesN_get]
    rfl
theorem rBytes_ev {a : Ad} (h : AW a) : Ev (fun k => intrusionref06_Bytes.f k a.f0 a.f1 a.f2) (strOfNums (bytesA a)) := by
  obtain ⟨h1, h2, h3, h4⟩ := h
  obtain ⟨a0, a1, a2⟩ := a
  simp only at h1 h2 h3 h4
  obtain ⟨x, rfl⟩ : ∃ x : Nat, a1 = (x : Int) := ⟨a1.toNat, by omega⟩
  obtain ⟨y, rfl⟩ : ∃ y : Nat, a2 = (y : Int) := ⟨a2.toNat, by omega⟩
  unfold intrusionref06_Bytes.f bytesA
  simp only [Int.toNat_natCast]
  cases a0
  · exact rby2 y (x : Int) false 4 0 rfl (by omega)
  · exact rby0 x y true 8 0 rfl (by omega)
theorem num_tab : ((List.range 256).all fun n => (intrusionref06_Number.f 6 (n : Int)).map (fun b => b.data.toList) == some (Lib.itoa (n : Int)) && decide ((Lib.itoa (n : Int)).length ≤ 3)) = true := by kernel_rfl
theorem num_ev {n : Int} (h0 : 0 ≤ n) (h1 : n < 256) : Ev (fun k => intrusionref06_Number.f k n) (decB n) ∧ (decB n).size ≤ 3 := by
  have := List.all_eq_true.1 num_tab n.toNat (List.mem_range.2 (by omega))
  rw [Bool.and_eq_true, beq_iff_eq, decide_eq_true_eq, show ((n.toNat : Nat) : Int) = n from by omega] at this
  obtain ⟨e, hl⟩ := this
  obtain ⟨b, hb, he⟩ := Option.map_eq_some_iff.1 e
  have hd : b = decB n := by
    unfold decB
    apply ByteArray.ext
    rw [← Array.toList_inj]
    exact he
  rw [hd] at hb
  refine ⟨Ev.of (intrusionref06_Number.mono n) hb, ?_⟩
  unfold decB
  show (Lib.itoa n).toArray.size ≤ 3
  rw [List.size_toArray]
  exact hl
theorem hex_cut : ((List.range 16).all fun m => ((⟨#[48, 49, 50, 51, 52, 53, 54, 55, 56, 57, 97, 98, 99, 100, 101, 102]⟩ : ByteArray).extract m (m + 1)).data.toList == [hexD m]) = true := by kernel_rfl
theorem hex_cut' {m : Nat} (h : m < 16) : ((⟨#[48, 49, 50, 51, 52, 53, 54, 55, 56, 57, 97, 98, 99, 100, 101, 102]⟩ : ByteArray).extract m (m + 1)) = ⟨#[hexD m]⟩ := by
  have := List.all_eq_true.1 hex_cut m (List.mem_range.2 h)
  rw [beq_iff_eq] at this
  apply ByteArray.ext
  rw [← Array.toList_inj, this]
theorem ba_app (l r : List UInt8) (t : ByteArray) : (⟨(l ++ r).toArray⟩ : ByteArray) ++ t = ⟨l.toArray⟩ ++ (⟨r.toArray⟩ ++ t) := by
  apply ByteArray.ext
  rw [ByteArray.data_append, ByteArray.data_append, ByteArray.data_append, ← Array.toList_inj]
  simp
theorem rhex0 : ∀ (d n : Nat) (t : ByteArray), d ≤ 3 → n < 16 ^ (d + 1) → t.size + d ≤ 100 → Ev (fun k => intrusionref06_hex.l0 k (n : Int) t) ((⟨(hexL (d + 1) n).toArray⟩ : ByteArray) ++ t) := by
  intro d
  induction d with
  | zero =>
    intro n t hd3 hn ht
    have hn : n < 16 := by simpa using hn
    refine Ev.step (f := fun _ => some ((⟨(hexL (0 + 1) n).toArray⟩ : ByteArray) ++ t)) (fun k => ?_) (Ev.now _)
    have e : wrap64 ((n : Int) + 1) = ((n + 1 : Nat) : Int) := up_i (by omega)
    rw [intrusionref06_hex.l0, if_neg (by omega), if_pos (by omega), e, if_pos (by omega), if_pos (by omega), Int.toNat_natCast, Int.toNat_natCast, hex_cut' hn, if_pos (by show 1 + t.size ≤ _; omega), hexL, if_pos hn]
  | succ d ih =>
    intro n t hd3 hn ht
    by_cases h : n < 16
    · refine Ev.step (f := fun _ => some ((⟨(hexL (d + 1 + 1) n).toArray⟩ : ByteArray) ++ t)) (fun k => ?_) (Ev.now _)
      have e : wrap64 ((n : Int) + 1) = ((n + 1 : Nat) : Int) := up_i (by omega)
      rw [intrusionref06_hex.l0, if_neg (by omega), if_pos (by omega), e, if_pos (by omega), if_pos (by omega), Int.toNat_natCast, Int.toNat_natCast, hex_cut' h, if_pos (by show 1 + t.size ≤ _; omega), hexL, if_pos h]
    · have hm : n % 16 < 16 := Nat.mod_lt _ (by decide)
      have hq : n / 16 < 16 ^ (d + 1) := Nat.div_lt_of_lt_mul (by rw [Nat.pow_succ, Nat.mul_comm] at hn; exact hn)
      have hb : n < 9223372036854775808 := by
        have := Nat.pow_le_pow_right (show 0 < 16 by decide) (show d + 1 + 1 ≤ 4 by omega)
        rw [show (16 : Nat) ^ 4 = 65536 from by decide] at this
        omega
      have := ih (n / 16) (⟨#[hexD (n % 16)]⟩ ++ t) (by omega) hq (by rw [ByteArray.size_append, show (⟨#[hexD (n % 16)]⟩ : ByteArray).size = 1 from rfl]; omega)
      rw [show (⟨(hexL (d + 1 + 1) n).toArray⟩ : ByteArray) ++ t = ⟨(hexL (d + 1) (n / 16)).toArray⟩ ++ (⟨#[hexD (n % 16)]⟩ ++ t) from by rw [hexL, if_neg h]; exact ba_app _ _ _]
      refine Ev.step (fun k => ?_) this
      have e1 : Int.tmod (n : Int) 16 = ((n % 16 : Nat) : Int) := rfl
      have e2 : wrap64 (Int.tdiv (n : Int) 16) = ((n / 16 : Nat) : Int) := by rw [show Int.tdiv (n : Int) 16 = ((n / 16 : Nat) : Int) from rfl, wid (by omega) (by omega)]
      have e3 : wrap64 (((n % 16 : Nat) : Int) + 1) = ((n % 16 + 1 : Nat) : Int) := up_i (by omega)
      rw [intrusionref06_hex.l0, if_pos (by omega), e1, e2, if_pos (by omega), e3, if_pos (by omega), if_pos (by omega), Int.toNat_natCast, Int.toNat_natCast, hex_cut' hm, if_pos (by show 1 + t.size ≤ _; omega)]
theorem rhex_ev {x : Int} (h : 0 ≤ x ∧ x < 65536) : Ev (fun k => intrusionref06_hex.f k x) ⟨(hexL 4 x.toNat).toArray⟩ := by
  have := rhex0 3 x.toNat ⟨#[]⟩ (by omega) (by simp; omega) (by decide)
  rw [show ((x.toNat : Nat) : Int) = x from by omega] at this
  rw [show (⟨(hexL (3 + 1) x.toNat).toArray⟩ : ByteArray) ++ ⟨#[]⟩ = ⟨(hexL 4 x.toNat).toArray⟩ from by apply ByteArray.ext; rw [ByteArray.data_append]; simp] at this
  exact this
theorem w_and (x : Int) : wrap64 (Go.bits .and .u64 x 65535) = Go.bits .and .u64 x 65535 := by
  have := and65535 x
  exact wid (by omega) (by omega)
theorem groups0 (hi lo : Int) : intrusionref06_Groups.f 11 true hi lo = some [wrap64 (Go.bits .and .u64 (hi / 281474976710656) 65535), wrap64 (Go.bits .and .u64 (hi / 4294967296) 65535), wrap64 (Go.bits .and .u64 (hi / 65536) 65535), wrap64 (Go.bits .and .u64 (hi / 1) 65535), wrap64 (Go.bits .and .u64 (lo / 281474976710656) 65535), wrap64 (Go.bits .and .u64 (lo / 4294967296) 65535), wrap64 (Go.bits .and .u64 (lo / 65536) 65535), wrap64 (Go.bits .and .u64 (lo / 1) 65535)] := by kernel_rfl
theorem groups_ev (hi lo : Int) : Ev (fun k => intrusionref06_Groups.f k true hi lo) (grpL hi lo) := by
  have := groups0 hi lo
  simp only [w_and, Int.ediv_one] at this
  exact Ev.of (intrusionref06_Groups.mono true hi lo) this
theorem rd_nat (l : List Int) (i : Nat) : rd l (i : Int) = l.getD i 0 := by unfold rd; rw [Int.toNat_natCast]
theorem rrun0 (l : List Int) (hl : l.length = 8) (i : Nat) (hi : i ≤ 8) : ∀ (d n : Nat), 8 - (i + n) = d → i + n ≤ 8 → zEnd l (8 - i) i = zEnd l (8 - (i + n)) (i + n) → Ev (fun k => intrusionref06_run.l0 k l (i : Int) (n : Int)) ((zEnd l (8 - i) i - i : Nat) : Int)
  | 0, n, hd, hn, he => by
    refine Ev.step (f := fun _ => some ((zEnd l (8 - i) i - i : Nat) : Int)) (fun k => ?_) (Ev.now _)
    rw [intrusionref06_run.l0, wid (by omega) (by omega), if_neg (by omega), he, hd, zEnd]
    congr 1
    omega
  | d + 1, n, hd, hn, he => by
    by_cases hz : l.getD (i + n) 0 = 0
    · have ih := rrun0 l hl i hi d (n + 1) (by omega) (by omega) (by rw [he, show 8 - (i + n) = (8 - (i + (n + 1))) + 1 from by omega, zEnd, if_pos hz]; rfl)
      refine Ev.step (fun k => ?_) ih
      rw [intrusionref06_run.l0, wid (by omega) (by omega), if_pos (by omega), if_pos (by omega), show (i : Int) + (n : Int) = ((i + n : Nat) : Int) from rfl, rd_nat, if_pos hz, up_i (by omega)]
    · refine Ev.step (f := fun _ => some ((zEnd l (8 - i) i - i : Nat) : Int)) (fun k => ?_) (Ev.now _)
      rw [intrusionref06_run.l0, wid (by omega) (by omega), if_pos (by omega), if_pos (by omega), show (i : Int) + (n : Int) = ((i + n : Nat) : Int) from rfl, rd_nat, if_neg hz, he, show 8 - (i + n) = (8 - (i + n + 1)) + 1 from by omega, zEnd, if_neg hz]
      congr 1
      omega
theorem rrun_ev (l : List Int) (hl : l.length = 8) (i : Nat) (hi : i ≤ 8) : Ev (fun k => intrusionref06_run.f k l (i : Int)) ((zEnd l (8 - i) i - i : Nat) : Int) := rrun0 l hl i hi _ 0 rfl (by omega) rfl
def RelP (a b : Nat) (at_ most : Int) : Prop := (1 < b - a ∧ at_ = (a : Int) ∧ most = ((b - a : Nat) : Int)) ∨ (b - a ≤ 1 ∧ at_ = -1 ∧ most = 1)
theorem suf_last (l : List UInt8) (h : l ≠ []) : Lib.hasSuffix l [58] = (l[l.length - 1]'(by have := List.length_pos_iff.2 h; omega) == 58) := by
  obtain ⟨t, c, rfl⟩ : ∃ t c, l = t ++ [c] := ⟨l.dropLast, l.getLast h, (List.dropLast_concat_getLast h).symm⟩
  unfold Lib.hasSuffix List.isSuffixOf
  rw [List.reverse_append]
  simp [List.isPrefixOf]
  rw [Bool.eq_iff_iff, beq_iff_eq, beq_iff_eq]
  exact eq_comm
theorem toList_nil (o : ByteArray) : o.toList = [] ↔ o.data.toList = [] := by rw [ByteArray.toList_eq]
theorem rtext (l : List Int) (hl : l.length = 8) (hv : ∀ k, k < 8 → 0 ≤ l.getD k 0 ∧ l.getD k 0 < 65536) {p q : Nat} (hp : p ≤ q) (hq : q ≤ 8) {at_ most : Int} (hr : RelP p q at_ most) : ∀ (d i : Nat) (o : ByteArray), 8 - i ≤ d → i ≤ 8 → o.size + 8 * d ≤ 64 → Ev (fun k => intrusionref06_Format.l1 k l at_ most o (i : Int)) (fmtT l p q d i o) := by
  intro d
  induction d with
  | zero =>
    intro i o hd hi ho
    refine Ev.step (f := fun _ => some o) (fun k => ?_) (Ev.now _)
    rw [intrusionref06_Format.l1, if_neg (by omega)]
  | succ d ih =>
    intro i o hd hi ho
    by_cases hi8 : i < 8
    · by_cases hc : i = p ∧ 1 < q - p
      · have e : at_ = (i : Int) ∧ most = ((q - p : Nat) : Int) := by
          rcases hr with ⟨h1, h2, h3⟩ | ⟨h1, h2, h3⟩
          · exact ⟨by omega, h3⟩
          · omega
        have := ih q (o ++ ⟨#[58, 58]⟩) (by omega) hq (by rw [ByteArray.size_append, show (⟨#[58, 58]⟩ : ByteArray).size = 2 from rfl]; omega)
        rw [fmtT, if_pos hi8, if_pos hc]
        refine Ev.step (fun k => ?_) this
        rw [intrusionref06_Format.l1, if_pos (by omega), if_pos e.1.symm, if_pos (by omega), e.2]
        congr 1
        rw [wid (x := ((q - p : Nat) : Int) - 1) (by omega) (by omega), wid (x := (i : Int) + (((q - p : Nat) : Int) - 1)) (by omega) (by omega), wid (by omega) (by omega)]
        omega
      · have e : ¬ ((i : Int) = at_) := by
          rcases hr with ⟨h1, h2, h3⟩ | ⟨h1, h2, h3⟩
          · intro h; apply hc; exact ⟨by omega, h1⟩
          · omega
        have hx := rhex_ev (hv i hi8)
        have hsz := hexL_size 4 (l.getD i 0).toNat
        obtain ⟨K, hK⟩ := hx
        by_cases hn : o.toList = []
        · have := ih (i + 1) (o ++ ⟨(hexL 4 (l.getD i 0).toNat).toArray⟩) (by omega) (by omega) (by rw [ByteArray.size_append]; omega)
          obtain ⟨K2, h2⟩ := this
          rw [fmtT, if_pos hi8, if_neg hc, if_neg (show ¬ (o.toList ≠ [] ∧ Lib.hasSuffix o.data.toList [58] = false) from fun h => h.1 hn)]
          refine ⟨K + K2 + 1, fun k hk => ?_⟩
          obtain ⟨m, rfl⟩ : ∃ m, k = m + 1 := ⟨k - 1, by omega⟩
          have f1 := hK m (by omega)
          have f2 := h2 m (by omega)
          dsimp only at f1 f2 ⊢
          rw [intrusionref06_Format.l1, if_pos (by omega), if_neg e, if_pos hn, if_pos (by omega), if_pos (by omega), rd_nat, f1, Option.bind_some, if_pos (by omega), up_i (by omega)]
          exact f2
        · have hne : o.data.toList ≠ [] := fun h => hn ((toList_nil o).2 h)
          have hlen := List.length_pos_iff.2 hne
          rw [← size_list] at hlen
          have ew : wrap64 ((o.size : Int) - 1) = ((o.size - 1 : Nat) : Int) := by rw [wid (by omega) (by omega)]; omega
          have hlast := suf_last o.data.toList hne
          have hb := bt_list o (o.size - 1) (by rw [← size_list]; omega)
          have hidx : (o.data.toList[o.size - 1]'(by rw [← size_list]; omega)) = o.data.toList[o.data.toList.length - 1]'(by rw [← size_list]; omega) := by
            congr 1
          rw [hidx] at hb
          by_cases hsuf : Lib.hasSuffix o.data.toList [58] = false
          · have hb8 : ¬ (bt o ((o.size - 1 : Nat) : Int) = 58) := by
              rw [hb]
              rw [hlast] at hsuf
              intro h
              have : o.data.toList[o.data.toList.length - 1]'(by rw [← size_list]; omega) = 58 := by
                apply UInt8.toNat_inj.1
                have : (58 : UInt8).toNat = 58 := rfl
                omega
              rw [this] at hsuf
              cases hsuf
            have := ih (i + 1) (o ++ ⟨#[58]⟩ ++ ⟨(hexL 4 (l.getD i 0).toNat).toArray⟩) (by omega) (by omega) (by rw [ByteArray.size_append, ByteArray.size_append, show (⟨#[58]⟩ : ByteArray).size = 1 from rfl]; omega)
            obtain ⟨K2, h2⟩ := this
            rw [fmtT, if_pos hi8, if_neg hc, if_pos (show (o.toList ≠ [] ∧ Lib.hasSuffix o.data.toList [58] = false) from ⟨hn, hsuf⟩)]
            refine ⟨K + K2 + 1, fun k hk => ?_⟩
            obtain ⟨m, rfl⟩ : ∃ m, k = m + 1 := ⟨k - 1, by omega⟩
            have f1 := hK m (by omega)
            have f2 := h2 m (by omega)
            dsimp only at f1 f2 ⊢
            rw [intrusionref06_Format.l1, if_pos (by omega), if_neg e, if_neg hn, ew, if_pos (by omega), if_pos (by omega), if_neg hb8, if_pos (by omega), if_pos (by omega), if_pos (by omega), rd_nat, f1, Option.bind_some, if_pos (by rw [ByteArray.size_append, show (⟨#[58]⟩ : ByteArray).size = 1 from rfl]; omega), up_i (by omega)]
            exact f2
          · have hb8 : bt o ((o.size - 1 : Nat) : Int) = 58 := by
              rw [hb]
              rw [hlast, Bool.not_eq_false, beq_iff_eq] at hsuf
              rw [hsuf]
              rfl
            have := ih (i + 1) (o ++ ⟨(hexL 4 (l.getD i 0).toNat).toArray⟩) (by omega) (by omega) (by rw [ByteArray.size_append]; omega)
            obtain ⟨K2, h2⟩ := this
            rw [fmtT, if_pos hi8, if_neg hc, if_neg (show ¬ (o.toList ≠ [] ∧ Lib.hasSuffix o.data.toList [58] = false) from fun h => hsuf h.2)]
            refine ⟨K + K2 + 1, fun k hk => ?_⟩
            obtain ⟨m, rfl⟩ : ∃ m, k = m + 1 := ⟨k - 1, by omega⟩
            have f1 := hK m (by omega)
            have f2 := h2 m (by omega)
            dsimp only at f1 f2 ⊢
            rw [intrusionref06_Format.l1, if_pos (by omega), if_neg e, if_neg hn, ew, if_pos (by omega), if_pos (by omega), if_pos hb8, if_pos (by omega), if_pos (by omega), rd_nat, f1, Option.bind_some, if_pos (by omega), up_i (by omega)]
            exact f2
    · refine Ev.step (f := fun _ => some o) (fun k => ?_) ?_
      · rw [intrusionref06_Format.l1, if_neg (by omega)]
      · rw [fmtT, if_neg hi8]; exact Ev.now _
theorem rbest (l : List Int) (hl : l.length = 8) {r : ByteArray} : ∀ (d i a b : Nat) (at_ most : Int), d + i = 8 → a ≤ b → b ≤ 8 → RelP a b at_ most → (∀ at' most', RelP (runF l d i (a, b)).1 (runF l d i (a, b)).2 at' most' → Ev (fun k => intrusionref06_Format.l1 k l at' most' ⟨#[]⟩ 0) r) → Ev (fun k => intrusionref06_Format.l0 k l at_ most (i : Int)) r
  | 0, i, a, b, at_, most, hd, hab, hb, hr, h => by
    refine Ev.step (fun k => ?_) (h at_ most hr)
    rw [intrusionref06_Format.l0, if_neg (by omega)]
  | d + 1, i, a, b, at_, most, hd, hab, hb, hr, h => by
    have hz := zEnd_le l (8 - i) i
    obtain ⟨K, hK⟩ := rrun_ev l hl i (by omega)
    rw [runF] at h
    have e8 : 8 - i = d + 1 := by omega
    by_cases hc : ((zEnd l (8 - i) i - i : Nat) : Int) > most
    · have hc2 : b - a < zEnd l (8 - i) i - i := by rcases hr with ⟨h1, h2, h3⟩ | ⟨h1, h2, h3⟩ <;> omega
      have hgt : 1 < zEnd l (8 - i) i - i := by rcases hr with ⟨h1, h2, h3⟩ | ⟨h1, h2, h3⟩ <;> omega
      rw [if_pos (show (a, b).2 - (a, b).1 < zEnd l (8 - i) i - i from hc2)] at h
      obtain ⟨K2, h2⟩ := rbest l hl d (i + 1) i (zEnd l (8 - i) i) (i : Int) ((zEnd l (8 - i) i - i : Nat) : Int) (by omega) hz.1 (by omega) (.inl ⟨hgt, rfl, rfl⟩) h
      refine ⟨K + K2 + 1, fun k hk => ?_⟩
      obtain ⟨m, rfl⟩ : ∃ m, k = m + 1 := ⟨k - 1, by omega⟩
      have f1 := hK m (by omega)
      have f2 := h2 m (by omega)
      dsimp only at f1 f2 ⊢
      rw [intrusionref06_Format.l0, if_pos (by omega), f1, Option.bind_some, if_pos hc, Option.bind_some, up_i (by omega)]
      exact f2
    · have hrel : RelP (if b - a < zEnd l (8 - i) i - i then (i, zEnd l (8 - i) i) else (a, b)).1 (if b - a < zEnd l (8 - i) i - i then (i, zEnd l (8 - i) i) else (a, b)).2 at_ most ∧ (if b - a < zEnd l (8 - i) i - i then (i, zEnd l (8 - i) i) else (a, b)).1 ≤ (if b - a < zEnd l (8 - i) i - i then (i, zEnd l (8 - i) i) else (a, b)).2 ∧ (if b - a < zEnd l (8 - i) i - i then (i, zEnd l (8 - i) i) else (a, b)).2 ≤ 8 := by
        split
        · rename_i h9
          rcases hr with ⟨h1, h2, h3⟩ | ⟨h1, h2, h3⟩
          · omega
          · exact ⟨.inr ⟨by simp only; omega, h2, h3⟩, hz.1, by simp only; omega⟩
        · exact ⟨hr, hab, hb⟩
      obtain ⟨K2, h2⟩ := rbest l hl d (i + 1) _ _ at_ most (by omega) hrel.2.1 hrel.2.2 hrel.1 h
      refine ⟨K + K2 + 1, fun k hk => ?_⟩
      obtain ⟨m, rfl⟩ : ∃ m, k = m + 1 := ⟨k - 1, by omega⟩
      have f1 := hK m (by omega)
      have f2 := h2 m (by omega)
      dsimp only at f1 f2 ⊢
      rw [intrusionref06_Format.l0, if_pos (by omega), f1, Option.bind_some, if_neg hc, up_i (by omega)]
      exact f2
theorem grpL_v (hi lo : Int) (k : Nat) (hk : k < 8) : 0 ≤ (grpL hi lo).getD k 0 ∧ (grpL hi lo).getD k 0 < 65536 := by
  rcases k with _ | _ | _ | _ | _ | _ | _ | _ | k <;> first | omega | exact and65535 _
theorem fmt6_ev (hi lo : Int) : Ev (fun k => intrusionref06_Format.f k true hi lo) (fmt6 hi lo) := by
  unfold intrusionref06_Format.f
  refine Ev.congr (f := fun k => (intrusionref06_Groups.f k true hi lo).bind fun t => intrusionref06_Format.l0 k t (-1) 1 0) (fun k => if_pos rfl) ?_
  refine Ev.bind (groups_ev hi lo) ?_
  refine rbest (grpL hi lo) rfl 8 0 0 0 (-1) 1 rfl (by omega) (by omega) (.inr ⟨by omega, rfl, rfl⟩) (fun at' most' hr => ?_)
  have ho := runF_ok (grpL hi lo)
  exact rtext (grpL hi lo) rfl (grpL_v hi lo) ho.1 ho.2 hr 8 0 ⟨#[]⟩ (by omega) (by omega) (by decide)
end Go.Proofs.YtlgfinnldhjgeaaDoor.Q
end

section
set_option linter.unusedVariables false
set_option linter.unusedSimpArgs false
namespace Go.Proofs.YtlgfinnldhjgeaaDoor.Q
open Go.RowKit Go.Proofs.YtlgfinnldhjgeaaDoorW.PrintWords Go.Proofs.YtlgfinnldhjgeaaDoorW.PrintLast Go.Proofs.YtlgfinnldhjgeaaDoorW.PrintMore
theorem w_255 (x : Int) : wrap64 (Go.bits .and .u64 x 255) = Go.bits .and .u64 x 255 := by
  have := and255 x
  exact wid (by omega) (by omega)
def dotB : ByteArray := ⟨#[46]⟩
def fmt4 (w x y z : ByteArray) : ByteArray := ((((((w ++ dotB) ++ x) ++ dotB) ++ y) ++ dotB) ++ z)
theorem dot_size : dotB.size = 1 := rfl
theorem join4 (w x y z : ByteArray) (hw : w.size ≤ 3) (hx : x.size ≤ 3) (hy : y.size ≤ 3) (hz : z.size ≤ 3) : strings_Join.f [w, x, y, z] (⟨#[46]⟩ : ByteArray) = some (fmt4 w x y z) := by
  have e : Lib.join ([w, x, y, z].map (·.data.toList)) (⟨#[46]⟩ : ByteArray).data.toList = (fmt4 w x y z).data.toList := by
    unfold Lib.join fmt4 dotB
    simp [List.intercalate, List.intersperse, ByteArray.data_append]
  have hs : (fmt4 w x y z).size ≤ 15 := by
    unfold fmt4
    simp only [ByteArray.size_append, dot_size]
    omega
  unfold strings_Join.f
  rw [e, if_pos (by rw [← size_list]; omega), if_pos (by simp)]
theorem fmt4_size (w x y z : ByteArray) (hw : w.size ≤ 3) (hx : x.size ≤ 3) (hy : y.size ≤ 3) (hz : z.size ≤ 3) : (fmt4 w x y z).size ≤ 15 := by
  unfold fmt4
  simp only [ByteArray.size_append, dot_size]
  omega
def txt4 (lo : Int) : ByteArray := fmt4 (decB (Go.bits .and .u64 (lo / 16777216) 255)) (decB (Go.bits .and .u64 (lo / 65536) 255)) (decB (Go.bits .and .u64 (lo / 256) 255)) (decB (Go.bits .and .u64 lo 255))
theorem rfmt4_ev (hi lo : Int) : Ev (fun k => intrusionref06_Format.f k false hi lo) (txt4 lo) := by
  obtain ⟨⟨K1, e1⟩, s1⟩ := num_ev (and255 (lo / 16777216)).1 (and255 (lo / 16777216)).2
  obtain ⟨⟨K2, e2⟩, s2⟩ := num_ev (and255 (lo / 65536)).1 (and255 (lo / 65536)).2
  obtain ⟨⟨K3, e3⟩, s3⟩ := num_ev (and255 (lo / 256)).1 (and255 (lo / 256)).2
  obtain ⟨⟨K4, e4⟩, s4⟩ := num_ev (and255 lo).1 (and255 lo).2
  refine ⟨K1 + K2 + K3 + K4, fun k hk => ?_⟩
  have f1 := e1 k (by omega)
  have f2 := e2 k (by omega)
  have f3 := e3 k (by omega)
  have f4 := e4 k (by omega)
  dsimp only at f1 f2 f3 f4 ⊢
  unfold intrusionref06_Format.f
  simp only [w_255]
  rw [if_neg Bool.false_ne_true, f1, Option.bind_some, if_pos (by omega), f2, Option.bind_some]
  have hd : (⟨#[46]⟩ : ByteArray) = dotB := rfl
  rw [hd]
  rw [if_pos (by simp only [ByteArray.size_append, dot_size]; omega), if_pos (by simp only [ByteArray.size_append, dot_size]; omega), f3, Option.bind_some]
  rw [if_pos (by simp only [ByteArray.size_append, dot_size]; omega), if_pos (by simp only [ByteArray.size_append, dot_size]; omega), f4, Option.bind_some]
  rw [if_pos (by simp only [ByteArray.size_append, dot_size]; omega)]
  rfl
theorem fmtT_size (l : List Int) (p q : Nat) : ∀ (d i : Nat) (o : ByteArray), (fmtT l p q d i o).size ≤ o.size + 8 * d
  | 0, i, o => by unfold fmtT; omega
  | d + 1, i, o => by
    have hx := hexL_size 4 (l.getD i 0).toNat
    unfold fmtT
    split
    · split
      · have := fmtT_size l p q d q (o ++ ⟨#[58, 58]⟩)
        rw [ByteArray.size_append, show (⟨#[58, 58]⟩ : ByteArray).size = 2 from rfl] at this
        omega
      · split
        · have := fmtT_size l p q d (i + 1) (o ++ ⟨#[58]⟩ ++ ⟨(hexL 4 (l.getD i 0).toNat).toArray⟩)
          rw [ByteArray.size_append, ByteArray.size_append, show (⟨#[58]⟩ : ByteArray).size = 1 from rfl] at this
          omega
        · have := fmtT_size l p q d (i + 1) (o ++ ⟨(hexL 4 (l.getD i 0).toNat).toArray⟩)
          rw [ByteArray.size_append] at this
          omega
    · omega
def txtA (a : Ad) : ByteArray := if a.f0 = true then fmt6 a.f1 a.f2 else txt4 a.f2
theorem fmt_eq (a : Ad) : address_Format.f a.f0 a.f1 a.f2 = some (txtA a) := by
  unfold address_Format.f txtA
  cases a.f0
  · rw [if_neg Bool.false_ne_true, if_neg Bool.false_ne_true]
    exact join4 _ _ _ _ (num_ev (and255 _).1 (and255 _).2).2 (num_ev (and255 _).1 (and255 _).2).2 (num_ev (and255 _).1 (and255 _).2).2 (num_ev (and255 _).1 (and255 _).2).2
  · rfl
theorem rfmt_ev (a : Ad) : Ev (fun k => intrusionref06_Format.f k a.f0 a.f1 a.f2) (txtA a) := by
  unfold txtA
  cases a.f0
  · rw [if_neg Bool.false_ne_true]
    exact rfmt4_ev _ _
  · rw [if_pos rfl]
    exact fmt6_ev _ _
theorem txtA_size (a : Ad) : (txtA a).size ≤ 64 := by
  unfold txtA
  split
  · have := fmtT_size (grpL a.f1 a.f2) (runF (grpL a.f1 a.f2) 8 0 (0, 0)).1 (runF (grpL a.f1 a.f2) 8 0 (0, 0)).2 8 0 ⟨#[]⟩
    exact this
  · have := fmt4_size _ _ _ _ (num_ev (and255 (a.f2 / 16777216)).1 (and255 _).2).2 (num_ev (and255 (a.f2 / 65536)).1 (and255 _).2).2 (num_ev (and255 (a.f2 / 256)).1 (and255 _).2).2 (num_ev (and255 a.f2).1 (and255 _).2).2
    unfold txt4
    omega
def txtP (a : Ad) (b : Int) : ByteArray := (txtA a ++ ⟨#[47]⟩) ++ decB b
theorem itoa_s {b : Int} (h0 : 0 ≤ b) (h1 : b < 256) : strconv_Itoa.f b = some (decB b) := by
  unfold strconv_Itoa.f decB
  rw [if_pos (by omega)]
theorem fp_eq (a : Ad) {b : Int} (h0 : 0 ≤ b) (h1 : b < 256) : address_FormatPrefix.f a.f0 a.f1 a.f2 b = some (txtP a b) := by
  have hs := txtA_size a
  have hd := (num_ev h0 h1).2
  unfold address_FormatPrefix.f txtP
  rw [fmt_eq, Option.bind_some, if_pos (by omega), itoa_s h0 h1, Option.bind_some, if_pos (by rw [ByteArray.size_append, show (⟨#[47]⟩ : ByteArray).size = 1 from rfl]; omega)]
theorem rfp_ev (a : Ad) {b : Int} (h0 : 0 ≤ b) (h1 : b < 256) : Ev (fun k => intrusionref06_FormatPrefix.f k a.f0 a.f1 a.f2 b) (txtP a b) := by
  have hs := txtA_size a
  have hd := (num_ev h0 h1).2
  unfold intrusionref06_FormatPrefix.f txtP
  refine Ev.bind (rfmt_ev a) ?_
  refine Ev.congr (f := fun k => (intrusionref06_Number.f k b).bind fun t => some (txtA a ++ ⟨#[47]⟩ ++ t)) (fun k => ?_) (Ev.bind (num_ev h0 h1).1 (Ev.now _))
  rw [if_pos (by omega)]
  cases hn : intrusionref06_Number.f k b with
  | none => rfl
  | some t =>
    have ht : t = decB b := by
      obtain ⟨K, e⟩ := (num_ev h0 h1).1
      have mono : ∀ j, intrusionref06_Number.f (k + j) b = some t := fun j => by
        induction j with
        | zero => exact hn
        | succ j ih => exact intrusionref06_Number.mono b (k + j) _ ih
      have := e (k + K) (by omega)
      dsimp only at this
      rw [mono K] at this
      injection this
    rw [Option.bind_some, Option.bind_some, ht, if_pos (by rw [ByteArray.size_append, show (⟨#[47]⟩ : ByteArray).size = 1 from rfl]; omega)]
theorem and_zero (x n : Nat) (hx : x < 18446744073709551616) (hn : n ≤ 64) : Go.bits .and .u64 (x : Int) ((2 ^ n - 1 : Nat) : Int) = 0 ↔ setN x n false = x := by
  rw [bits_and x n hx hn]
  have := Nat.mod_le x (2 ^ n)
  unfold setN
  simp only [Bool.false_eq_true, if_false]
  omega
theorem low_iff {a : Ad} (h : AW a) {k : Nat} (hk : k ≤ 128) : (Go.bits .and .u64 a.f1 (hiM k) = 0 ∧ Go.bits .and .u64 a.f2 (loM k) = 0) ↔ subA a k false = a := by
  rw [subA_eq h hk]
  obtain ⟨h1, h2, h3, h4⟩ := h
  obtain ⟨a0, a1, a2⟩ := a
  simp only at h1 h2 h3 h4 ⊢
  have e1 := and_zero a1.toNat (k - 64) (by omega) (by omega)
  have e2 := and_zero a2.toNat (min k 64) (by omega) (by omega)
  rw [show ((a1.toNat : Nat) : Int) = a1 from by omega] at e1
  rw [show ((a2.toNat : Nat) : Int) = a2 from by omega] at e2
  unfold hiM loM
  rw [e1, e2]
  simp only [Ad, S25.mk.injEq, true_and]
  omega
def vpB (a : Ad) (b : Int) : Bool := fineB a && (decide (0 ≤ b ∧ b ≤ szA a.f0) && decide (subA a (restN a b) false = a))
theorem vp_eq {a : Ad} (h : AW a) (b : Int) : address_ValidPrefix.f a.f0 a.f1 a.f2 b = some (vpB a b) := by
  have hs := szA_le a.f0
  unfold address_ValidPrefix.f vpB
  rw [fine_eq, Option.bind_some]
  cases hf : fineB a
  · rfl
  · rw [if_pos rfl, Bool.true_and]
    by_cases h0 : b < 0
    · rw [if_pos h0, decide_eq_false (by omega)]; rfl
    · rw [if_neg h0, size_eq, Option.bind_some]
      by_cases h1 : b > ((szA a.f0 : Nat) : Int)
      · rw [if_pos h1, decide_eq_false (by omega)]; rfl
      · have hk : restN a b ≤ 128 := by unfold restN; omega
        have hl := low_iff h hk
        rw [if_neg h1, mask_eq a b (restN a b) (by unfold restN; omega) (by omega) (by omega), Option.bind_some, decide_eq_true (show 0 ≤ b ∧ b ≤ ((szA a.f0 : Nat) : Int) from by omega), Bool.true_and]
        by_cases c : Go.bits .and .u64 a.f1 (hiM (restN a b)) = 0
        · rw [if_pos c]
          congr 1
          rw [Bool.eq_iff_iff, beq_iff_eq, decide_eq_true_eq, ← hl]
          exact ⟨fun h => ⟨c, h⟩, fun h => h.2⟩
        · rw [if_neg c, decide_eq_false (fun e => c (hl.2 e).1)]
theorem rvp_ev {a : Ad} (h : AW a) (b : Int) : Ev (fun k => intrusionref06_ValidPrefix.f k a.f0 a.f1 a.f2 b) (vpB a b) := by
  unfold intrusionref06_ValidPrefix.f vpB
  rw [rfine_eq]
  cases hf : fineB a
  · exact Ev.now _
  · have ha := (fine_iff h).1 hf
    by_cases h0 : b ≥ 0
    · by_cases h1 : b ≤ ((szA a.f0 : Nat) : Int)
      · refine Ev.congr (f := fun k => (intrusionref06_with.f k a.f0 a.f1 a.f2 b false).bind fun t => some (t.1 == a.f0 && (t.2.1 == a.f1 && (t.2.2 == a.f2)))) (fun k => ?_) ?_
        · rw [Option.bind_some, if_pos rfl, if_pos h0, width_eq, Option.bind_some, if_pos h1]
        · rw [decide_eq_true (show 0 ≤ b ∧ b ≤ ((szA a.f0 : Nat) : Int) from by omega), Bool.true_and, Bool.true_and, ← ends_eq]
          exact Ev.bind (withf_ev ha h0 h1 false) (Ev.now _)
      · rw [decide_eq_false (show ¬ (0 ≤ b ∧ b ≤ ((szA a.f0 : Nat) : Int)) from by omega)]
        refine Ev.congr (f := fun _ => some false) (fun k => ?_) (Ev.now _)
        rw [Option.bind_some, if_pos rfl, if_pos h0, width_eq, Option.bind_some, if_neg h1]
    · rw [decide_eq_false (show ¬ (0 ≤ b ∧ b ≤ ((szA a.f0 : Nat) : Int)) from by omega)]
      refine Ev.congr (f := fun _ => some false) (fun k => ?_) (Ev.now _)
      rw [Option.bind_some, if_pos rfl, if_neg h0]
end Go.Proofs.YtlgfinnldhjgeaaDoor.Q
end

section
set_option linter.unusedVariables false
set_option linter.unusedSimpArgs false
namespace Go.Proofs.YtlgfinnldhjgeaaDoor.Pure
open Go.RowKit Go.Proofs.YtlgfinnldhjgeaaDoor.Q Go.Proofs.YtlgfinnldhjgeaaDoorW.PrintWords Go.Proofs.YtlgfinnldhjgeaaDoorW.PrintLast
theorem formats_j1 {a : Ad} (ha : AF a) {b : Int} (h0 : 0 ≤ b) (h1 : b ≤ szA a.f0) : Ev (fun k => intrusionlaw06_AddressFormats.j1 (k + 1) 0 false a.f0 a.f1 a.f2 b) true := by
  have hs := szA_le a.f0
  obtain ⟨K1, e1⟩ := rfp_ev a h0 (show b < 256 by omega)
  obtain ⟨K2, e2⟩ := rbounds_ev ha h0 h1
  refine ⟨K1 + K2, fun k hk => ?_⟩
  have f1 := e1 k (by omega)
  have f2 := e2 k (by omega)
  dsimp only at f1 f2 ⊢
  rw [intrusionlaw06_AddressFormats.j1, if_neg Bool.false_ne_true, if_pos rfl, fp_eq a h0 (by omega), Option.bind_some, f1, Option.bind_some, if_pos rfl, bounds_eq ha.1 h0 h1, Option.bind_some, f2, Option.bind_some]
  simp [intrusionlaw06_lives.f]
theorem formats_out (k : Nat) (x : Int) (hx : x ≠ 0) (v : Bool) (p q r : Int) : intrusionlaw06_AddressFormats.j1 (k + 1) x false v p q r = some true := by
  rw [intrusionlaw06_AddressFormats.j1, if_neg Bool.false_ne_true, if_neg hx]
  rfl
theorem formats_j0 {a : Ad} (ha : AF a) (hb : fineB a = true) (b : Int) : Ev (fun k => intrusionlaw06_AddressFormats.j0 (k + 2) b false a.f0 a.f1 a.f2) true := by
  obtain ⟨K3, e3⟩ := rfmt_ev a
  obtain ⟨K4, e4⟩ := aBytes_ev ha.1
  obtain ⟨K5, e5⟩ := rBytes_ev ha.1
  by_cases hc : 0 ≤ b ∧ b ≤ szA a.f0
  · obtain ⟨h0, h1⟩ := hc
    obtain ⟨K1, e1⟩ := rmkp_ev ha h0 h1
    have hk : restN a b ≤ szA a.f0 := by unfold restN; omega
    have hp := subA_af ha hk false
    obtain ⟨K2, e2⟩ := formats_j1 hp h0 (by rw [subA_f0]; exact h1)
    refine ⟨K1 + K2 + K3 + K4 + K5, fun k hk => ?_⟩
    have f1 := e1 (k + 1) (by omega)
    have f2 := e2 k (by omega)
    have f3 := e3 (k + 1) (by omega)
    have f4 := e4 (k + 1) (by omega)
    have f5 := e5 (k + 1) (by omega)
    dsimp only at f1 f2 f3 f4 f5 ⊢
    rw [intrusionlaw06_AddressFormats.j0, if_neg Bool.false_ne_true, rfine_eq, hb, Option.bind_some, if_pos rfl, mkp_eq ha.1 h0 h1, Option.bind_some, f1, Option.bind_some]
    dsimp only
    rw [if_neg (by simp), if_pos rfl, fmt_eq, Option.bind_some, f3, Option.bind_some, if_pos rfl, f4, Option.bind_some, f5, Option.bind_some, bne_self_eq_false]
    exact f2
  · refine ⟨K3 + K4 + K5, fun k hk => ?_⟩
    have f3 := e3 (k + 1) (by omega)
    have f4 := e4 (k + 1) (by omega)
    have f5 := e5 (k + 1) (by omega)
    dsimp only at f3 f4 f5 ⊢
    rw [intrusionlaw06_AddressFormats.j0, if_neg Bool.false_ne_true, rfine_eq, hb, Option.bind_some, if_pos rfl, mkp_out hc, Option.bind_some, rmkp_out hc, Option.bind_some]
    dsimp only
    rw [if_neg (by simp), if_pos rfl, fmt_eq, Option.bind_some, f3, Option.bind_some, if_pos rfl, f4, Option.bind_some, f5, Option.bind_some, bne_self_eq_false]
    exact formats_out k 4 (by decide) _ _ _ _
theorem AddressFormats : ∀ (x0 : Px) (a1 : Int), q30 x0 → (Lit.int .i64 a1).wf = true → ∃ k, intrusionlaw06_AddressFormats.f k x0.f0.f0 x0.f0.f1 x0.f0.f2 x0.f1 a1 = some true := by
  intro p b hq _
  have aw : AW p.f0 := aw_of hq.1
  obtain ⟨K1, e1⟩ := rvp_ev aw p.f1
  have e2 : Ev (fun k => intrusionlaw06_AddressFormats.j0 (k + 2) b false p.f0.f0 p.f0.f1 p.f0.f2) true := by
    cases hf : fineB p.f0
    · refine ⟨0, fun k _ => ?_⟩
      dsimp only
      rw [intrusionlaw06_AddressFormats.j0, if_neg Bool.false_ne_true, rfine_eq, hf, Option.bind_some, if_neg Bool.false_ne_true]
      rfl
    · exact formats_j0 ((fine_iff aw).1 hf) hf b
  obtain ⟨K2, e2⟩ := e2
  refine ⟨K1 + K2 + 2, ?_⟩
  have f1 := e1 (K1 + K2 + 2) (by omega)
  have f2 := e2 (K1 + K2) (by omega)
  dsimp only at f1 f2
  unfold intrusionlaw06_AddressFormats.f
  rw [fine_eq p.f0, rfine_eq p.f0, Option.bind_some, Option.bind_some, bne_self_eq_false, if_neg Bool.false_ne_true, vp_eq aw, Option.bind_some, f1, Option.bind_some, bne_self_eq_false]
  exact f2
end Go.Proofs.YtlgfinnldhjgeaaDoor.Pure
end

section
set_option linter.unusedVariables false
namespace Go.Proofs.YtlgfinnldhjgeaaDoor.Q
open Go.RowKit
theorem returns_laid {H : Type} {enc : TypeId × Value → H} {a : Assume} {C : Checked} {os : Os} {f : FuncId} {fn : Func} {s : ChangeSpec} {conds : List PathCond} {apart fresh handsOn again : Bool} {X : World → Array Value → Prop}
    (hX : ∀ (w w' : World) (args : Array Value), w.heap = w'.heap → X w args → X w' args)
    (own : ownKnob C.prog.godebug = none) (started : os.Started) (noInit : C.prog.inits.idxOf? f = none) (hfn : C.prog.funcs[f]? = some fn)
    (witness : ∃ (w : World) (tape : Tape) (i : Input), w.os = os ∧ (w.forCall tape i).Shaped C.prog ∧ i.vars = [] ∧ Input.okWide C.prog (w.forCall tape i) .any w.heap.size f i ∧
      ((s.pre enc C.prog fn conds apart (w.forCall tape i).memory i.args ∧ X (w.forCall tape i).memory i.args) ∧ sizedMet enc C.prog fn (OpenSpec.ofChange s) apart (w.forCall tape i).memory i.args) ∧ a.holds C.prog (lone (Frame.enter C.prog f i.args .normal) [] (w.forCall tape i)))
    (contract : ∀ (W : World) (base : Nat) (args : Array Value) (ds gs : List (DataW H)) (before : List MemPlace),
      (∀ (j : Nat) t v, fn.params[j]? = some t → args[j]? = some v → Value.okWide C.prog W .any base t v) →
      DataW.Whole enc C.prog fn.params.toList s.vars apart W args.toList ds gs before →
      conds.all (PathCond.test C.prog ⟨fn.params.toList, ds, s.plain.varTypes C.prog, gs⟩) = true →
      (DataW.weightsEach C.prog (fn.params.toList ++ s.plain.varTypes C.prog) (ds ++ gs)).all (· ≤ reachBytes) = true → X W args → W.ShapedOpen C.prog →
      a.holds C.prog (lone (Frame.enter C.prog f args .normal) [] W) →
      Calls C.prog f args W fun e W' => ∃ v, e = .returned v ∧ s.post enc C.prog fn apart fresh handsOn again W args v W') :
    ReturnsInHanded a C os f .any (fun w args => (s.pre enc C.prog fn conds apart w args ∧ X w args) ∧ sizedMet enc C.prog fn (OpenSpec.ofChange s) apart w args) (s.post enc C.prog fn apart fresh handsOn again) := by
  refine returnsInHanded_of_calls own started noInit witness ?_
  intro w tape i _ hsh _ hok hpre hholds
  obtain ⟨_, _, _, fn', hfn', _, _, _, _, hval⟩ := hok
  have e : fn' = fn := Option.some.inj (hfn'.symm.trans hfn)
  subst e
  obtain ⟨⟨⟨ds, gs, before, hw, hc⟩, hx⟩, hz⟩ := hpre
  have hw' := DataW.Whole.of_heap (w' := w.forCall tape i) (by rfl) hw
  refine (contract (w.forCall tape i) w.heap.size i.args ds gs before hval hw' hc (hz.weights hw) (hX _ _ _ (by rfl) hx) hsh hholds).mono fun e W' ⟨v, he, hp⟩ => ?_
  subst he
  exact ChangeSpec.post_blind hp
theorem laidVars_at {P : Program} {W : World} : ∀ {laid : List (String × DataW Unit)} {ps : List MemPlace}, DataW.LaidVars P W laid ps → ∀ (i : Nat) (n : String) (d : DataW Unit), laid[i]? = some (n, d) →
    ∃ g t cs fuel p, P.globalNamed n = some g ∧ (P.globals[g]?).map (·.type) = some t ∧ W.var? P n = some cs ∧ DataW.trod (fun _ => ()) P W 0 (fun _ => true) false fuel t cs.toList = some (d, p)
  | [], _, _, i, _, _, h => by simp at h
  | (m, c) :: r, ps, h, i, n, d, hi => by
    obtain ⟨g, t, cs, fuel, p, q, h1, h2, h3, h4, h5, _⟩ := h
    cases i with
    | zero =>
      simp only [List.getElem?_cons_zero, Option.some.injEq, Prod.mk.injEq] at hi
      obtain ⟨rfl, rfl⟩ := hi
      exact ⟨g, t, cs, fuel, p, h1, h2, h3, h4⟩
    | succ j => exact laidVars_at h5 j n d (by simpa using hi)
theorem tabIs_at {P : Program} {W : World} {laid : List (String × DataW Unit)} {name : String} {k : IntKind} {zs : List Int} {g : Nat} {t e : TypeId} {n : Nat} (i : Nat) (hi : laid[i]? = some (name, Lib.tabData k zs))
    (hg : P.globalNamed name = some g) (hty : (P.globals[g]?).map (·.type) = some t) (ht : P.underlying t = some (.array n e)) (he : P.underlying e = some (.int k)) (hce : P.cellsOf e = 1) (hct : P.cellsOf t = n)
    (h : laidMet P laid W) : Lib.TabIs P W name k zs := by
  obtain ⟨ps, h, _⟩ := h
  obtain ⟨g', t', cs, fuel, p, hg', ht', hvar, hd⟩ := laidVars_at h i _ _ hi
  obtain rfl := Option.some.inj (hg.symm.trans hg')
  obtain rfl := Option.some.inj (hty.symm.trans ht')
  unfold Lib.TabIs
  rw [hvar, ← Lib.cells_of_tab ht he hce hct hd]
def laidL : List (String × DataW Unit) := [("math/bits.deBruijn32tab", Rows.laid_math_bits_deBruijn32tab), ("math/bits.deBruijn64tab", Rows.laid_math_bits_deBruijn64tab), ("internal/strconv.uint64pow10", Rows.laid_internal_strconv_uint64pow10), ("unicode/utf8.acceptRanges", Rows.laid_unicode_utf8_acceptRanges), ("unicode/utf8.first", Rows.laid_unicode_utf8_first)]
theorem wok_of {W : World} (h : laidMetH Tryd.prog laidL W) (hs : W.ShapedOpen Tryd.prog) : WOK W := by
  rw [MakeChecks.laidMetH_plain _ _ _ (by kernel_rfl)] at h
  refine ⟨?_, ?_, ?_⟩
  · exact cell_of_shapedOpen_int (t := 3) (zero := #[.int .i64 0]) hs (by decide +kernel) (by kernel_rfl) (by kernel_rfl) (by kernel_rfl) (by kernel_rfl) Tryd.underlying3
  · exact tabIs_at (g := 1) (n := 20) 2 (by rfl) (by kernel_rfl) (t := 112) (by kernel_rfl) (by kernel_rfl) (e := 23) Tryd.underlying23 (by kernel_rfl) (by kernel_rfl) h
  · have hb : Lib.TabIs Tryd.prog W "math/bits.deBruijn64tab" .u8 (Lib.deBruijn64tab.map Int.ofNat) := tabIs_at (g := 3) (n := 64) 1 (by rfl) (by kernel_rfl) (t := 123) (by kernel_rfl) (by kernel_rfl) (e := 5) Tryd.underlying5 (by kernel_rfl) (by kernel_rfl) h
    intro j hj
    have h2 := hb.cell (g := 3) (by kernel_rfl) j (by rw [List.length_map]; exact hj)
    rw [h2, List.getD, List.getD, List.getElem?_map, List.getElem?_eq_getElem hj]
    rfl
set_option maxRecDepth 100000 in
theorem laid_world (os : Os) (args : Array Value) : laidMetH Tryd.prog laidL ((World.laidAll Tryd.prog os laidL).forCall (fun _ _ => 0) ⟨#[], args, []⟩).memory := by
  rw [MakeChecks.laidMetH_plain _ _ _ (by kernel_rfl)]
  exact laidMet_laidAll _ (by kernel_rfl) (by kernel_rfl)
end Go.Proofs.YtlgfinnldhjgeaaDoor.Q
end

section
namespace Go.Proofs.YtlgfinnldhjgeaaDoor.addressFormats
open Go.ChangeShapes Go.WideShapes Go.ChangeAt Go.RowKit Go.Proofs.YtlgfinnldhjgeaaDoorW.PrintWords Go.Proofs.YtlgfinnldhjgeaaDoor.Read Go.Proofs.YtlgfinnldhjgeaaDoor.Q
open Go.ChangeMaps (open_string shut_string)
set_option linter.unusedVariables false
theorem own : ownKnob Tryd.prog.godebug = none := by kernel_rfl
theorem laidOut : laidOutB Tryd.prog = true := by kernel_rfl
set_option maxRecDepth 100000 in
theorem lifted (os : Os) (started : os.Started) (H : Type) (enc : TypeId × Value → H) :
    ReturnsInHanded {} Tryd.checked os 8 .any (fun w args => (Rows.addressFormatsSpec.pre enc Tryd.prog Tryd.f8 Rows.addressFormatsRow.domain false w args ∧ laidMetH Tryd.prog laidL w) ∧ sizedMet enc Tryd.prog Tryd.f8 (OpenSpec.ofChange Rows.addressFormatsSpec) false w args) (Rows.addressFormatsSpec.post enc Tryd.prog Tryd.f8 false true false false) := by
  refine returns_laid (C := Tryd.checked) (X := (fun w _ => laidMetH Tryd.prog laidL w)) (fun _ _ _ hh h => h.of_heap hh) own started (by kernel_rfl) Tryd.func8
    (ChangeSpec.witness_shaped (enc := enc) (C := Tryd.checked) (os := os) (X := (fun w _ => laidMetH Tryd.prog laidL w)) false (World.laidAll Tryd.prog os laidL) #[.agg #[.bool false, .int .u64 0, .int .u64 0, .int .i64 0], .int .i64 0] 8 (World.laidAll_os _ _ _)
      (World.shaped_of_ZipB (by kernel_rfl) (by kernel_rfl)) (by kernel_rfl) (by kernel_rfl) (by kernel_rfl) (laid_world os _)) ?_
  intro W base args ds gs before hval0 hW hcnd hsz0 hL hsh _
  have hWok := wok_of hL hsh
  have hsz : (DataW.weightsEach Tryd.prog (Tryd.f8.params.toList ++ Rows.addressFormatsSpec.plain.varTypes Tryd.prog) (ds ++ gs)).all (· ≤ reachBytes) = true := hsz0
  have hval : ∀ (j : Nat) t v, Tryd.f8.params[j]? = some t → args[j]? = some v → Value.okWide Tryd.prog W .any base t v := hval0
  have hW' := hW
  obtain ⟨p, q, hA0, hV, rfl, hfz, hnd⟩ := hW
  have hA : DataW.TrodAll enc Tryd.prog W 0 (fun _ => true) true Tryd.f8.params.toList args.toList ds p := hA0
  rw [Tryd.params8] at hA hval hsz
  obtain ⟨v0, vs0, d0, ds0, p0, q0, hargs, rfl, rfl, h0, r0⟩ := trodAll_cons hA
  obtain ⟨v1, vs1, d1, ds1, p1, q1, rfl, rfl, rfl, h1, r1⟩ := trodAll_cons r0
  obtain ⟨rfl, rfl, rfl⟩ := trodAll_nil r1
  obtain rfl : args = #[v0, v1] := by cases args; simp_all
  obtain ⟨rfl, rfl⟩ := trodVars_none hV
  obtain ⟨cs0, rfl, hz0⟩ := okWide_struct Tryd.underlying30 (hval 0 30 v0 rfl rfl)
  have k0_ := h0
  have lt0 : ∀ x ∈ p0, x.block < W.heap.size := by obtain ⟨m, hm⟩ := k0_; exact DataW.trod_lt m _ _ _ hm
  obtain ⟨fuel0, hf0⟩ := h0
  obtain ⟨x0, hK0, hq0⟩ := reads_k30 W H enc fuel0 _ _ hf0
  have hcs0 := k30_open hK0
  simp only [Value.cells] at hcs0
  obtain rfl : cs0 = #[.bool x0.f0.f0, .int .u64 x0.f0.f1, .int .u64 x0.f0.f2, .int .i64 x0.f1] := by rw [← Array.toList_inj]; exact hcs0
  obtain ⟨a1, rfl, rfl, rfl, w1⟩ := open_int Tryd.underlying3 (hval 1 3 v1 rfl rfl) h1
  clear hA0 hval0 hsz0 hsz
  obtain ⟨k, hk⟩ := Pure.AddressFormats x0 a1 hq0 w1
  refine (intrusionlaw06_AddressFormats.calls k x0.f0.f0 x0.f0.f1 x0.f0.f2 x0.f1 a1 true W  hk hWok).mono fun e W' he => ?_
  obtain ⟨rfl, bel⟩ := he
  exact ⟨_, rfl, _, _, _, [], _, [], hW', trodAll_mk1 (shut_bool Tryd.underlying4 _), (trodAll_cons_mk (Below.trod laidOut (by kernel_rfl) (of_decide_eq_true (by kernel_rfl)) k0_ bel lt0) (trodAll_cons_mk (shut_int Tryd.underlying3 w1) trodAll_mk0)), rfl, bel.frame _, fun h => by cases h⟩
theorem over : Rows.addressFormatsRow.holds Tryd.pinned (OpenSpec.ofChange Rows.addressFormatsSpec) :=
  OpenClaim.holds_of_wide 8 Tryd.f8 rfl rfl rfl rfl rfl rfl rfl ⟨rfl, rfl, rfl, rfl, rfl⟩ rfl rfl rfl rfl rfl (by kernel_rfl) Tryd.func8 (by kernel_rfl)
    (of_decide_eq_true (by kernel_rfl)) (by unfold Func.isWrapper; first | (rw [if_pos (by decide +kernel)]; kernel_rfl) | (rw [if_neg (by decide +kernel)]; exact ⟨rfl, rfl⟩))
    (fun os started H enc _ => lifted os started H enc)
theorem card : Rows.AddressFormatsCardSaid :=
  Claim7.holds_tied_plain_at .later [] [.data, .data, .data, .data, .pinned] true (true, "a4caf97771cecc6370fff57cddc3aa8f525d50a87a13146298f7be9fbc5a6ea2") false over (fun _ h => by cases h) (by kernel_rfl) (fun _ h => by cases h) addressFormats_row_tie rfl ⟨rfl, rfl⟩ (by kernel_rfl) rfl
    (fun f fn hf hfn => by
      obtain rfl : f = 8 := Option.some.inj ((show Tryd.prog.funcNamed "intrusion/intrusionlaw06.AddressFormats" = some 8 by kernel_rfl).symm.trans hf) |>.symm
      obtain rfl : fn = Tryd.f8 := (Option.some.inj (Tryd.func8.symm.trans hfn)).symm
      exact ⟨by kernel_rfl, fun j t ht => by
        rw [Tryd.params8] at ht
        have hm : t ∈ [30, 3] := by simpa using Array.mem_of_getElem? ht
        have hall : ([30, 3].all fun u => !Tryd.prog.wantsStandIn u) = true := by kernel_rfl
        exact (show Tryd.prog.wantsStandIn t = false by simpa using List.all_eq_true.1 hall t hm)⟩)
    (by kernel_rfl)
#print axioms card
end Go.Proofs.YtlgfinnldhjgeaaDoor.addressFormats
namespace Go.Proofs.YtlgfinnldhjgeaaDoor
theorem addressFormats_holds : Rows.AddressFormatsCardSaid := addressFormats.card
end Go.Proofs.YtlgfinnldhjgeaaDoor
end
