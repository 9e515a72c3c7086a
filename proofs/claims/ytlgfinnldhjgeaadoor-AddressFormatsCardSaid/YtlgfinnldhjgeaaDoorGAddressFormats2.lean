/- The law AddressFormats answers true for every input and leaves its arguments as they were. No condition. (Part 2 of 4: the kit's printed words and walks, hand-made contracts and plain laws, joined in build order, without what the theorem does not reach.) -/
import Derived.Test.YtlgfinnldhjgeaaDoorGAddressFormats1
section
namespace Go.Proofs.YtlgfinnldhjgeaaDoor.Q
open Go.RowKit Go.Proofs.YtlgfinnldhjgeaaDoorW.PrintWords Go.Proofs.YtlgfinnldhjgeaaDoorW.PrintLast Go.Proofs.YtlgfinnldhjgeaaDoorW.PrintMore
attribute [local go_sem] max2_int min2_int max_two min_two max_three min_three max_four min_four
set_option linter.unusedVariables false
set_option linter.unusedSimpArgs false
def address_MakePrefix.f (a0_0 : Bool) (a0_1 : Int) (a0_2 : Int) (a1 : Int) : Option (Bool × Int × Int × Int × Int) := if a1 < 0 then (some (false, 0, 0, 0, 4)) else ((address_size.f a0_0 a0_1 a0_2).bind fun t372 => (if a1 > t372 then (some (false, 0, 0, 0, 4)) else ((address_mask.f a0_0 a0_1 a0_2 a1).bind fun bt373 => (some (a0_0, Go.bits .andNot .u64 a0_1 bt373.1, Go.bits .andNot .u64 a0_2 bt373.2, a1, 0)))))
set_option maxHeartbeats 8000000 in
set_option maxRecDepth 100000 in
theorem address_MakePrefix.calls (a0_0 : Bool) (a0_1 : Int) (a0_2 : Int) (a1 : Int) (r1 : Bool) (r2 : Int) (r3 : Int) (r4 : Int) (r5 : Int) (w : World) (h : address_MakePrefix.f a0_0 a0_1 a0_2 a1 = some (r1, r2, r3, r4, r5)) :
 Calls Tryd.prog 26 #[.agg #[.bool a0_0, .int .u64 a0_1, .int .u64 a0_2], .int .i64 a1] w fun e w' => e = .returned (.tuple #[.agg #[.bool r1, .int .u64 r2, .int .u64 r3, .int .i64 r4], .int .i64 r5]) ∧ Below w.heap.size w w' := by
 have hu25 := Tryd.underlying25
 have hu30 := Tryd.underlying30
 have HB := Aside0.mk (Below.refl w.heap.size w)
 unfold address_MakePrefix.f at h; have H := h
 clear h
 by_cases c3 : a1 < 0
 · rw [if_pos c3] at H
   have c3b0 : decide (a1 < 0) = true := decide_eq_true c3
   clear c3
   simp only [Option.some.injEq, Prod.mk.injEq] at H
   obtain ⟨rfl, rfl, rfl, rfl, rfl⟩ := H
   go_enter Tryd.func26, Tryd.ntmps26
   go_wp2_with (first | ((with_reducible refine gate_dst (N := 2) rfl ?_); refine zx 2 #[.bool a0_0, .int .u64 a0_1, .int .u64 a0_2] 25 ?_; intro gb370 hg w4 hbox hb; have BK370 := Aside0.mk (hbox); have GW370 := Aside0.mk ((by rw [hg]; exact (below_size (zB HB)) : w.heap.size ≤ gb370)); have GE370 := Aside0.mk ((by rw [hg]; exact (below_size (zB HB)) : w.heap.size ≤ gb370)); replace HB := Aside0.mk (below_step (zB HB) hb); clear hb hbox hg) | ((with_reducible refine gate_dst (N := 4) rfl ?_); refine zx 4 #[.bool false, .int .u64 0, .int .u64 0, .int .i64 0] 30 ?_; intro gb371 hg w5 hbox hb; have BK371 := Aside0.mk (hbox); have GW371 := Aside0.mk ((by rw [hg]; exact (below_size (zB HB)) : w.heap.size ≤ gb371)); have GE371 := Aside0.mk ((by rw [hg]; exact (below_size (zB HB)) : w.heap.size ≤ gb371)); replace HB := Aside0.mk (below_step (zB HB) hb); have NB370_371 := Aside0.mk ((by rw [hg]; exact Nat.ne_of_lt (blk_lt (g := gb370) (o := .cells #[.bool a0_0, .int .u64 a0_1, .int .u64 a0_2] 25 (0, 0)) (zK BK370)) : gb370 ≠ gb371)); have NB371_370 := Aside0.mk ((by rw [hg]; exact Nat.ne_of_gt (blk_lt (g := gb370) (o := .cells #[.bool a0_0, .int .u64 a0_1, .int .u64 a0_2] 25 (0, 0)) (zK BK370)) : gb371 ≠ gb370)); replace BK370 := Aside0.mk (blk_below (g := gb370) (o := .cells #[.bool a0_0, .int .u64 a0_1, .int .u64 a0_2] 25 (0, 0)) (zK BK370) hb); clear hb hbox hg; have hnb6 := NB371_370.out; have hnc6 := NB370_371.out; obtain ⟨hcz7_0, hcz7_1, hcz7_2, hcz7_3⟩ := zc4 BK371; obtain ⟨hfz7_0, hfz7_1, hfz7_2, hfz7_3⟩ := zf4 BK371))
   refine bodyPost_ret (results_ct rfl _ _ gb371 30 #[.bool false, .int .u64 0, .int .u64 0, .int .i64 0] (0, 0) _ rfl (by refine zL ?_; refine blk_put (cs := #[.bool false, .int .u64 0, .int .u64 0, .int .i64 0]) ?_ 3 _ rfl; refine zL ?_; refine blk_put (cs := #[.bool false, .int .u64 0, .int .u64 0, .int .i64 0]) ?_ 2 _ rfl; refine zL ?_; refine blk_put (cs := #[.bool false, .int .u64 0, .int .u64 0, .int .i64 0]) ?_ 1 _ rfl; refine zL ?_; refine blk_put (cs := #[.bool false, .int .u64 0, .int .u64 0, .int .i64 0]) ?_ 0 _ rfl; refine zL ?_; exact BK371.out) Tryd.underlying30 rfl (by kernel_rfl)) rfl ?_
   exact ⟨by first | rfl | (simp [errW_none, errW_some] <;> rfl) | (simp [*, errW_none, errW_some] <;> rfl), by repeat (first | (with_reducible first | exact HB.out | apply below_alloc | apply pw_below_drewN | apply below_drew1 | refine below_set ?_ GE370.out | refine below_set ?_ GE371.out) | exact HB.out)⟩
 · rw [if_neg c3] at H
   have c3b0 : decide (a1 < 0) = false := decide_eq_false c3
   clear c3
   replace H := Option.bind_eq_some_iff.mp H
   obtain ⟨t372, A80, H⟩ := H
   replace H : (if a1 > t372 then (some (false, 0, 0, 0, 4)) else ((address_mask.f a0_0 a0_1 a0_2 a1).bind fun bt373 => (some (a0_0, Go.bits .andNot .u64 a0_1 bt373.1, Go.bits .andNot .u64 a0_2 bt373.2, a1, 0)))) = some (r1, r2, r3, r4, r5) := H
   have A8 := Aside0.mk A80
   clear A80
   by_cases c9 : a1 > t372
   · rw [if_pos c9] at H
     have c9b0 : decide (t372 < a1) = true := decide_eq_true c9
     clear c9
     simp only [Option.some.injEq, Prod.mk.injEq] at H
     obtain ⟨rfl, rfl, rfl, rfl, rfl⟩ := H
     go_enter Tryd.func26, Tryd.ntmps26
     go_wp2_with (first | ((with_reducible refine gate_dst (N := 2) rfl ?_); refine zx 2 #[.bool a0_0, .int .u64 a0_1, .int .u64 a0_2] 25 ?_; intro gb370 hg w10 hbox hb; have BK370 := Aside0.mk (hbox); have GW370 := Aside0.mk ((by rw [hg]; exact (below_size (zB HB)) : w.heap.size ≤ gb370)); have GE370 := Aside0.mk ((by rw [hg]; exact (below_size (zB HB)) : w.heap.size ≤ gb370)); replace HB := Aside0.mk (below_step (zB HB) hb); clear hb hbox hg) | ((with_reducible refine gate_dst (N := 4) rfl ?_); refine zx 4 #[.bool false, .int .u64 0, .int .u64 0, .int .i64 0] 30 ?_; intro gb371 hg w11 hbox hb; have BK371 := Aside0.mk (hbox); have GW371 := Aside0.mk ((by rw [hg]; exact (below_size (zB HB)) : w.heap.size ≤ gb371)); have GE371 := Aside0.mk ((by rw [hg]; exact (below_size (zB HB)) : w.heap.size ≤ gb371)); replace HB := Aside0.mk (below_step (zB HB) hb); have NB370_371 := Aside0.mk ((by rw [hg]; exact Nat.ne_of_lt (blk_lt (g := gb370) (o := .cells #[.bool a0_0, .int .u64 a0_1, .int .u64 a0_2] 25 (0, 0)) (zK BK370)) : gb370 ≠ gb371)); have NB371_370 := Aside0.mk ((by rw [hg]; exact Nat.ne_of_gt (blk_lt (g := gb370) (o := .cells #[.bool a0_0, .int .u64 a0_1, .int .u64 a0_2] 25 (0, 0)) (zK BK370)) : gb371 ≠ gb370)); replace BK370 := Aside0.mk (blk_below (g := gb370) (o := .cells #[.bool a0_0, .int .u64 a0_1, .int .u64 a0_2] 25 (0, 0)) (zK BK370) hb); clear hb hbox hg; have hnb12 := NB370_371.out; have hnc12 := NB371_370.out; obtain ⟨hcz13_0, hcz13_1, hcz13_2⟩ := zc3 BK370; obtain ⟨hfz13_0, hfz13_1, hfz13_2⟩ := zf3 BK370) | (go_at_call 44; (with_reducible refine (address_size.calls a0_0 a0_1 a0_2 t372 _ A8.out).mono ?_); rintro e w14 ⟨rfl, hb⟩; replace BK370 := Aside0.mk (blk_below (g := gb370) (o := .cells #[.bool a0_0, .int .u64 a0_1, .int .u64 a0_2] 25 (0, 0)) (zK BK370) hb); replace BK371 := Aside0.mk (blk_below (g := gb371) (o := .cells #[.bool false, .int .u64 0, .int .u64 0, .int .i64 0] 30 (0, 0)) (zK BK371) hb); replace HB := Aside0.mk (below_step (zB HB) hb); (try clear hb); obtain ⟨hcz15_0, hcz15_1, hcz15_2, hcz15_3⟩ := zc4 BK371; obtain ⟨hfz15_0, hfz15_1, hfz15_2, hfz15_3⟩ := zf4 BK371))
     refine bodyPost_ret (results_ct rfl _ _ gb371 30 #[.bool false, .int .u64 0, .int .u64 0, .int .i64 0] (0, 0) _ rfl (by refine zL ?_; refine blk_put (cs := #[.bool false, .int .u64 0, .int .u64 0, .int .i64 0]) ?_ 3 _ rfl; refine zL ?_; refine blk_put (cs := #[.bool false, .int .u64 0, .int .u64 0, .int .i64 0]) ?_ 2 _ rfl; refine zL ?_; refine blk_put (cs := #[.bool false, .int .u64 0, .int .u64 0, .int .i64 0]) ?_ 1 _ rfl; refine zL ?_; refine blk_put (cs := #[.bool false, .int .u64 0, .int .u64 0, .int .i64 0]) ?_ 0 _ rfl; refine zL ?_; exact BK371.out) Tryd.underlying30 rfl (by kernel_rfl)) rfl ?_
     exact ⟨by first | rfl | (simp [errW_none, errW_some] <;> rfl) | (simp [*, errW_none, errW_some] <;> rfl), by repeat (first | (with_reducible first | exact HB.out | apply below_alloc | apply pw_below_drewN | apply below_drew1 | refine below_set ?_ GE370.out | refine below_set ?_ GE371.out) | exact HB.out)⟩
   · rw [if_neg c9] at H
     have c9b0 : decide (t372 < a1) = false := decide_eq_false c9
     clear c9
     replace H := Option.bind_eq_some_iff.mp H
     obtain ⟨⟨t373, t374⟩, A160, H⟩ := H
     replace H : (some (a0_0, Go.bits .andNot .u64 a0_1 t373, Go.bits .andNot .u64 a0_2 t374, a1, 0)) = some (r1, r2, r3, r4, r5) := H
     have A16 := Aside0.mk A160
     clear A160
     simp only [Option.some.injEq, Prod.mk.injEq] at H
     obtain ⟨rfl, rfl, rfl, rfl, rfl⟩ := H
     go_enter Tryd.func26, Tryd.ntmps26
     go_wp2_with (first | ((with_reducible refine gate_dst (N := 2) rfl ?_); refine zx 2 #[.bool a0_0, .int .u64 a0_1, .int .u64 a0_2] 25 ?_; intro gb370 hg w17 hbox hb; have BK370 := Aside0.mk (hbox); have GW370 := Aside0.mk ((by rw [hg]; exact (below_size (zB HB)) : w.heap.size ≤ gb370)); have GE370 := Aside0.mk ((by rw [hg]; exact (below_size (zB HB)) : w.heap.size ≤ gb370)); replace HB := Aside0.mk (below_step (zB HB) hb); clear hb hbox hg) | ((with_reducible refine gate_dst (N := 4) rfl ?_); refine zx 4 #[.bool false, .int .u64 0, .int .u64 0, .int .i64 0] 30 ?_; intro gb371 hg w18 hbox hb; have BK371 := Aside0.mk (hbox); have GW371 := Aside0.mk ((by rw [hg]; exact (below_size (zB HB)) : w.heap.size ≤ gb371)); have GE371 := Aside0.mk ((by rw [hg]; exact (below_size (zB HB)) : w.heap.size ≤ gb371)); replace HB := Aside0.mk (below_step (zB HB) hb); have NB370_371 := Aside0.mk ((by rw [hg]; exact Nat.ne_of_lt (blk_lt (g := gb370) (o := .cells #[.bool a0_0, .int .u64 a0_1, .int .u64 a0_2] 25 (0, 0)) (zK BK370)) : gb370 ≠ gb371)); have NB371_370 := Aside0.mk ((by rw [hg]; exact Nat.ne_of_gt (blk_lt (g := gb370) (o := .cells #[.bool a0_0, .int .u64 a0_1, .int .u64 a0_2] 25 (0, 0)) (zK BK370)) : gb371 ≠ gb370)); replace BK370 := Aside0.mk (blk_below (g := gb370) (o := .cells #[.bool a0_0, .int .u64 a0_1, .int .u64 a0_2] 25 (0, 0)) (zK BK370) hb); clear hb hbox hg; have hnb19 := NB370_371.out; have hnc19 := NB371_370.out; obtain ⟨hcz20_0, hcz20_1, hcz20_2⟩ := zc3 BK370; obtain ⟨hfz20_0, hfz20_1, hfz20_2⟩ := zf3 BK370) | (go_at_call 44; (with_reducible refine (address_size.calls a0_0 a0_1 a0_2 t372 _ A8.out).mono ?_); rintro e w21 ⟨rfl, hb⟩; replace BK370 := Aside0.mk (blk_below (g := gb370) (o := .cells #[.bool a0_0, .int .u64 a0_1, .int .u64 a0_2] 25 (0, 0)) (zK BK370) hb); replace BK371 := Aside0.mk (blk_below (g := gb371) (o := .cells #[.bool false, .int .u64 0, .int .u64 0, .int .i64 0] 30 (0, 0)) (zK BK371) hb); replace HB := Aside0.mk (below_step (zB HB) hb); (try clear hb); obtain ⟨hcz22_0, hcz22_1, hcz22_2⟩ := zc3 BK370; obtain ⟨hfz22_0, hfz22_1, hfz22_2⟩ := zf3 BK370) | ((with_reducible refine gate_callee (f := 51) rfl ?_); refine goesL_ (some 20) rfl rfl Tryd.func51 (by kernel_rfl) rfl #[.agg #[.bool a0_0, .int .u64 a0_1, .int .u64 a0_2], .int .i64 a1] rfl (by (try simp only [List.map_toArray, List.map_cons, List.map_nil]); first | done | rfl | (simp only [List.length_drop, List.length_take]; rfl)) ?_; (with_reducible refine (address_mask.calls a0_0 a0_1 a0_2 a1 t373 t374 _ A16.out).mono ?_); rintro e w23 ⟨rfl, hb⟩; refine ⟨_, rfl, ?_⟩; replace BK370 := Aside0.mk (blk_below (g := gb370) (o := .cells #[.bool a0_0, .int .u64 a0_1, .int .u64 a0_2] 25 (0, 0)) (zK BK370) hb); replace BK371 := Aside0.mk (blk_below (g := gb371) (o := .cells #[.bool false, .int .u64 0, .int .u64 0, .int .i64 0] 30 (0, 0)) (zK BK371) hb); replace HB := Aside0.mk (below_step (zB HB) hb); (try clear hb); obtain ⟨hcz24_0, hcz24_1, hcz24_2⟩ := zc3 BK370; obtain ⟨hfz24_0, hfz24_1, hfz24_2⟩ := zf3 BK370; obtain ⟨hcz25_0, hcz25_1, hcz25_2, hcz25_3⟩ := zc4 BK371; obtain ⟨hfz25_0, hfz25_1, hfz25_2, hfz25_3⟩ := zf4 BK371))
     refine bodyPost_ret (results_ct rfl _ _ gb371 30 #[.bool a0_0, .int .u64 (Go.bits .andNot .u64 a0_1 t373), .int .u64 (Go.bits .andNot .u64 a0_2 t374), .int .i64 a1] (0, 0) _ rfl (by refine zL ?_; refine blk_put (cs := #[.bool a0_0, .int .u64 (Go.bits .andNot .u64 a0_1 t373), .int .u64 (Go.bits .andNot .u64 a0_2 t374), .int .i64 0]) ?_ 3 _ rfl; refine zL ?_; refine blk_put (cs := #[.bool a0_0, .int .u64 (Go.bits .andNot .u64 a0_1 t373), .int .u64 0, .int .i64 0]) ?_ 2 _ rfl; refine zL ?_; refine blk_put (cs := #[.bool a0_0, .int .u64 0, .int .u64 0, .int .i64 0]) ?_ 1 _ rfl; refine zL ?_; refine blk_put (cs := #[.bool false, .int .u64 0, .int .u64 0, .int .i64 0]) ?_ 0 _ rfl; refine zL ?_; refine blk_far ?_ NB371_370.out _; refine zL ?_; refine blk_far ?_ NB371_370.out _; refine zL ?_; exact BK371.out) Tryd.underlying30 rfl (by kernel_rfl)) rfl ?_
     exact ⟨by first | rfl | (simp [errW_none, errW_some] <;> rfl) | (simp [*, errW_none, errW_some] <;> rfl), by repeat (first | (with_reducible first | exact HB.out | apply below_alloc | apply pw_below_drewN | apply below_drew1 | refine below_set ?_ GE370.out | refine below_set ?_ GE371.out) | exact HB.out)⟩
end Go.Proofs.YtlgfinnldhjgeaaDoor.Q
end

section
namespace Go.Proofs.YtlgfinnldhjgeaaDoor.Q
open Go.RowKit Go.Proofs.YtlgfinnldhjgeaaDoorW.PrintWords Go.Proofs.YtlgfinnldhjgeaaDoorW.PrintLast Go.Proofs.YtlgfinnldhjgeaaDoorW.PrintMore
attribute [local go_sem] max2_int min2_int max_two min_two max_three min_three max_four min_four
set_option linter.unusedVariables false
set_option linter.unusedSimpArgs false
def address_bytes.l0 : Nat → Int → Int → List Int → Int → Int → Option (ByteArray)
  | 0, _, _, _, _, _ => none
  | k + 1, x0, x1, x5, x7, x8 => if x8 < x7 then (if 0 ≤ (wrap64 (8 * (wrap64 ((wrap64 (x1 - 1)) - x8)))) then (if x5.length < 140737488355328 then (address_bytes.l0 k x0 x1 (x5 ++ [(shr .u64 x0 (wrap64 (8 * (wrap64 ((wrap64 (x1 - 1)) - x8))))) % 256]) x7 (wrap64 (x8 + 1))) else (none)) else (none)) else (some (strOfNums x5))
def address_bytes.f (k : Nat) (a0 : Int) (a1 : Int) : Option (ByteArray) := address_bytes.l0 k a0 a1 ([] : List Int) a1 0
theorem address_bytes.mono_l : ∀ k, (∀ y0 y1 y2 y3 y4, LeO (address_bytes.l0 k y0 y1 y2 y3 y4) (address_bytes.l0 (k + 1) y0 y1 y2 y3 y4))
  | 0 => fun _ _ _ _ _ r h => by simp [address_bytes.l0] at h
  | k + 1 => by
    have ih0 := address_bytes.mono_l k
    · intro y0 y1 y2 y3 y4
      unfold address_bytes.l0
      repeat' first
      | (with_reducible exact ih0 _ _ _ _ _)
      | (with_reducible exact LeO.refl _)
      | (with_reducible exact LeO.none _)
      | (with_reducible refine LeO.ite ?_ ?_)
      | (with_reducible refine LeO.bind ?_ (fun _ => ?_))
      | exact ih0 _ _ _ _ _
      | exact LeO.none _
      | refine LeO.ite ?_ ?_
      | refine LeO.bind ?_ (fun _ => ?_)
theorem address_bytes.mono : ∀ a0 a1 k, LeO (address_bytes.f k a0 a1) (address_bytes.f (k + 1) a0 a1) := by
  intro a0 a1 k
  have ih0 := address_bytes.mono_l k
  unfold address_bytes.f
  repeat' first
      | (with_reducible exact ih0 _ _ _ _ _)
      | (with_reducible exact LeO.refl _)
      | (with_reducible exact LeO.none _)
      | (with_reducible refine LeO.ite ?_ ?_)
      | (with_reducible refine LeO.bind ?_ (fun _ => ?_))
      | exact ih0 _ _ _ _ _
      | exact LeO.none _
      | refine LeO.ite ?_ ?_
      | refine LeO.bind ?_ (fun _ => ?_)
set_option maxHeartbeats 8000000 in
set_option maxRecDepth 100000 in
theorem address_bytes.calls (k : Nat) (a0 : Int) (a1 : Int) (r : ByteArray) (w : World) (h : address_bytes.f k a0 a1 = some r) :
 Calls Tryd.prog 53 #[.int .u64 a0, .int .i64 a1] w fun e w' => e = .returned (.string r) ∧ Below w.heap.size w w' := by
 have HB := Aside0.mk (Below.refl w.heap.size w)
 unfold address_bytes.f at h; have H := h
 clear h
 have H' := Aside0.mk H
 clear H
 go_enter Tryd.func53, Tryd.ntmps53
 go_wp2
 go_loopg [5, 8] k (fun kq v5 v8 w' => ∃ (x5_1 : List Int) (x8_1 : Int), v8 = .int .i64 x8_1 ∧ Aside0 (address_bytes.l0 kq a0 a1 x5_1 a1 x8_1 = some r) ∧ Aside0 (kq ≤ k) ∧ Aside0 (Kd.R (Kd.int .u8) 5 w' w.heap.size (fun _ => True) v5 x5_1) ∧ Aside0 (Below w.heap.size w w'))
 case atStart => exact ⟨(([] : List Int)), (0), (by first | rfl | (simp; done) | (simp [*]; done)), H', ⟨Nat.le_refl _⟩, ⟨by first | exact Kd.R_nil _ _ _ _ _ | exact Kd.N_nil _ _ _ _ _ | exact Kd.V_nil _ _ _ _ _ | exact Kd.Q_nil _ _ _ _ _ | exact Kd.S_nil _ _ _ _ _⟩, ⟨zB HB⟩⟩
 case round =>
  clear H'
  try clear p2
  obtain ⟨x5_1, x8_1, rfl, HA, HK1, HO_5, HB⟩ := hrel
  cases gk with
  | zero => exact absurd HA.out (by simp [address_bytes.l0])
  | succ k1 =>
   have H := HA.out
   clear HA
   simp only [address_bytes.l0] at H
   by_cases c3 : x8_1 < a1
   · rw [if_pos c3] at H
     have c3b0 : decide (x8_1 < a1) = true := decide_eq_true c3
     clear c3
     obtain ⟨ji4, hji4⟩ : ∃ j_ : Int, (wrap64 (8 * (wrap64 ((wrap64 (a1 - 1)) - x8_1)))) = j_ := ⟨_, rfl⟩
     replace H : (if 0 ≤ (ji4) then (if x5_1.length < 140737488355328 then (address_bytes.l0 k1 a0 a1 (x5_1 ++ [(shr .u64 a0 (ji4)) % 256]) a1 (wrap64 (x8_1 + 1))) else (none)) else (none)) = some r := by first | (rw [hji4] at H; exact H) | (simp only [hji4] at H ⊢; exact H)
     have hji4w : (IntKind.i64.wrap (8 * (wrap64 ((wrap64 (a1 - 1)) - x8_1)))) = ji4 := (i64_w _).trans hji4
     by_cases c5 : 0 ≤ (ji4)
     · rw [if_pos c5] at H
       have c5b0 := eq_true c5
       have c5b1 : decide (0 ≤ (ji4)) = true := decide_eq_true c5
       clear c5
       obtain ⟨ji6, hji6⟩ : ∃ j_ : Int, (shr .u64 a0 (ji4)) = j_ := ⟨_, rfl⟩
       replace H : (if x5_1.length < 140737488355328 then (address_bytes.l0 k1 a0 a1 (x5_1 ++ [(ji6) % 256]) a1 (wrap64 (x8_1 + 1))) else (none)) = some r := by first | (rw [hji6] at H; exact H) | (simp only [hji6] at H ⊢; exact H)
       have hji6_ : (a0 / 2 ^ min (ji4).toNat 64) = ji6 := hji6
       have hji6z : (ji4) ≤ 64 → (a0 / 2 ^ (ji4).toNat) = ji6 := shr_small hji6
       by_cases c7 : x5_1.length < 140737488355328
       · rw [if_pos c7] at H
         have LMc7 := Aside0.mk c7
         clear c7
         obtain ⟨y405, hy405⟩ : ∃ y_ : List Int, y_ = (x5_1 ++ [(ji6) % 256]) := ⟨_, rfl⟩
         rw [← hy405] at H; try dsimp only [Option.bind_some] at H
         have Ny405 := Aside0.mk hy405
         clear hy405
         have H' := Aside0.mk H
         clear H
         go_wp2_with (first | ((with_reducible refine gate_builtin (b := .append) (xs := #[.tmp 11, .tmp 20]) rfl ?_); at_builtin; refine Kd.R_append (Kd.int .u8) (w0 := w) w.heap.size rfl (.tmp 11) (.tmp 20) 75 5 (.int .u8 0) 1 rfl Tryd.underlying75 info5 rfl (by decide) (by omega) u5 x5_1 ((ji6) % 256) [.int .u8 ((ji6) % 256)] (fun _ => True) (fun _ => False) rfl rfl ?aP (fun _ hk => hk.elim) ?aF ?aO ?aB ?aS ?aL ?_; (case aP => exact rfl); (case aB => exact (zB HB)); (case aF => exact (fun _ _ => trivial)); (case aO => exact (zR HO_5)); (case aS => exact (below_size (zB HB))); (case aL => have := LMc7.out; omega); intro v406 w8 ho hb hg hat; rw [← Ny405.out] at ho; replace HB := Aside0.mk (hb); have HO407 := Aside0.mk (ho); clear HO_5; clear ho hb hg hat))
         go_roundg k1
         case measure => have := HK1.out; omega
         case rel => exact ⟨(y405), (wrap64 (x8_1 + 1)), (by first | rfl | (simp; done) | (simp [*]; done)), H', ⟨by have := HK1.out; omega⟩, ⟨zR HO407⟩, ⟨zB HB⟩⟩
       · rw [if_neg c7] at H
         exact absurd H (by simp)
     · rw [if_neg c5] at H
       exact absurd H (by simp)
   · rw [if_neg c3] at H
     have c3b0 : decide (x8_1 < a1) = false := decide_eq_false c3
     clear c3
     obtain rfl := Option.some.inj H
     have hcv9 := own_string (P := Tryd.prog) Tryd.underlying75 Tryd.underlying5 Tryd.underlying9 (Kd.own_of_R HO_5.out)
     go_wp2
     go_ret
     exact ⟨by first | rfl | (simp [errW_none, errW_some] <;> rfl) | (simp [*, errW_none, errW_some] <;> rfl), by repeat (first | (with_reducible first | exact HB.out | apply below_alloc | apply pw_below_drewN | apply below_drew1) | exact HB.out)⟩
end Go.Proofs.YtlgfinnldhjgeaaDoor.Q
end

section
namespace Go.Proofs.YtlgfinnldhjgeaaDoor.Q
open Go.RowKit Go.Proofs.YtlgfinnldhjgeaaDoorW.PrintWords Go.Proofs.YtlgfinnldhjgeaaDoorW.PrintLast Go.Proofs.YtlgfinnldhjgeaaDoorW.PrintMore
attribute [local go_sem] max2_int min2_int max_two min_two max_three min_three max_four min_four
set_option linter.unusedVariables false
set_option linter.unusedSimpArgs false
def address_Bytes.f (k : Nat) (a0_0 : Bool) (a0_1 : Int) (a0_2 : Int) : Option (ByteArray) := if a0_0 = true then ((address_bytes.f k a0_1 8).bind fun t409 => ((address_bytes.f k a0_2 8).bind fun t410 => (if t409.size + t410.size ≤ 9223372036854775807 then (some (t409 ++ t410)) else (none)))) else ((address_bytes.f k a0_2 4).bind fun t411 => (some t411))
theorem address_Bytes.mono : ∀ a0 a1 a2 k, LeO (address_Bytes.f k a0 a1 a2) (address_Bytes.f (k + 1) a0 a1 a2) := by
  intro a0 a1 a2 k
  unfold address_Bytes.f
  repeat' first
      | (with_reducible exact address_bytes.mono _ _ _)
      | (with_reducible exact LeO.refl _)
      | (with_reducible exact LeO.none _)
      | (with_reducible refine LeO.ite ?_ ?_)
      | (with_reducible refine LeO.bind ?_ (fun _ => ?_))
      | exact address_bytes.mono _ _ _
      | exact LeO.none _
      | refine LeO.ite ?_ ?_
      | refine LeO.bind ?_ (fun _ => ?_)
def address_Bytes.T2 : Bool × List (List Nat × List Nat) := (true, [([], []), ([0], [0]), ([1], [1]), ([], []), ([3], [3]), ([4, 2], [4]), ([2, 5], [2, 5]), ([6, 5, 0, 1, 2, 3, 4, 5, 6], [6])])
def address_Bytes.B2 : List Nat := [0, 1, 3, 0, 8, 31, 63, 127]
theorem address_Bytes.tab2 : rtab .any (opsOf Tryd.f30 2) = address_Bytes.T2 := by kernel_rfl
theorem address_Bytes.bits2 : waitsOk address_Bytes.T2.2 address_Bytes.B2 = true := by kernel_rfl
set_option maxHeartbeats 8000000 in
set_option maxRecDepth 100000 in
theorem address_Bytes.calls (k : Nat) (a0_0 : Bool) (a0_1 : Int) (a0_2 : Int) (r : ByteArray) (w : World) (h : address_Bytes.f k a0_0 a0_1 a0_2 = some r) :
 Calls Tryd.prog 30 #[.agg #[.bool a0_0, .int .u64 a0_1, .int .u64 a0_2]] w fun e w' => e = .returned (.string r) ∧ Below w.heap.size w w' := by
 have hu25 := Tryd.underlying25
 have HB := Aside0.mk (Below.refl w.heap.size w)
 unfold address_Bytes.f at h; have H := h
 clear h
 by_cases c2 : a0_0 = true
 · subst c2
   rw [if_pos rfl] at H
   replace H := Option.bind_eq_some_iff.mp H
   obtain ⟨t409, A30, H⟩ := H
   try dsimp only at H
   have A3 := Aside0.mk A30
   clear A30
   replace H := Option.bind_eq_some_iff.mp H
   obtain ⟨t410, A40, H⟩ := H
   try dsimp only at H
   have A4 := Aside0.mk A40
   clear A40
   by_cases c5 : t409.size + t410.size ≤ 9223372036854775807
   · rw [if_pos c5] at H
     have c5b0 := eq_true c5
     have c5b1 : decide (t409.size + t410.size ≤ 9223372036854775807) = true := decide_eq_true c5
     try have c5b2 : (9223372036854775807 < t409.size + t410.size) = False := eq_false (Nat.not_lt.2 c5)
     obtain rfl := Option.some.inj H
     go_enter Tryd.func30, Tryd.ntmps30
     try go_wp2_with (first | ((with_reducible refine gate_dst (N := 1) rfl ?_); refine zx 1 #[.bool true, .int .u64 a0_1, .int .u64 a0_2] 25 ?_; intro gb408 hg w6 hbox hb; have BK408 := Aside0.mk (hbox); have GW408 := Aside0.mk ((by rw [hg]; exact (below_size (zB HB)) : w.heap.size ≤ gb408)); have GE408 := Aside0.mk ((by rw [hg]; exact (below_size (zB HB)) : w.heap.size ≤ gb408)); replace HB := Aside0.mk (below_step (zB HB) hb); clear hb hbox hg; obtain ⟨hcz7_0, hcz7_1, hcz7_2⟩ := zc3 BK408; obtain ⟨hfz7_0, hfz7_1, hfz7_2⟩ := zf3 BK408))
     replace BK408 := Aside0.mk (blk_drew BK408.out)
     replace HB := Aside0.mk (below_drew1 HB.out)
     refine start_ (n := 8) (S := fun w' => w'.cell? ⟨gb408, 0, none⟩ = some (.bool true) ∧ w'.cell? ⟨gb408, 1, none⟩ = some (.int .u64 a0_1) ∧ w'.cell? ⟨gb408, 2, none⟩ = some (.int .u64 a0_2)) (ds := []) #[false, false, false, false, false, false, false, false] (by kernel_rfl) rfl rfl ⟨zc BK408 0, zc BK408 1, zc BK408 2⟩ (fun hHeld => ?_); refine with_tabW address_Bytes.tab2 address_Bytes.bits2 (fun HT_ HW_ => ?_)
     generalize w6.drew = w8 at BK408 HB hHeld ⊢
     refine zp 0 5 HT_ ?_; refine zp 3 8 HT_ ?_; refine zt 1 6 HT_ HW_ hHeld ?_; refine zt 4 9 HT_ HW_ hHeld ?_; refine zo 2 7 HT_ (fun K hK => ?_)
     refine zg Tryd.func53 #[.int .u64 a0_1, .int .i64 8] ?_
     with_reducible refine (address_bytes.calls k a0_1 8 t409 _ A3.out).mono ?_
     rintro e w9 ⟨rfl, hb⟩
     refine ⟨_, rfl, ?_⟩
     replace BK408 := Aside0.mk (blk_below (g := gb408) (o := .cells #[.bool true, .int .u64 a0_1, .int .u64 a0_2] 25 (0, 0)) (zK BK408) hb)
     replace HB := Aside0.mk (below_step (zB HB) hb)
     (try clear hb)
     refine hK.out _ _ ⟨zc BK408 0, zc BK408 1, zc BK408 2⟩ (fun hHeld => ?_)
     clear hK K
     refine zn 7 ?_; refine zo 5 10 HT_ (fun K hK => ?_)
     refine zg Tryd.func53 #[.int .u64 a0_2, .int .i64 8] ?_
     with_reducible refine (address_bytes.calls k a0_2 8 t410 _ A4.out).mono ?_
     rintro e w10 ⟨rfl, hb⟩
     refine ⟨_, rfl, ?_⟩
     replace BK408 := Aside0.mk (blk_below (g := gb408) (o := .cells #[.bool true, .int .u64 a0_1, .int .u64 a0_2] 25 (0, 0)) (zK BK408) hb)
     replace HB := Aside0.mk (below_step (zB HB) hb)
     (try clear hb)
     refine hK.out _ _ ⟨zc BK408 0, zc BK408 1, zc BK408 2⟩ (fun hHeld => ?_)
     clear hK K
     refine zn 10 ?_; refine zp 6 11 HT_ ?_; refine zp 7 2 HT_ ?_; refine zd HT_ ?_
     try go_wp2
     go_ret
     exact ⟨by first | rfl | (simp [errW_none, errW_some] <;> rfl) | (simp [*, errW_none, errW_some] <;> rfl), by repeat (first | (with_reducible first | exact HB.out | apply below_alloc | apply pw_below_drewN | apply below_drew1 | refine below_set ?_ GE408.out) | exact HB.out)⟩
   · rw [if_neg c5] at H
     exact absurd H (by simp)
 · replace c2 := Bool.eq_false_iff.mpr c2
   subst c2
   rw [if_neg zF] at H
   replace H := Option.bind_eq_some_iff.mp H
   obtain ⟨t411, A110, H⟩ := H
   try dsimp only at H
   have A11 := Aside0.mk A110
   clear A110
   obtain rfl := Option.some.inj H
   go_enter Tryd.func30, Tryd.ntmps30
   go_wp2_with (first | ((with_reducible refine gate_dst (N := 1) rfl ?_); refine zx 1 #[.bool false, .int .u64 a0_1, .int .u64 a0_2] 25 ?_; intro gb408 hg w12 hbox hb; have BK408 := Aside0.mk (hbox); have GW408 := Aside0.mk ((by rw [hg]; exact (below_size (zB HB)) : w.heap.size ≤ gb408)); have GE408 := Aside0.mk ((by rw [hg]; exact (below_size (zB HB)) : w.heap.size ≤ gb408)); replace HB := Aside0.mk (below_step (zB HB) hb); clear hb hbox hg; obtain ⟨hcz13_0, hcz13_1, hcz13_2⟩ := zc3 BK408; obtain ⟨hfz13_0, hfz13_1, hfz13_2⟩ := zf3 BK408) | ((with_reducible refine gate_callee (f := 53) rfl ?_); refine goesL_ (some 14) rfl rfl Tryd.func53 (by kernel_rfl) rfl #[.int .u64 a0_2, .int .i64 4] rfl (by (try simp only [List.map_toArray, List.map_cons, List.map_nil]); first | done | rfl | (simp only [List.length_drop, List.length_take]; rfl)) ?_; (with_reducible refine (address_bytes.calls k a0_2 4 t411 _ A11.out).mono ?_); rintro e w14 ⟨rfl, hb⟩; refine ⟨_, rfl, ?_⟩; replace BK408 := Aside0.mk (blk_below (g := gb408) (o := .cells #[.bool false, .int .u64 a0_1, .int .u64 a0_2] 25 (0, 0)) (zK BK408) hb); replace HB := Aside0.mk (below_step (zB HB) hb); (try clear hb)))
   go_ret
   exact ⟨by first | rfl | (simp [errW_none, errW_some] <;> rfl) | (simp [*, errW_none, errW_some] <;> rfl), by repeat (first | (with_reducible first | exact HB.out | apply below_alloc | apply pw_below_drewN | apply below_drew1 | refine below_set ?_ GE408.out) | exact HB.out)⟩
end Go.Proofs.YtlgfinnldhjgeaaDoor.Q
end

section
namespace Go.Proofs.YtlgfinnldhjgeaaDoor.Q
open Go.RowKit Go.Proofs.YtlgfinnldhjgeaaDoorW.PrintWords Go.Proofs.YtlgfinnldhjgeaaDoorW.PrintLast Go.Proofs.YtlgfinnldhjgeaaDoorW.PrintMore
attribute [local go_sem] max2_int min2_int max_two min_two max_three min_three max_four min_four
set_option linter.unusedVariables false
set_option linter.unusedSimpArgs false
def intrusionref06_Number.l0 : Nat → Int → ByteArray → Option (ByteArray)
  | 0, _, _ => none
  | k + 1, x0, x3 => if x0 > 9 then ((some (([(wrap64 (48 + (Int.tmod x0 10))) % 256] : List Int) : List Int)).bind fun y426 => (if (strOfNums y426).size + x3.size ≤ 9223372036854775807 then (intrusionref06_Number.l0 k (wrap64 (Int.tdiv x0 10)) ((strOfNums y426) ++ x3)) else (none))) else ((some (([(wrap64 (48 + x0)) % 256] : List Int) : List Int)).bind fun y429 => (if (strOfNums y429).size + x3.size ≤ 9223372036854775807 then (some ((strOfNums y429) ++ x3)) else (none)))
def intrusionref06_Number.f (k : Nat) (a0 : Int) : Option (ByteArray) := intrusionref06_Number.l0 k a0 (⟨#[]⟩ : ByteArray)
theorem intrusionref06_Number.mono_l : ∀ k, (∀ y0 y1, LeO (intrusionref06_Number.l0 k y0 y1) (intrusionref06_Number.l0 (k + 1) y0 y1))
  | 0 => fun _ _ r h => by simp [intrusionref06_Number.l0] at h
  | k + 1 => by
    have ih0 := intrusionref06_Number.mono_l k
    · intro y0 y1
      unfold intrusionref06_Number.l0
      repeat' first
      | (with_reducible exact ih0 _ _)
      | (with_reducible exact LeO.refl _)
      | (with_reducible exact LeO.none _)
      | (with_reducible refine LeO.ite ?_ ?_)
      | (with_reducible refine LeO.bind ?_ (fun _ => ?_))
      | exact ih0 _ _
      | exact LeO.none _
      | refine LeO.ite ?_ ?_
      | refine LeO.bind ?_ (fun _ => ?_)
theorem intrusionref06_Number.mono : ∀ a0 k, LeO (intrusionref06_Number.f k a0) (intrusionref06_Number.f (k + 1) a0) := by
  intro a0 k
  have ih0 := intrusionref06_Number.mono_l k
  unfold intrusionref06_Number.f
  repeat' first
      | (with_reducible exact ih0 _ _)
      | (with_reducible exact LeO.refl _)
      | (with_reducible exact LeO.none _)
      | (with_reducible refine LeO.ite ?_ ?_)
      | (with_reducible refine LeO.bind ?_ (fun _ => ?_))
      | exact ih0 _ _
      | exact LeO.none _
      | refine LeO.ite ?_ ?_
      | refine LeO.bind ?_ (fun _ => ?_)
set_option maxHeartbeats 8000000 in
set_option maxRecDepth 100000 in
theorem intrusionref06_Number.calls (k : Nat) (a0 : Int) (r : ByteArray) (w : World) (h : intrusionref06_Number.f k a0 = some r) :
 Calls Tryd.prog 59 #[.int .i64 a0] w fun e w' => e = .returned (.string r) ∧ Below w.heap.size w w' := by
 have HB := Aside0.mk (Below.refl w.heap.size w)
 unfold intrusionref06_Number.f at h; have H := h
 clear h
 have H' := Aside0.mk H
 clear H
 go_enter Tryd.func59, Tryd.ntmps59
 go_wp2
 go_loopg [0, 3] k (fun kq v0 v3 w' => ∃ (x0_1 : Int) (x3_1 : ByteArray), v0 = .int .i64 x0_1 ∧ v3 = .string x3_1 ∧ Aside0 (intrusionref06_Number.l0 kq x0_1 x3_1 = some r) ∧ Aside0 (kq ≤ k) ∧ Aside0 (Below w.heap.size w w'))
 case atStart => exact ⟨(a0), ((⟨#[]⟩ : ByteArray)), (by first | rfl | (simp; done) | (simp [*]; done)), (by first | rfl | (simp; done) | (simp [*]; done)), H', ⟨Nat.le_refl _⟩, ⟨zB HB⟩⟩
 case round =>
  clear H'
  obtain ⟨x0_1, x3_1, rfl, rfl, HA, HK1, HB⟩ := hrel
  cases gk with
  | zero => exact absurd HA.out (by simp [intrusionref06_Number.l0])
  | succ k1 =>
   have H := HA.out
   clear HA
   simp only [intrusionref06_Number.l0] at H
   by_cases c2 : x0_1 > 9
   · rw [if_pos c2] at H
     have c2b0 : decide (9 < x0_1) = true := decide_eq_true c2
     clear c2
     obtain ⟨y426, hy426⟩ : ∃ y_ : List Int, y_ = (([(wrap64 (48 + (Int.tmod x0_1 10))) % 256] : List Int)) := ⟨_, rfl⟩
     rw [← hy426] at H; try dsimp only [Option.bind_some] at H
     have Ny426 := Aside0.mk hy426
     clear hy426
     by_cases c3 : (strOfNums y426).size + x3_1.size ≤ 9223372036854775807
     · rw [if_pos c3] at H
       have c3b0 := eq_true c3
       have c3b1 : decide ((strOfNums y426).size + x3_1.size ≤ 9223372036854775807) = true := decide_eq_true c3
       try have c3b2 : (9223372036854775807 < (strOfNums y426).size + x3_1.size) = False := eq_false (Nat.not_lt.2 c3)
       have H' := Aside0.mk H
       clear H
       go_wp2_with (first | ((with_reducible refine gate_dst (N := 10) rfl ?_); refine Kd.R_lit (Kd.int .u8) _ 5 ?hg (N := 10) ?hd (xs := ([(wrap64 (48 + (Int.tmod x0_1 10))) % 256] : List Int)) (inner := [.int .u8 ((wrap64 (48 + (Int.tmod x0_1 10))) % 256)]) (ok := fun _ => True) (okp := fun _ => True) ?hr ?hp (fun _ hk => hk) trivial (Below.refl _ _) (Nat.le_refl _) (by simp) ?_; (case hd => rfl); (case hg => rfl); (case hr => first | (go_simp; done) | (go_simp; rfl)); (case hp => exact (Reps.one (show Kd.M (Kd.int .u8) _ _ _ ((wrap64 (48 + (Int.tmod x0_1 10))) % 256) [.int .u8 ((wrap64 (48 + (Int.tmod x0_1 10))) % 256)] from rfl) (Reps.none _ _))); intro v427 w4 ho5 hb hg_ hnew_; clear hg_ hnew_; (first | rw [← Ny426.out] at ho5 | (simp only [Int.reduceToNat] at ho5; rw [← Ny426.out] at ho5)); have HO428 := Aside0.mk (Kd.R_lower ho5 (below_size (zB HB))); replace HB := Aside0.mk (below_step (zB HB) hb); clear hb ho5; have hcv6 := own_string (P := Tryd.prog) Tryd.underlying75 Tryd.underlying5 Tryd.underlying9 (Kd.own_of_R HO428.out)))
       go_roundg k1
       case measure => have := HK1.out; omega
       case rel => exact ⟨(wrap64 (Int.tdiv x0_1 10)), ((strOfNums y426) ++ x3_1), (by first | rfl | (simp; done) | (simp [*]; done)), (by first | rfl | (simp; done) | (simp [*]; done)), H', ⟨by have := HK1.out; omega⟩, ⟨zB HB⟩⟩
     · rw [if_neg c3] at H
       exact absurd H (by simp)
   · rw [if_neg c2] at H
     have c2b0 : decide (9 < x0_1) = false := decide_eq_false c2
     clear c2
     obtain ⟨y429, hy429⟩ : ∃ y_ : List Int, y_ = (([(wrap64 (48 + x0_1)) % 256] : List Int)) := ⟨_, rfl⟩
     rw [← hy429] at H; try dsimp only [Option.bind_some] at H
     have Ny429 := Aside0.mk hy429
     clear hy429
     by_cases c7 : (strOfNums y429).size + x3_1.size ≤ 9223372036854775807
     · rw [if_pos c7] at H
       have c7b0 := eq_true c7
       have c7b1 : decide ((strOfNums y429).size + x3_1.size ≤ 9223372036854775807) = true := decide_eq_true c7
       try have c7b2 : (9223372036854775807 < (strOfNums y429).size + x3_1.size) = False := eq_false (Nat.not_lt.2 c7)
       obtain rfl := Option.some.inj H
       go_wp2_with (first | ((with_reducible refine gate_dst (N := 19) rfl ?_); refine Kd.R_lit (Kd.int .u8) _ 5 ?hg (N := 19) ?hd (xs := ([(wrap64 (48 + x0_1)) % 256] : List Int)) (inner := [.int .u8 ((wrap64 (48 + x0_1)) % 256)]) (ok := fun _ => True) (okp := fun _ => True) ?hr ?hp (fun _ hk => hk) trivial (Below.refl _ _) (Nat.le_refl _) (by simp) ?_; (case hd => rfl); (case hg => rfl); (case hr => first | (go_simp; done) | (go_simp; rfl)); (case hp => exact (Reps.one (show Kd.M (Kd.int .u8) _ _ _ ((wrap64 (48 + x0_1)) % 256) [.int .u8 ((wrap64 (48 + x0_1)) % 256)] from rfl) (Reps.none _ _))); intro v430 w8 ho9 hb hg_ hnew_; clear hg_ hnew_; (first | rw [← Ny429.out] at ho9 | (simp only [Int.reduceToNat] at ho9; rw [← Ny429.out] at ho9)); have HO431 := Aside0.mk (Kd.R_lower ho9 (below_size (zB HB))); replace HB := Aside0.mk (below_step (zB HB) hb); clear hb ho9; have hcv10 := own_string (P := Tryd.prog) Tryd.underlying75 Tryd.underlying5 Tryd.underlying9 (Kd.own_of_R HO431.out)))
       go_ret
       exact ⟨by first | rfl | (simp [errW_none, errW_some] <;> rfl) | (simp [*, errW_none, errW_some] <;> rfl), by repeat (first | (with_reducible first | exact HB.out | apply below_alloc | apply pw_below_drewN | apply below_drew1) | exact HB.out)⟩
     · rw [if_neg c7] at H
       exact absurd H (by simp)
end Go.Proofs.YtlgfinnldhjgeaaDoor.Q
end

section
namespace Go.Proofs.YtlgfinnldhjgeaaDoor.Q
open Go.RowKit Go.Proofs.YtlgfinnldhjgeaaDoorW.PrintWords Go.Proofs.YtlgfinnldhjgeaaDoorW.PrintLast Go.Proofs.YtlgfinnldhjgeaaDoorW.PrintMore
attribute [local go_sem] max2_int min2_int max_two min_two max_three min_three max_four min_four
set_option linter.unusedVariables false
set_option linter.unusedSimpArgs false
mutual
def intrusionref06_Groups.l0 : Nat → List Int → Int → Bool → Int → Int → Option (List Int)
  | 0, _, _, _, _, _ => none
  | k + 1, x3, x4, x433000, x433001, x433002 => if x4 ≥ 0 then (if 0 ≤ (IntKind.u64.wrap (wrap64 (16 * x4))) then (if x3.length < 17592186044416 then (intrusionref06_Groups.l0 k (x3 ++ [wrap64 (Go.bits .and .u64 (shr .u64 x433001 (IntKind.u64.wrap (wrap64 (16 * x4)))) 65535)]) (wrap64 (x4 - 1)) x433000 x433001 x433002) else (none)) else (none)) else (intrusionref06_Groups.l1 k x3 3 x433000 x433001 x433002)
def intrusionref06_Groups.l1 : Nat → List Int → Int → Bool → Int → Int → Option (List Int)
  | 0, _, _, _, _, _ => none
  | k + 1, x3, x5, x433000, x433001, x433002 => if x5 ≥ 0 then (if 0 ≤ (IntKind.u64.wrap (wrap64 (16 * x5))) then (if x3.length < 17592186044416 then (intrusionref06_Groups.l1 k (x3 ++ [wrap64 (Go.bits .and .u64 (shr .u64 x433002 (IntKind.u64.wrap (wrap64 (16 * x5)))) 65535)]) (wrap64 (x5 - 1)) x433000 x433001 x433002) else (none)) else (none)) else (some x3)
end
def intrusionref06_Groups.f (k : Nat) (a0_0 : Bool) (a0_1 : Int) (a0_2 : Int) : Option (List Int) := intrusionref06_Groups.l0 k ([] : List Int) 3 a0_0 a0_1 a0_2
theorem intrusionref06_Groups.mono_l : ∀ k, (∀ y0 y1 y2 y3 y4, LeO (intrusionref06_Groups.l0 k y0 y1 y2 y3 y4) (intrusionref06_Groups.l0 (k + 1) y0 y1 y2 y3 y4)) ∧ (∀ y0 y1 y2 y3 y4, LeO (intrusionref06_Groups.l1 k y0 y1 y2 y3 y4) (intrusionref06_Groups.l1 (k + 1) y0 y1 y2 y3 y4))
  | 0 => ⟨fun _ _ _ _ _ r h => by simp [intrusionref06_Groups.l0] at h, fun _ _ _ _ _ r h => by simp [intrusionref06_Groups.l1] at h⟩
  | k + 1 => by
    obtain ⟨ih0, ih1⟩ := intrusionref06_Groups.mono_l k
    refine ⟨?_, ?_⟩
    · intro y0 y1 y2 y3 y4
      unfold intrusionref06_Groups.l0
      repeat' first
      | (with_reducible exact ih0 _ _ _ _ _)
      | (with_reducible exact ih1 _ _ _ _ _)
      | (with_reducible exact LeO.refl _)
      | (with_reducible exact LeO.none _)
      | (with_reducible refine LeO.ite ?_ ?_)
      | (with_reducible refine LeO.bind ?_ (fun _ => ?_))
      | exact ih0 _ _ _ _ _
      | exact ih1 _ _ _ _ _
      | exact LeO.none _
      | refine LeO.ite ?_ ?_
      | refine LeO.bind ?_ (fun _ => ?_)
    · intro y0 y1 y2 y3 y4
      unfold intrusionref06_Groups.l1
      repeat' first
      | (with_reducible exact ih0 _ _ _ _ _)
      | (with_reducible exact ih1 _ _ _ _ _)
      | (with_reducible exact LeO.refl _)
      | (with_reducible exact LeO.none _)
      | (with_reducible refine LeO.ite ?_ ?_)
      | (with_reducible refine LeO.bind ?_ (fun _ => ?_))
      | exact ih0 _ _ _ _ _
      | exact ih1 _ _ _ _ _
      | exact LeO.none _
      | refine LeO.ite ?_ ?_
      | refine LeO.bind ?_ (fun _ => ?_)
theorem intrusionref06_Groups.mono : ∀ a0 a1 a2 k, LeO (intrusionref06_Groups.f k a0 a1 a2) (intrusionref06_Groups.f (k + 1) a0 a1 a2) := by
  intro a0 a1 a2 k
  obtain ⟨ih0, ih1⟩ := intrusionref06_Groups.mono_l k
  unfold intrusionref06_Groups.f
  repeat' first
      | (with_reducible exact ih0 _ _ _ _ _)
      | (with_reducible exact ih1 _ _ _ _ _)
      | (with_reducible exact LeO.refl _)
      | (with_reducible exact LeO.none _)
      | (with_reducible refine LeO.ite ?_ ?_)
      | (with_reducible refine LeO.bind ?_ (fun _ => ?_))
      | exact ih0 _ _ _ _ _
      | exact ih1 _ _ _ _ _
      | exact LeO.none _
      | refine LeO.ite ?_ ?_
      | refine LeO.bind ?_ (fun _ => ?_)
set_option maxHeartbeats 8000000 in
set_option maxRecDepth 100000 in
theorem intrusionref06_Groups.calls (k : Nat) (a0_0 : Bool) (a0_1 : Int) (a0_2 : Int) (r : List Int) (w : World) (h : intrusionref06_Groups.f k a0_0 a0_1 a0_2 = some r) :
 Calls Tryd.prog 60 #[.agg #[.bool a0_0, .int .u64 a0_1, .int .u64 a0_2]] w fun e w' => ∃ v0_ : Value, e = .returned (v0_) ∧ Kd.R (Kd.int .i64) 3 w' w.heap.size (fun _ => True) v0_ r ∧ Below w.heap.size w w' := by
 have hu25 := Tryd.underlying25
 have HB := Aside0.mk (Below.refl w.heap.size w)
 unfold intrusionref06_Groups.f at h; have H := h
 clear h
 have H' := Aside0.mk H
 clear H
 go_enter Tryd.func60, Tryd.ntmps60
 go_wp2_with (first | ((with_reducible refine gate_dst (N := 1) rfl ?_); refine zx 1 #[.bool a0_0, .int .u64 a0_1, .int .u64 a0_2] 25 ?_; intro gb432 hg w2 hbox hb; have BK432 := Aside0.mk (hbox); have GW432 := Aside0.mk ((by rw [hg]; exact (below_size (zB HB)) : w.heap.size ≤ gb432)); have GE432 := Aside0.mk ((by rw [hg]; exact (below_size (zB HB)) : w.heap.size ≤ gb432)); replace HB := Aside0.mk (below_step (zB HB) hb); clear hb hbox hg))
 go_loopg [3, 4] k (fun kq v3 v4 w' => ∃ (x3_1 : List Int) (x4_1 : Int), v4 = .int .i64 x4_1 ∧ Aside0 (intrusionref06_Groups.l0 kq x3_1 x4_1 a0_0 a0_1 a0_2 = some r) ∧ Aside0 (kq ≤ k) ∧ Aside0 (Kd.R (Kd.int .i64) 3 w' w.heap.size (fun _ => True) v3 x3_1) ∧ Aside0 (w'.heap[gb432]? = some (.cells #[.bool a0_0, .int .u64 a0_1, .int .u64 a0_2] 25 (0, 0))) ∧ Aside0 (Below w.heap.size w w'))
 case atStart => exact ⟨(([] : List Int)), (3), (by first | rfl | (simp; done) | (simp [*]; done)), H', ⟨Nat.le_refl _⟩, ⟨by first | exact Kd.R_nil _ _ _ _ _ | exact Kd.N_nil _ _ _ _ _ | exact Kd.V_nil _ _ _ _ _ | exact Kd.Q_nil _ _ _ _ _ | exact Kd.S_nil _ _ _ _ _⟩, ⟨zK BK432⟩, ⟨zB HB⟩⟩
 case round =>
  clear H'
  try clear p2
  obtain ⟨x3_1, x4_1, rfl, HA, HK1, HO_3, BK432, HB⟩ := hrel
  cases gk with
  | zero => exact absurd HA.out (by simp [intrusionref06_Groups.l0])
  | succ k1 =>
   have H := HA.out
   clear HA
   simp only [intrusionref06_Groups.l0] at H
   by_cases c3 : x4_1 ≥ 0
   · rw [if_pos c3] at H
     have c3b0 : decide (0 ≤ x4_1) = true := decide_eq_true c3
     clear c3
     obtain ⟨ji4, hji4⟩ : ∃ j_ : Int, (IntKind.u64.wrap (wrap64 (16 * x4_1))) = j_ := ⟨_, rfl⟩
     replace H : (if 0 ≤ (ji4) then (if x3_1.length < 17592186044416 then (intrusionref06_Groups.l0 k1 (x3_1 ++ [wrap64 (Go.bits .and .u64 (shr .u64 a0_1 (ji4)) 65535)]) (wrap64 (x4_1 - 1)) a0_0 a0_1 a0_2) else (none)) else (none)) = some r := by first | (rw [hji4] at H; exact H) | (simp only [hji4] at H ⊢; exact H)
     by_cases c5 : 0 ≤ (ji4)
     · rw [if_pos c5] at H
       have c5b0 := eq_true c5
       have c5b1 : decide (0 ≤ (ji4)) = true := decide_eq_true c5
       clear c5
       obtain ⟨ji6, hji6⟩ : ∃ j_ : Int, (shr .u64 a0_1 (ji4)) = j_ := ⟨_, rfl⟩
       replace H : (if x3_1.length < 17592186044416 then (intrusionref06_Groups.l0 k1 (x3_1 ++ [wrap64 (Go.bits .and .u64 (ji6) 65535)]) (wrap64 (x4_1 - 1)) a0_0 a0_1 a0_2) else (none)) = some r := by first | (rw [hji6] at H; exact H) | (simp only [hji6] at H ⊢; exact H)
       have hji6_ : (a0_1 / 2 ^ min (ji4).toNat 64) = ji6 := hji6
       have hji6z : (ji4) ≤ 64 → (a0_1 / 2 ^ (ji4).toNat) = ji6 := shr_small hji6
       by_cases c7 : x3_1.length < 17592186044416
       · rw [if_pos c7] at H
         have LMc7 := Aside0.mk c7
         clear c7
         obtain ⟨y433, hy433⟩ : ∃ y_ : List Int, y_ = (x3_1 ++ [wrap64 (Go.bits .and .u64 (ji6) 65535)]) := ⟨_, rfl⟩
         rw [← hy433] at H; try dsimp only [Option.bind_some] at H
         have Ny433 := Aside0.mk hy433
         clear hy433
         have H' := Aside0.mk H
         clear H
         obtain ⟨hcz8_0, hcz8_1, hcz8_2⟩ := zc3 BK432
         obtain ⟨hfz8_0, hfz8_1, hfz8_2⟩ := zf3 BK432
         go_wp2_with (first | ((with_reducible refine gate_builtin (b := .append) (xs := #[.tmp 10, .tmp 19]) rfl ?_); at_builtin; refine Kd.R_append (Kd.int .i64) (w0 := w) w.heap.size rfl (.tmp 10) (.tmp 19) 72 3 (.int .i64 0) 8 rfl Tryd.underlying72 info3 rfl (by decide) (by omega) u3 x3_1 (wrap64 (Go.bits .and .u64 (ji6) 65535)) [.int .i64 (wrap64 (Go.bits .and .u64 (ji6) 65535))] (fun _ => True) (fun _ => False) rfl rfl ?aP (fun _ hk => hk.elim) ?aF ?aO ?aB ?aS ?aL ?_; (case aP => exact rfl); (case aB => exact (zB HB)); (case aF => exact (fun _ _ => trivial)); (case aO => exact (zR HO_3)); (case aS => exact (below_size (zB HB))); (case aL => have := LMc7.out; omega); intro v434 w9 ho hb hg hat; rw [← Ny433.out] at ho; replace BK432 := Aside0.mk (blk_grown (g := gb432) (o := .cells #[.bool a0_0, .int .u64 a0_1, .int .u64 a0_2] 25 (0, 0)) (zK BK432) hg (Kd.R_ne HO_3.out BK432.out (by decide))); replace HB := Aside0.mk (hb); have HO435 := Aside0.mk (ho); clear HO_3; clear ho hb hg hat))
         go_roundg k1
         case measure => have := HK1.out; omega
         case rel => exact ⟨(y433), (wrap64 (x4_1 - 1)), (by first | rfl | (simp; done) | (simp [*]; done)), H', ⟨by have := HK1.out; omega⟩, ⟨zR HO435⟩, ⟨zK BK432⟩, ⟨zB HB⟩⟩
       · rw [if_neg c7] at H
         exact absurd H (by simp)
     · rw [if_neg c5] at H
       exact absurd H (by simp)
   · rw [if_neg c3] at H
     have c3b0 : decide (0 ≤ x4_1) = false := decide_eq_false c3
     clear c3
     have H' := Aside0.mk H
     clear H
     go_wp2
     go_loopg [3, 5] k1 (fun kq v3 v5 w' => ∃ (x3_2 : List Int) (x5_2 : Int), v5 = .int .i64 x5_2 ∧ Aside0 (intrusionref06_Groups.l1 kq x3_2 x5_2 a0_0 a0_1 a0_2 = some r) ∧ Aside0 (kq ≤ k1) ∧ Aside0 (Kd.R (Kd.int .i64) 3 w' w.heap.size (fun _ => True) v3 x3_2) ∧ Aside0 (w'.heap[gb432]? = some (.cells #[.bool a0_0, .int .u64 a0_1, .int .u64 a0_2] 25 (0, 0))) ∧ Aside0 (Below w.heap.size w w'))
     case atStart => exact ⟨(x3_1), (3), (by first | rfl | (simp; done) | (simp [*]; done)), H', ⟨Nat.le_refl _⟩, ⟨zR HO_3⟩, ⟨zK BK432⟩, ⟨zB HB⟩⟩
     case round =>
      clear H'
      try clear p2
      try clear c3
      try clear c3b0
      try clear c5
      try clear c5b0
      try clear c5b1
      try clear c6
      try clear p6
      try clear c7
      try clear hcz8_0
      try clear hcz8_1
      try clear hcz8_2
      try clear hfz8_0
      try clear hfz8_1
      try clear hfz8_2
      try clear p2
      obtain ⟨x3_2, x5_2, rfl, HA, HK2, HO_3, BK432, HB⟩ := hrel
      cases gk with
      | zero => exact absurd HA.out (by simp [intrusionref06_Groups.l1])
      | succ k2 =>
       have H := HA.out
       clear HA
       simp only [intrusionref06_Groups.l1] at H
       by_cases c10 : x5_2 ≥ 0
       · rw [if_pos c10] at H
         have c10b0 : decide (0 ≤ x5_2) = true := decide_eq_true c10
         clear c10
         obtain ⟨ji11, hji11⟩ : ∃ j_ : Int, (IntKind.u64.wrap (wrap64 (16 * x5_2))) = j_ := ⟨_, rfl⟩
         replace H : (if 0 ≤ (ji11) then (if x3_2.length < 17592186044416 then (intrusionref06_Groups.l1 k2 (x3_2 ++ [wrap64 (Go.bits .and .u64 (shr .u64 a0_2 (ji11)) 65535)]) (wrap64 (x5_2 - 1)) a0_0 a0_1 a0_2) else (none)) else (none)) = some r := by first | (rw [hji11] at H; exact H) | (simp only [hji11] at H ⊢; exact H)
         by_cases c12 : 0 ≤ (ji11)
         · rw [if_pos c12] at H
           have c12b0 := eq_true c12
           have c12b1 : decide (0 ≤ (ji11)) = true := decide_eq_true c12
           clear c12
           obtain ⟨ji13, hji13⟩ : ∃ j_ : Int, (shr .u64 a0_2 (ji11)) = j_ := ⟨_, rfl⟩
           replace H : (if x3_2.length < 17592186044416 then (intrusionref06_Groups.l1 k2 (x3_2 ++ [wrap64 (Go.bits .and .u64 (ji13) 65535)]) (wrap64 (x5_2 - 1)) a0_0 a0_1 a0_2) else (none)) = some r := by first | (rw [hji13] at H; exact H) | (simp only [hji13] at H ⊢; exact H)
           have hji13_ : (a0_2 / 2 ^ min (ji11).toNat 64) = ji13 := hji13
           have hji13z : (ji11) ≤ 64 → (a0_2 / 2 ^ (ji11).toNat) = ji13 := shr_small hji13
           by_cases c14 : x3_2.length < 17592186044416
           · rw [if_pos c14] at H
             have LMc14 := Aside0.mk c14
             clear c14
             obtain ⟨y436, hy436⟩ : ∃ y_ : List Int, y_ = (x3_2 ++ [wrap64 (Go.bits .and .u64 (ji13) 65535)]) := ⟨_, rfl⟩
             rw [← hy436] at H; try dsimp only [Option.bind_some] at H
             have Ny436 := Aside0.mk hy436
             clear hy436
             have H' := Aside0.mk H
             clear H
             obtain ⟨hcz15_0, hcz15_1, hcz15_2⟩ := zc3 BK432
             obtain ⟨hfz15_0, hfz15_1, hfz15_2⟩ := zf3 BK432
             go_wp2_with (first | ((with_reducible refine gate_builtin (b := .append) (xs := #[.tmp 25, .tmp 34]) rfl ?_); at_builtin; refine Kd.R_append (Kd.int .i64) (w0 := w) w.heap.size rfl (.tmp 25) (.tmp 34) 72 3 (.int .i64 0) 8 rfl Tryd.underlying72 info3 rfl (by decide) (by omega) u3 x3_2 (wrap64 (Go.bits .and .u64 (ji13) 65535)) [.int .i64 (wrap64 (Go.bits .and .u64 (ji13) 65535))] (fun _ => True) (fun _ => False) rfl rfl ?aP (fun _ hk => hk.elim) ?aF ?aO ?aB ?aS ?aL ?_; (case aP => exact rfl); (case aB => exact (zB HB)); (case aF => exact (fun _ _ => trivial)); (case aO => exact (zR HO_3)); (case aS => exact (below_size (zB HB))); (case aL => have := LMc14.out; omega); intro v437 w16 ho hb hg hat; rw [← Ny436.out] at ho; replace BK432 := Aside0.mk (blk_grown (g := gb432) (o := .cells #[.bool a0_0, .int .u64 a0_1, .int .u64 a0_2] 25 (0, 0)) (zK BK432) hg (Kd.R_ne HO_3.out BK432.out (by decide))); replace HB := Aside0.mk (hb); have HO438 := Aside0.mk (ho); clear HO_3; clear ho hb hg hat))
             go_roundg k2
             case measure => have := HK1.out; have := HK2.out; omega
             case rel => exact ⟨(y436), (wrap64 (x5_2 - 1)), (by first | rfl | (simp; done) | (simp [*]; done)), H', ⟨by have := HK1.out; have := HK2.out; omega⟩, ⟨zR HO438⟩, ⟨zK BK432⟩, ⟨zB HB⟩⟩
           · rw [if_neg c14] at H
             exact absurd H (by simp)
         · rw [if_neg c12] at H
           exact absurd H (by simp)
       · rw [if_neg c10] at H
         have c10b0 : decide (0 ≤ x5_2) = false := decide_eq_false c10
         clear c10
         obtain rfl := Option.some.inj H
         go_wp2
         go_ret
         exact ⟨_, by first | rfl | (simp [errW_none, errW_some] <;> rfl) | (simp [*, errW_none, errW_some] <;> rfl), by (with_reducible repeat (first | apply Kd.R_alloc | apply Kd.R_drewN | apply Kd.R_drew)); exact HO_3.out, by repeat (first | (with_reducible first | exact HB.out | apply below_alloc | apply pw_below_drewN | apply below_drew1 | refine below_set ?_ GE432.out) | exact HB.out)⟩
end Go.Proofs.YtlgfinnldhjgeaaDoor.Q
end

section
namespace Go.Proofs.YtlgfinnldhjgeaaDoor.Q
open Go.RowKit Go.Proofs.YtlgfinnldhjgeaaDoorW.PrintWords Go.Proofs.YtlgfinnldhjgeaaDoorW.PrintLast Go.Proofs.YtlgfinnldhjgeaaDoorW.PrintMore
attribute [local go_sem] max2_int min2_int max_two min_two max_three min_three max_four min_four
set_option linter.unusedVariables false
set_option linter.unusedSimpArgs false
def intrusionref06_run.l0 : Nat → List Int → Int → Int → Option (Int)
  | 0, _, _, _ => none
  | k + 1, x0, x1, x5 => if (wrap64 (x1 + x5)) < (x0.length : Int) then (if 0 ≤ (wrap64 (x1 + x5)) then (if (rd x0 (wrap64 (x1 + x5))) = 0 then (intrusionref06_run.l0 k x0 x1 (wrap64 (x5 + 1))) else (some x5)) else (none)) else (some x5)
def intrusionref06_run.f (k : Nat) (l0 : List Int) (a1 : Int) : Option (Int) := intrusionref06_run.l0 k l0 a1 0
theorem intrusionref06_run.mono_l : ∀ k, (∀ y0 y1 y2, LeO (intrusionref06_run.l0 k y0 y1 y2) (intrusionref06_run.l0 (k + 1) y0 y1 y2))
  | 0 => fun _ _ _ r h => by simp [intrusionref06_run.l0] at h
  | k + 1 => by
    have ih0 := intrusionref06_run.mono_l k
    · intro y0 y1 y2
      unfold intrusionref06_run.l0
      repeat' first
      | (with_reducible exact ih0 _ _ _)
      | (with_reducible exact LeO.refl _)
      | (with_reducible exact LeO.none _)
      | (with_reducible refine LeO.ite ?_ ?_)
      | (with_reducible refine LeO.bind ?_ (fun _ => ?_))
      | exact ih0 _ _ _
      | exact LeO.none _
      | refine LeO.ite ?_ ?_
      | refine LeO.bind ?_ (fun _ => ?_)
theorem intrusionref06_run.mono : ∀ a0 a1 k, LeO (intrusionref06_run.f k a0 a1) (intrusionref06_run.f (k + 1) a0 a1) := by
  intro a0 a1 k
  have ih0 := intrusionref06_run.mono_l k
  unfold intrusionref06_run.f
  repeat' first
      | (with_reducible exact ih0 _ _ _)
      | (with_reducible exact LeO.refl _)
      | (with_reducible exact LeO.none _)
      | (with_reducible refine LeO.ite ?_ ?_)
      | (with_reducible refine LeO.bind ?_ (fun _ => ?_))
      | exact ih0 _ _ _
      | exact LeO.none _
      | refine LeO.ite ?_ ?_
      | refine LeO.bind ?_ (fun _ => ?_)
set_option maxHeartbeats 8000000 in
set_option maxRecDepth 100000 in
theorem intrusionref06_run.calls (k : Nat) (A0 : Option Addr) (c0 : Nat) (l0 : List Int) (a1 : Int) (r : Int) (w : World) (hr0 : Kd.C (Kd.int .i64) w A0 l0.length l0) (hc0 : l0.length ≤ c0) (h : intrusionref06_run.f k l0 a1 = some r) :
 Calls Tryd.prog 61 #[.slice A0 l0.length c0, .int .i64 a1] w fun e w' => e = .returned (.int .i64 r) ∧ Drawn0 w w' := by
 have HR0 := Aside0.mk hr0
 have HC0 := Aside0.mk hc0
 clear hr0 hc0
 unfold intrusionref06_run.f at h; have H := h
 clear h
 have H' := Aside0.mk H
 clear H
 go_enter Tryd.func61, Tryd.ntmps61
 go_wp2
 go_loopg [5] k (fun kq v5 w' => ∃ (x5_1 : Int), v5 = .int .i64 x5_1 ∧ Aside0 (intrusionref06_run.l0 kq l0 a1 x5_1 = some r) ∧ Aside0 (kq ≤ k) ∧ Drawn0 w w')
 case atStart => exact ⟨(0), (by first | rfl | (simp; done) | (simp [*]; done)), H', ⟨Nat.le_refl _⟩, by repeat (first | exact Drawn0.refl _ | apply Drawn0.step)⟩
 case round =>
  clear H'
  try clear p2
  obtain ⟨x5_1, rfl, HA, HK1, ⟨m1, rfl⟩⟩ := hrel
  cases gk with
  | zero => exact absurd HA.out (by simp [intrusionref06_run.l0])
  | succ k1 =>
   have H := HA.out
   clear HA
   simp only [intrusionref06_run.l0] at H
   by_cases c3 : (wrap64 (a1 + x5_1)) < (l0.length : Int)
   · rw [if_pos c3] at H
     have c3b0 : decide ((wrap64 (a1 + x5_1)) < (l0.length : Int)) = true := decide_eq_true c3
     clear c3
     obtain ⟨ji4, hji4⟩ : ∃ j_ : Int, (wrap64 (a1 + x5_1)) = j_ := ⟨_, rfl⟩
     replace H : (if 0 ≤ (ji4) then (if (rd l0 (ji4)) = 0 then (intrusionref06_run.l0 k1 l0 a1 (wrap64 (x5_1 + 1))) else (some x5_1)) else (none)) = some r := by first | (rw [hji4] at H; exact H) | (simp only [hji4] at H ⊢; exact H)
     (try rw [hji4] at c3b0)
     have hji4w : (IntKind.i64.wrap (a1 + x5_1)) = ji4 := (i64_w _).trans hji4
     by_cases c5 : 0 ≤ (ji4)
     · rw [if_pos c5] at H
       have c5b0 : decide (0 ≤ (ji4)) = true := decide_eq_true c5
       clear c5
       by_cases c6 : (rd l0 (ji4)) = 0
       · rw [if_pos c6] at H
         have c6b0 : ((rd l0 (ji4)) == 0) = true := beq_iff_eq.mpr c6
         have c6b1 : ((rd l0 (ji4)) != 0) = false := bne_eq_false_iff_eq.mpr c6
         clear c6
         have H' := Aside0.mk H
         clear H
         have p439 : 0 ≤ ((ji4) : Int) := za
         have q439 : (ji4) < (l0.length : Int) := za
         obtain ⟨ad439, e439, hx439_0⟩ := Kd.at_int HR0.out (ji4) p439 q439
         cases e439
         replace p439 := eq_true p439
         replace q439 := eq_true q439
         go_wp2
         go_roundg k1
         case measure => have := HK1.out; omega
         case rel => exact ⟨(wrap64 (x5_1 + 1)), (by first | rfl | (simp; done) | (simp [*]; done)), H', ⟨by have := HK1.out; omega⟩, by repeat (first | exact Drawn0.refl _ | apply Drawn0.step)⟩
       · rw [if_neg c6] at H
         have c6b0 : ((rd l0 (ji4)) == 0) = false := beq_eq_false_iff_ne.mpr c6
         have c6b1 : ((rd l0 (ji4)) != 0) = true := bne_iff_ne.mpr c6
         obtain rfl := Option.some.inj H
         have p439 : 0 ≤ ((ji4) : Int) := za
         have q439 : (ji4) < (l0.length : Int) := za
         obtain ⟨ad439, e439, hx439_0⟩ := Kd.at_int HR0.out (ji4) p439 q439
         cases e439
         replace p439 := eq_true p439
         replace q439 := eq_true q439
         go_wp2
         go_ret
         exact ⟨by first | rfl | (simp; done) | (simp only [← hji4] <;> (first | rfl | simp)) | (simp [*]; done), by repeat (first | exact Drawn0.refl _ | apply Drawn0.step)⟩
     · rw [if_neg c5] at H
       exact absurd H (by simp)
   · rw [if_neg c3] at H
     have c3b0 : decide ((wrap64 (a1 + x5_1)) < (l0.length : Int)) = false := decide_eq_false c3
     clear c3
     obtain rfl := Option.some.inj H
     go_wp2
     go_ret
     exact ⟨by first | rfl | (simp; done) | (simp [*]; done), by repeat (first | exact Drawn0.refl _ | apply Drawn0.step)⟩
end Go.Proofs.YtlgfinnldhjgeaaDoor.Q
end

section
namespace Go.Proofs.YtlgfinnldhjgeaaDoor.Q
open Go.RowKit Go.Proofs.YtlgfinnldhjgeaaDoorW.PrintWords Go.Proofs.YtlgfinnldhjgeaaDoorW.PrintLast Go.Proofs.YtlgfinnldhjgeaaDoorW.PrintMore
attribute [local go_sem] max2_int min2_int max_two min_two max_three min_three max_four min_four
set_option linter.unusedVariables false
set_option linter.unusedSimpArgs false
def intrusionref06_hex.l0 : Nat → Int → ByteArray → Option (ByteArray)
  | 0, _, _ => none
  | k + 1, x0, x3 => if x0 > 15 then (if 0 ≤ (Int.tmod x0 16) then (if (Int.tmod x0 16) ≤ (wrap64 ((Int.tmod x0 16) + 1)) then (if (wrap64 ((Int.tmod x0 16) + 1)) ≤ 16 then (if ((⟨#[48, 49, 50, 51, 52, 53, 54, 55, 56, 57, 97, 98, 99, 100, 101, 102]⟩ : ByteArray).extract ((Int.tmod x0 16) : Int).toNat ((wrap64 ((Int.tmod x0 16) + 1)) : Int).toNat).size + x3.size ≤ 9223372036854775807 then (intrusionref06_hex.l0 k (wrap64 (Int.tdiv x0 16)) (((⟨#[48, 49, 50, 51, 52, 53, 54, 55, 56, 57, 97, 98, 99, 100, 101, 102]⟩ : ByteArray).extract ((Int.tmod x0 16) : Int).toNat ((wrap64 ((Int.tmod x0 16) + 1)) : Int).toNat) ++ x3)) else (none)) else (none)) else (none)) else (none)) else (if 0 ≤ x0 then (if x0 ≤ (wrap64 (x0 + 1)) then (if (wrap64 (x0 + 1)) ≤ 16 then (if ((⟨#[48, 49, 50, 51, 52, 53, 54, 55, 56, 57, 97, 98, 99, 100, 101, 102]⟩ : ByteArray).extract (x0 : Int).toNat ((wrap64 (x0 + 1)) : Int).toNat).size + x3.size ≤ 9223372036854775807 then (some (((⟨#[48, 49, 50, 51, 52, 53, 54, 55, 56, 57, 97, 98, 99, 100, 101, 102]⟩ : ByteArray).extract (x0 : Int).toNat ((wrap64 (x0 + 1)) : Int).toNat) ++ x3)) else (none)) else (none)) else (none)) else (none))
def intrusionref06_hex.f (k : Nat) (a0 : Int) : Option (ByteArray) := intrusionref06_hex.l0 k a0 (⟨#[]⟩ : ByteArray)
theorem intrusionref06_hex.mono_l : ∀ k, (∀ y0 y1, LeO (intrusionref06_hex.l0 k y0 y1) (intrusionref06_hex.l0 (k + 1) y0 y1))
  | 0 => fun _ _ r h => by simp [intrusionref06_hex.l0] at h
  | k + 1 => by
    have ih0 := intrusionref06_hex.mono_l k
    · intro y0 y1
      unfold intrusionref06_hex.l0
      repeat' first
      | (with_reducible exact ih0 _ _)
      | (with_reducible exact LeO.refl _)
      | (with_reducible exact LeO.none _)
      | (with_reducible refine LeO.ite ?_ ?_)
      | (with_reducible refine LeO.bind ?_ (fun _ => ?_))
      | exact ih0 _ _
      | exact LeO.none _
      | refine LeO.ite ?_ ?_
      | refine LeO.bind ?_ (fun _ => ?_)
theorem intrusionref06_hex.mono : ∀ a0 k, LeO (intrusionref06_hex.f k a0) (intrusionref06_hex.f (k + 1) a0) := by
  intro a0 k
  have ih0 := intrusionref06_hex.mono_l k
  unfold intrusionref06_hex.f
  repeat' first
      | (with_reducible exact ih0 _ _)
      | (with_reducible exact LeO.refl _)
      | (with_reducible exact LeO.none _)
      | (with_reducible refine LeO.ite ?_ ?_)
      | (with_reducible refine LeO.bind ?_ (fun _ => ?_))
      | exact ih0 _ _
      | exact LeO.none _
      | refine LeO.ite ?_ ?_
      | refine LeO.bind ?_ (fun _ => ?_)
set_option maxHeartbeats 8000000 in
set_option maxRecDepth 100000 in
theorem intrusionref06_hex.calls (k : Nat) (a0 : Int) (r : ByteArray) (w : World) (h : intrusionref06_hex.f k a0 = some r) :
 Calls Tryd.prog 62 #[.int .i64 a0] w fun e w' => e = .returned (.string r) ∧ Drawn0 w w' := by
 unfold intrusionref06_hex.f at h; have H := h
 clear h
 have H' := Aside0.mk H
 clear H
 go_enter Tryd.func62, Tryd.ntmps62
 go_wp2
 go_loopg [0, 3] k (fun kq v0 v3 w' => ∃ (x0_1 : Int) (x3_1 : ByteArray), v0 = .int .i64 x0_1 ∧ v3 = .string x3_1 ∧ Aside0 (intrusionref06_hex.l0 kq x0_1 x3_1 = some r) ∧ Aside0 (kq ≤ k) ∧ Drawn0 w w')
 case atStart => exact ⟨(a0), ((⟨#[]⟩ : ByteArray)), (by first | rfl | (simp; done) | (simp [*]; done)), (by first | rfl | (simp; done) | (simp [*]; done)), H', ⟨Nat.le_refl _⟩, by repeat (first | exact Drawn0.refl _ | apply Drawn0.step)⟩
 case round =>
  clear H'
  obtain ⟨x0_1, x3_1, rfl, rfl, HA, HK1, ⟨m1, rfl⟩⟩ := hrel
  cases gk with
  | zero => exact absurd HA.out (by simp [intrusionref06_hex.l0])
  | succ k1 =>
   have H := HA.out
   clear HA
   simp only [intrusionref06_hex.l0] at H
   by_cases c2 : x0_1 > 15
   · rw [if_pos c2] at H
     have c2b0 : decide (15 < x0_1) = true := decide_eq_true c2
     clear c2
     obtain ⟨ji3, hji3⟩ : ∃ j_ : Int, (Int.tmod x0_1 16) = j_ := ⟨_, rfl⟩
     replace H : (if 0 ≤ (ji3) then (if (ji3) ≤ (wrap64 ((ji3) + 1)) then (if (wrap64 ((ji3) + 1)) ≤ 16 then (if ((⟨#[48, 49, 50, 51, 52, 53, 54, 55, 56, 57, 97, 98, 99, 100, 101, 102]⟩ : ByteArray).extract ((ji3) : Int).toNat ((wrap64 ((ji3) + 1)) : Int).toNat).size + x3_1.size ≤ 9223372036854775807 then (intrusionref06_hex.l0 k1 (wrap64 (Int.tdiv x0_1 16)) (((⟨#[48, 49, 50, 51, 52, 53, 54, 55, 56, 57, 97, 98, 99, 100, 101, 102]⟩ : ByteArray).extract ((ji3) : Int).toNat ((wrap64 ((ji3) + 1)) : Int).toNat) ++ x3_1)) else (none)) else (none)) else (none)) else (none)) = some r := by first | (rw [hji3] at H; exact H) | (simp only [hji3] at H ⊢; exact H)
     by_cases c4 : 0 ≤ (ji3)
     · rw [if_pos c4] at H
       have c4b0 := eq_true c4
       have c4b1 : decide (0 ≤ (ji3)) = true := decide_eq_true c4
       clear c4
       by_cases c5 : (ji3) ≤ (wrap64 ((ji3) + 1))
       · rw [if_pos c5] at H
         have c5b0 := eq_true c5
         have c5b1 : decide ((ji3) ≤ (wrap64 ((ji3) + 1))) = true := decide_eq_true c5
         by_cases c6 : (wrap64 ((ji3) + 1)) ≤ 16
         · rw [if_pos c6] at H
           have c6b0 := eq_true c6
           have c6b1 : decide ((wrap64 ((ji3) + 1)) ≤ 16) = true := decide_eq_true c6
           by_cases c7 : ((⟨#[48, 49, 50, 51, 52, 53, 54, 55, 56, 57, 97, 98, 99, 100, 101, 102]⟩ : ByteArray).extract ((ji3) : Int).toNat ((wrap64 ((ji3) + 1)) : Int).toNat).size + x3_1.size ≤ 9223372036854775807
           · rw [if_pos c7] at H
             have c7b0 := eq_true c7
             have c7b1 : decide (((⟨#[48, 49, 50, 51, 52, 53, 54, 55, 56, 57, 97, 98, 99, 100, 101, 102]⟩ : ByteArray).extract ((ji3) : Int).toNat ((wrap64 ((ji3) + 1)) : Int).toNat).size + x3_1.size ≤ 9223372036854775807) = true := decide_eq_true c7
             try have c7b2 : (9223372036854775807 < ((⟨#[48, 49, 50, 51, 52, 53, 54, 55, 56, 57, 97, 98, 99, 100, 101, 102]⟩ : ByteArray).extract ((ji3) : Int).toNat ((wrap64 ((ji3) + 1)) : Int).toNat).size + x3_1.size) = False := eq_false (Nat.not_lt.2 c7)
             have H' := Aside0.mk H
             clear H
             go_wp2
             go_roundg k1
             case measure => have := HK1.out; omega
             case rel => exact ⟨(wrap64 (Int.tdiv x0_1 16)), (((⟨#[48, 49, 50, 51, 52, 53, 54, 55, 56, 57, 97, 98, 99, 100, 101, 102]⟩ : ByteArray).extract ((ji3) : Int).toNat ((wrap64 ((ji3) + 1)) : Int).toNat) ++ x3_1), (by first | rfl | (simp; done) | (simp [*]; done)), (by first | rfl | (simp; done) | (simp only [← hji3] <;> (first | rfl | simp)) | (simp [*]; done)), H', ⟨by have := HK1.out; omega⟩, by repeat (first | exact Drawn0.refl _ | apply Drawn0.step)⟩
           · rw [if_neg c7] at H
             exact absurd H (by simp)
         · rw [if_neg c6] at H
           exact absurd H (by simp)
       · rw [if_neg c5] at H
         exact absurd H (by simp)
     · rw [if_neg c4] at H
       exact absurd H (by simp)
   · rw [if_neg c2] at H
     have c2b0 : decide (15 < x0_1) = false := decide_eq_false c2
     clear c2
     by_cases c8 : 0 ≤ x0_1
     · rw [if_pos c8] at H
       have c8b0 := eq_true c8
       have c8b1 : decide (0 ≤ x0_1) = true := decide_eq_true c8
       clear c8
       by_cases c9 : x0_1 ≤ (wrap64 (x0_1 + 1))
       · rw [if_pos c9] at H
         have c9b0 := eq_true c9
         have c9b1 : decide (x0_1 ≤ (wrap64 (x0_1 + 1))) = true := decide_eq_true c9
         by_cases c10 : (wrap64 (x0_1 + 1)) ≤ 16
         · rw [if_pos c10] at H
           have c10b0 := eq_true c10
           have c10b1 : decide ((wrap64 (x0_1 + 1)) ≤ 16) = true := decide_eq_true c10
           by_cases c11 : ((⟨#[48, 49, 50, 51, 52, 53, 54, 55, 56, 57, 97, 98, 99, 100, 101, 102]⟩ : ByteArray).extract (x0_1 : Int).toNat ((wrap64 (x0_1 + 1)) : Int).toNat).size + x3_1.size ≤ 9223372036854775807
           · rw [if_pos c11] at H
             have c11b0 := eq_true c11
             have c11b1 : decide (((⟨#[48, 49, 50, 51, 52, 53, 54, 55, 56, 57, 97, 98, 99, 100, 101, 102]⟩ : ByteArray).extract (x0_1 : Int).toNat ((wrap64 (x0_1 + 1)) : Int).toNat).size + x3_1.size ≤ 9223372036854775807) = true := decide_eq_true c11
             try have c11b2 : (9223372036854775807 < ((⟨#[48, 49, 50, 51, 52, 53, 54, 55, 56, 57, 97, 98, 99, 100, 101, 102]⟩ : ByteArray).extract (x0_1 : Int).toNat ((wrap64 (x0_1 + 1)) : Int).toNat).size + x3_1.size) = False := eq_false (Nat.not_lt.2 c11)
             obtain rfl := Option.some.inj H
             go_wp2
             go_ret
             exact ⟨by first | rfl | (simp; done) | (simp [*]; done), by repeat (first | exact Drawn0.refl _ | apply Drawn0.step)⟩
           · rw [if_neg c11] at H
             exact absurd H (by simp)
         · rw [if_neg c10] at H
           exact absurd H (by simp)
       · rw [if_neg c9] at H
         exact absurd H (by simp)
     · rw [if_neg c8] at H
       exact absurd H (by simp)
end Go.Proofs.YtlgfinnldhjgeaaDoor.Q
end

section
namespace Go.Proofs.YtlgfinnldhjgeaaDoor.Q
open Go.RowKit Go.Proofs.YtlgfinnldhjgeaaDoorW.PrintWords Go.Proofs.YtlgfinnldhjgeaaDoorW.PrintLast Go.Proofs.YtlgfinnldhjgeaaDoorW.PrintMore
attribute [local go_sem] max2_int min2_int max_two min_two max_three min_three max_four min_four
set_option linter.unusedVariables false
set_option linter.unusedSimpArgs false
mutual
def intrusionref06_Format.l0 : Nat → List Int → Int → Int → Int → Option (ByteArray)
  | 0, _, _, _, _ => none
  | k + 1, x3, x4, x5, x6 => if x6 < 8 then ((intrusionref06_run.f k x3 x6).bind fun t448 => (if t448 > x5 then ((intrusionref06_run.f k x3 x6).bind fun t449 => (intrusionref06_Format.l0 k x3 x6 t449 (wrap64 (x6 + 1)))) else (intrusionref06_Format.l0 k x3 x4 x5 (wrap64 (x6 + 1))))) else (intrusionref06_Format.l1 k x3 x4 x5 (⟨#[]⟩ : ByteArray) 0)
def intrusionref06_Format.l1 : Nat → List Int → Int → Int → ByteArray → Int → Option (ByteArray)
  | 0, _, _, _, _, _ => none
  | k + 1, x3, x4, x5, x7, x8 => if x8 < 8 then (if x8 = x4 then (if x7.size + 2 ≤ 9223372036854775807 then (intrusionref06_Format.l1 k x3 x4 x5 (x7 ++ (⟨#[58, 58]⟩ : ByteArray)) (wrap64 ((wrap64 (x8 + (wrap64 (x5 - 1)))) + 1))) else (none)) else (if x7.toList = ([] : List UInt8) then (if 0 ≤ x8 then (if x8 < (x3.length : Int) then ((intrusionref06_hex.f k (rd x3 x8)).bind fun t451 => (if x7.size + t451.size ≤ 9223372036854775807 then (intrusionref06_Format.l1 k x3 x4 x5 (x7 ++ t451) (wrap64 (x8 + 1))) else (none))) else (none)) else (none)) else (if 0 ≤ (wrap64 ((x7.size : Int) - 1)) then (if (wrap64 ((x7.size : Int) - 1)) < (x7.size : Int) then (if (bt x7 (wrap64 ((x7.size : Int) - 1))) = 58 then (if 0 ≤ x8 then (if x8 < (x3.length : Int) then ((intrusionref06_hex.f k (rd x3 x8)).bind fun t453 => (if x7.size + t453.size ≤ 9223372036854775807 then (intrusionref06_Format.l1 k x3 x4 x5 (x7 ++ t453) (wrap64 (x8 + 1))) else (none))) else (none)) else (none)) else (if x7.size + 1 ≤ 9223372036854775807 then (if 0 ≤ x8 then (if x8 < (x3.length : Int) then ((intrusionref06_hex.f k (rd x3 x8)).bind fun t455 => (if (x7 ++ (⟨#[58]⟩ : ByteArray)).size + t455.size ≤ 9223372036854775807 then (intrusionref06_Format.l1 k x3 x4 x5 ((x7 ++ (⟨#[58]⟩ : ByteArray)) ++ t455) (wrap64 (x8 + 1))) else (none))) else (none)) else (none)) else (none))) else (none)) else (none)))) else (some x7)
end
def intrusionref06_Format.f (k : Nat) (a0_0 : Bool) (a0_1 : Int) (a0_2 : Int) : Option (ByteArray) := if a0_0 = true then ((intrusionref06_Groups.f k a0_0 a0_1 a0_2).bind fun t445 => (intrusionref06_Format.l0 k t445 (-1) 1 0)) else ((intrusionref06_Number.f k (wrap64 (Go.bits .and .u64 (a0_2 / 16777216) 255))).bind fun t441 => (if t441.size + 1 ≤ 9223372036854775807 then ((intrusionref06_Number.f k (wrap64 (Go.bits .and .u64 (a0_2 / 65536) 255))).bind fun t442 => (if (t441 ++ (⟨#[46]⟩ : ByteArray)).size + t442.size ≤ 9223372036854775807 then (if ((t441 ++ (⟨#[46]⟩ : ByteArray)) ++ t442).size + 1 ≤ 9223372036854775807 then ((intrusionref06_Number.f k (wrap64 (Go.bits .and .u64 (a0_2 / 256) 255))).bind fun t443 => (if (((t441 ++ (⟨#[46]⟩ : ByteArray)) ++ t442) ++ (⟨#[46]⟩ : ByteArray)).size + t443.size ≤ 9223372036854775807 then (if ((((t441 ++ (⟨#[46]⟩ : ByteArray)) ++ t442) ++ (⟨#[46]⟩ : ByteArray)) ++ t443).size + 1 ≤ 9223372036854775807 then ((intrusionref06_Number.f k (wrap64 (Go.bits .and .u64 a0_2 255))).bind fun t444 => (if (((((t441 ++ (⟨#[46]⟩ : ByteArray)) ++ t442) ++ (⟨#[46]⟩ : ByteArray)) ++ t443) ++ (⟨#[46]⟩ : ByteArray)).size + t444.size ≤ 9223372036854775807 then (some ((((((t441 ++ (⟨#[46]⟩ : ByteArray)) ++ t442) ++ (⟨#[46]⟩ : ByteArray)) ++ t443) ++ (⟨#[46]⟩ : ByteArray)) ++ t444)) else (none))) else (none)) else (none))) else (none)) else (none))) else (none)))
theorem intrusionref06_Format.mono_l : ∀ k, (∀ y0 y1 y2 y3, LeO (intrusionref06_Format.l0 k y0 y1 y2 y3) (intrusionref06_Format.l0 (k + 1) y0 y1 y2 y3)) ∧ (∀ y0 y1 y2 y3 y4, LeO (intrusionref06_Format.l1 k y0 y1 y2 y3 y4) (intrusionref06_Format.l1 (k + 1) y0 y1 y2 y3 y4))
  | 0 => ⟨fun _ _ _ _ r h => by simp [intrusionref06_Format.l0] at h, fun _ _ _ _ _ r h => by simp [intrusionref06_Format.l1] at h⟩
  | k + 1 => by
    obtain ⟨ih0, ih1⟩ := intrusionref06_Format.mono_l k
    refine ⟨?_, ?_⟩
    · intro y0 y1 y2 y3
      unfold intrusionref06_Format.l0
      repeat' first
      | (with_reducible exact ih0 _ _ _ _)
      | (with_reducible exact ih1 _ _ _ _ _)
      | (with_reducible exact intrusionref06_Groups.mono _ _ _ _)
      | (with_reducible exact intrusionref06_Number.mono _ _)
      | (with_reducible exact intrusionref06_hex.mono _ _)
      | (with_reducible exact intrusionref06_run.mono _ _ _)
      | (with_reducible exact LeO.refl _)
      | (with_reducible exact LeO.none _)
      | (with_reducible refine LeO.ite ?_ ?_)
      | (with_reducible refine LeO.bind ?_ (fun _ => ?_))
      | exact ih0 _ _ _ _
      | exact ih1 _ _ _ _ _
      | exact intrusionref06_Groups.mono _ _ _ _
      | exact intrusionref06_Number.mono _ _
      | exact intrusionref06_hex.mono _ _
      | exact intrusionref06_run.mono _ _ _
      | exact LeO.none _
      | refine LeO.ite ?_ ?_
      | refine LeO.bind ?_ (fun _ => ?_)
    · intro y0 y1 y2 y3 y4
      unfold intrusionref06_Format.l1
      repeat' first
      | (with_reducible exact ih0 _ _ _ _)
      | (with_reducible exact ih1 _ _ _ _ _)
      | (with_reducible exact intrusionref06_Groups.mono _ _ _ _)
      | (with_reducible exact intrusionref06_Number.mono _ _)
      | (with_reducible exact intrusionref06_hex.mono _ _)
      | (with_reducible exact intrusionref06_run.mono _ _ _)
      | (with_reducible exact LeO.refl _)
      | (with_reducible exact LeO.none _)
      | (with_reducible refine LeO.ite ?_ ?_)
      | (with_reducible refine LeO.bind ?_ (fun _ => ?_))
      | exact ih0 _ _ _ _
      | exact ih1 _ _ _ _ _
      | exact intrusionref06_Groups.mono _ _ _ _
      | exact intrusionref06_Number.mono _ _
      | exact intrusionref06_hex.mono _ _
      | exact intrusionref06_run.mono _ _ _
      | exact LeO.none _
      | refine LeO.ite ?_ ?_
      | refine LeO.bind ?_ (fun _ => ?_)
theorem intrusionref06_Format.mono : ∀ a0 a1 a2 k, LeO (intrusionref06_Format.f k a0 a1 a2) (intrusionref06_Format.f (k + 1) a0 a1 a2) := by
  intro a0 a1 a2 k
  obtain ⟨ih0, ih1⟩ := intrusionref06_Format.mono_l k
  unfold intrusionref06_Format.f
  repeat' first
      | (with_reducible exact ih0 _ _ _ _)
      | (with_reducible exact ih1 _ _ _ _ _)
      | (with_reducible exact intrusionref06_Groups.mono _ _ _ _)
      | (with_reducible exact intrusionref06_Number.mono _ _)
      | (with_reducible exact intrusionref06_hex.mono _ _)
      | (with_reducible exact intrusionref06_run.mono _ _ _)
      | (with_reducible exact LeO.refl _)
      | (with_reducible exact LeO.none _)
      | (with_reducible refine LeO.ite ?_ ?_)
      | (with_reducible refine LeO.bind ?_ (fun _ => ?_))
      | exact ih0 _ _ _ _
      | exact ih1 _ _ _ _ _
      | exact intrusionref06_Groups.mono _ _ _ _
      | exact intrusionref06_Number.mono _ _
      | exact intrusionref06_hex.mono _ _
      | exact intrusionref06_run.mono _ _ _
      | exact LeO.none _
      | refine LeO.ite ?_ ?_
      | refine LeO.bind ?_ (fun _ => ?_)
def intrusionref06_Format.T2 : Bool × List (List Nat × List Nat) := (true, [([], []), ([0], [0]), ([1], [1]), ([2], [2]), ([3], [3]), ([4], [4]), ([5], [5]), ([], []), ([7], [7]), ([8], [8]), ([9], [9]), ([10], [10]), ([11, 5], [11]), ([6, 12], [6, 12]), ([13], [13]), ([], []), ([15], [15]), ([16], [16]), ([17], [17]), ([18], [18]), ([19, 12], [19]), ([14, 20], [14, 20]), ([21], [21]), ([], []), ([23], [23]), ([24], [24]), ([25], [25]), ([26, 20], [26]), ([22, 27], [22, 27]), ([28, 27, 0, 1, 2, 3, 4, 5, 6, 7, 8, 9, 10, 11, 12, 13, 14, 15, 16, 17, 18, 19, 20, 21, 22, 23, 24, 25, 26, 27, 28], [28])])
def intrusionref06_Format.B2 : List Nat := [0, 1, 3, 7, 15, 31, 63, 0, 128, 384, 896, 1920, 4031, 8191, 16383, 0, 32768, 98304, 229376, 491520, 1023935, 2097151, 4194303, 0, 8388608, 25165824, 58720256, 127901631, 268435455, 536870911]
theorem intrusionref06_Format.tab2 : rtab .any (opsOf Tryd.f34 2) = intrusionref06_Format.T2 := by kernel_rfl
theorem intrusionref06_Format.bits2 : waitsOk intrusionref06_Format.T2.2 intrusionref06_Format.B2 = true := by kernel_rfl
set_option maxHeartbeats 8000000 in
set_option maxRecDepth 100000 in
theorem intrusionref06_Format.calls (k : Nat) (a0_0 : Bool) (a0_1 : Int) (a0_2 : Int) (r : ByteArray) (w : World) (h : intrusionref06_Format.f k a0_0 a0_1 a0_2 = some r) :
 Calls Tryd.prog 34 #[.agg #[.bool a0_0, .int .u64 a0_1, .int .u64 a0_2]] w fun e w' => e = .returned (.string r) ∧ Below w.heap.size w w' := by
 have hu25 := Tryd.underlying25
 have HB := Aside0.mk (Below.refl w.heap.size w)
 unfold intrusionref06_Format.f at h; have H := h
 clear h
 by_cases c2 : a0_0 = true
 · subst c2
   rw [if_pos rfl] at H
   replace H := Option.bind_eq_some_iff.mp H
   obtain ⟨t445, A30, H⟩ := H
   try dsimp only at H
   have A3 := Aside0.mk A30
   clear A30
   have H' := Aside0.mk H
   clear H
   go_enter Tryd.func34, Tryd.ntmps34
   go_wp2_with (first | ((with_reducible refine gate_dst (N := 1) rfl ?_); (try (refine gate_guard (by rfl) ?_; dsimp only)); refine zx 1 #[.bool true, .int .u64 a0_1, .int .u64 a0_2] 25 ?_; intro gb440 hg w4 hbox hb; have BK440 := Aside0.mk (hbox); have GW440 := Aside0.mk ((by rw [hg]; exact (below_size (zB HB)) : w.heap.size ≤ gb440)); have GE440 := Aside0.mk ((by rw [hg]; exact (below_size (zB HB)) : w.heap.size ≤ gb440)); replace HB := Aside0.mk (below_step (zB HB) hb); clear hb hbox hg; obtain ⟨hcz5_0, hcz5_1, hcz5_2⟩ := zc3 BK440; obtain ⟨hfz5_0, hfz5_1, hfz5_2⟩ := zf3 BK440) | ((with_reducible refine gate_callee (f := 60) rfl ?_); refine goesL_ (some 42) rfl rfl Tryd.func60 (by kernel_rfl) rfl #[.agg #[.bool true, .int .u64 a0_1, .int .u64 a0_2]] rfl (by (try simp only [List.map_toArray, List.map_cons, List.map_nil]); first | done | rfl | (simp only [List.length_drop, List.length_take]; rfl)) ?_; (with_reducible refine (intrusionref06_Groups.calls k true a0_1 a0_2 t445 _ A3.out).mono ?_); rintro e w6 ⟨v446, rfl, ho0, hb⟩; refine ⟨_, rfl, ?_⟩; have HO447 := Aside0.mk (Kd.R_lower ho0 (below_size (zB HB))); replace BK440 := Aside0.mk (blk_below (g := gb440) (o := .cells #[.bool true, .int .u64 a0_1, .int .u64 a0_2] 25 (0, 0)) (zK BK440) hb); replace HB := Aside0.mk (below_step (zB HB) hb); (try clear hb); (try clear ho0)))
   go_loopg [4, 5, 6] k (fun kq v4 v5 v6 w' => ∃ (x4_1 : Int) (x5_1 : Int) (x6_1 : Int), v4 = .int .i64 x4_1 ∧ v5 = .int .i64 x5_1 ∧ v6 = .int .i64 x6_1 ∧ Aside0 (intrusionref06_Format.l0 kq t445 x4_1 x5_1 x6_1 = some r) ∧ Aside0 (kq ≤ k) ∧ Aside0 (Kd.R (Kd.int .i64) 3 w' w.heap.size (fun _ => True) v446 t445) ∧ Aside0 (w'.heap[gb440]? = some (.cells #[.bool true, .int .u64 a0_1, .int .u64 a0_2] 25 (0, 0))) ∧ Aside0 (Below w.heap.size w w'))
   case atStart => exact ⟨((-1)), (1), (0), (by first | rfl | (simp; done) | (simp [*]; done)), (by first | rfl | (simp; done) | (simp [*]; done)), (by first | rfl | (simp; done) | (simp [*]; done)), H', ⟨Nat.le_refl _⟩, ⟨zR HO447⟩, ⟨zK BK440⟩, ⟨zB HB⟩⟩
   case round =>
    clear H'
    try clear c2
    try clear p2
    try clear c3
    try clear c6
    try clear p6
    try clear hcz5_0
    try clear hcz5_1
    try clear hcz5_2
    try clear hfz5_0
    try clear hfz5_1
    try clear hfz5_2
    obtain ⟨x4_1, x5_1, x6_1, rfl, rfl, rfl, HA, HK1, HO_3, BK440, HB⟩ := hrel
    cases gk with
    | zero => exact absurd HA.out (by simp [intrusionref06_Format.l0])
    | succ k1 =>
     have H := HA.out
     clear HA
     simp only [intrusionref06_Format.l0] at H
     by_cases c7 : x6_1 < 8
     · rw [if_pos c7] at H
       have c7b0 : decide (x6_1 < 8) = true := decide_eq_true c7
       clear c7
       replace H := Option.bind_eq_some_iff.mp H
       obtain ⟨t448, A80, H⟩ := H
       try dsimp only at H
       have A8 := Aside0.mk A80
       clear A80
       by_cases c9 : t448 > x5_1
       · rw [if_pos c9] at H
         have c9b0 : decide (x5_1 < t448) = true := decide_eq_true c9
         clear c9
         replace H := Option.bind_eq_some_iff.mp H
         obtain ⟨t449, A100, H⟩ := H
         try dsimp only at H
         have A10 := Aside0.mk A100
         clear A100
         have H' := Aside0.mk H
         clear H
         obtain ⟨Ao11, co11, eo11⟩ := Kd.R_slice HO_3.out
         subst eo11
         go_wp2_with (first | ((with_reducible refine gate_callee (f := 61) rfl ?_); refine goesL_ (some 49) rfl rfl Tryd.func61 (by kernel_rfl) rfl #[.slice Ao11 t445.length co11, .int .i64 x6_1] rfl (by (try simp only [List.map_toArray, List.map_cons, List.map_nil]); first | done | rfl | (simp only [List.length_drop, List.length_take]; rfl)) ?_; (with_reducible refine (intrusionref06_run.calls k1 _ _ t445 x6_1 t448 _ ?side1 ?side2 A8.out).mono ?_); (case side1 => repeat (first | exact (Kd.R_reads' HO_3.out).2.2 | (with_reducible refine Kd.C_alloc ?_ _) | (with_reducible refine Kd.C_drewN ?_ _) | (with_reducible refine Kd.C_drew ?_))); (case side2 => exact (Kd.R_reads' HO_3.out).2.1); rintro e w' ⟨rfl, ⟨nd, rfl⟩⟩; refine ⟨_, rfl, ?_⟩) | ((with_reducible refine gate_callee (f := 61) rfl ?_); refine goesL_ (some 55) rfl rfl Tryd.func61 (by kernel_rfl) rfl #[.slice Ao11 t445.length co11, .int .i64 x6_1] rfl (by (try simp only [List.map_toArray, List.map_cons, List.map_nil]); first | done | rfl | (simp only [List.length_drop, List.length_take]; rfl)) ?_; (with_reducible refine (intrusionref06_run.calls k1 _ _ t445 x6_1 t449 _ ?side1 ?side2 A10.out).mono ?_); (case side1 => repeat (first | exact (Kd.R_reads' HO_3.out).2.2 | (with_reducible refine Kd.C_alloc ?_ _) | (with_reducible refine Kd.C_drewN ?_ _) | (with_reducible refine Kd.C_drew ?_))); (case side2 => exact (Kd.R_reads' HO_3.out).2.1); rintro e w' ⟨rfl, ⟨nd, rfl⟩⟩; refine ⟨_, rfl, ?_⟩))
         go_roundg k1
         case measure => have := HK1.out; omega
         case rel => exact ⟨(x6_1), (t449), (wrap64 (x6_1 + 1)), (by first | rfl | (simp; done) | (simp [*]; done)), (by first | rfl | (simp; done) | (simp [*]; done)), (by first | rfl | (simp; done) | (simp [*]; done)), H', ⟨by have := HK1.out; omega⟩, ⟨zR HO_3⟩, ⟨zK BK440⟩, ⟨zB HB⟩⟩
       · rw [if_neg c9] at H
         have c9b0 : decide (x5_1 < t448) = false := decide_eq_false c9
         clear c9
         have H' := Aside0.mk H
         clear H
         obtain ⟨Ao12, co12, eo12⟩ := Kd.R_slice HO_3.out
         subst eo12
         go_wp2_with (first | ((with_reducible refine gate_callee (f := 61) rfl ?_); refine goesL_ (some 49) rfl rfl Tryd.func61 (by kernel_rfl) rfl #[.slice Ao12 t445.length co12, .int .i64 x6_1] rfl (by (try simp only [List.map_toArray, List.map_cons, List.map_nil]); first | done | rfl | (simp only [List.length_drop, List.length_take]; rfl)) ?_; (with_reducible refine (intrusionref06_run.calls k1 _ _ t445 x6_1 t448 _ ?side1 ?side2 A8.out).mono ?_); (case side1 => repeat (first | exact (Kd.R_reads' HO_3.out).2.2 | (with_reducible refine Kd.C_alloc ?_ _) | (with_reducible refine Kd.C_drewN ?_ _) | (with_reducible refine Kd.C_drew ?_))); (case side2 => exact (Kd.R_reads' HO_3.out).2.1); rintro e w' ⟨rfl, ⟨nd, rfl⟩⟩; refine ⟨_, rfl, ?_⟩))
         go_roundg k1
         case measure => have := HK1.out; omega
         case rel => exact ⟨(x4_1), (x5_1), (wrap64 (x6_1 + 1)), (by first | rfl | (simp; done) | (simp [*]; done)), (by first | rfl | (simp; done) | (simp [*]; done)), (by first | rfl | (simp; done) | (simp [*]; done)), H', ⟨by have := HK1.out; omega⟩, ⟨zR HO_3⟩, ⟨zK BK440⟩, ⟨zB HB⟩⟩
     · rw [if_neg c7] at H
       have c7b0 : decide (x6_1 < 8) = false := decide_eq_false c7
       clear c7
       have H' := Aside0.mk H
       clear H
       go_wp2
       go_loopg [7, 8] k1 (fun kq v7 v8 w' => ∃ (x7_2 : ByteArray) (x8_2 : Int), v7 = .string x7_2 ∧ v8 = .int .i64 x8_2 ∧ Aside0 (intrusionref06_Format.l1 kq t445 x4_1 x5_1 x7_2 x8_2 = some r) ∧ Aside0 (kq ≤ k1) ∧ Aside0 (Kd.R (Kd.int .i64) 3 w' w.heap.size (fun _ => True) v446 t445) ∧ Aside0 (w'.heap[gb440]? = some (.cells #[.bool true, .int .u64 a0_1, .int .u64 a0_2] 25 (0, 0))) ∧ Aside0 (Below w.heap.size w w'))
       case atStart => exact ⟨((⟨#[]⟩ : ByteArray)), (0), (by first | rfl | (simp; done) | (simp [*]; done)), (by first | rfl | (simp; done) | (simp [*]; done)), H', ⟨Nat.le_refl _⟩, ⟨zR HO_3⟩, ⟨zK BK440⟩, ⟨zB HB⟩⟩
       case round =>
        clear H'
        try clear c2
        try clear p2
        try clear c3
        try clear c6
        try clear p6
        try clear c7
        try clear c7b0
        try clear c9
        try clear c9b0
        try clear hcz5_0
        try clear hcz5_1
        try clear hcz5_2
        try clear hfz5_0
        try clear hfz5_1
        try clear hfz5_2
        try clear p2
        try clear p6
        obtain ⟨x7_2, x8_2, rfl, rfl, HA, HK2, HO_3, BK440, HB⟩ := hrel
        cases gk with
        | zero => exact absurd HA.out (by simp [intrusionref06_Format.l1])
        | succ k2 =>
         have H := HA.out
         clear HA
         simp only [intrusionref06_Format.l1] at H
         by_cases c13 : x8_2 < 8
         · rw [if_pos c13] at H
           have c13b0 : decide (x8_2 < 8) = true := decide_eq_true c13
           clear c13
           by_cases c14 : x8_2 = x4_1
           · rw [if_pos c14] at H
             have c14b0 : (x8_2 == x4_1) = true := beq_iff_eq.mpr c14
             have c14b1 : (x8_2 != x4_1) = false := bne_eq_false_iff_eq.mpr c14
             clear c14
             by_cases c15 : x7_2.size + 2 ≤ 9223372036854775807
             · rw [if_pos c15] at H
               have c15b0 := eq_true c15
               have c15b1 : decide (x7_2.size + 2 ≤ 9223372036854775807) = true := decide_eq_true c15
               try have c15b2 : (9223372036854775807 < x7_2.size + 2) = False := eq_false (Nat.not_lt.2 c15)
               have H' := Aside0.mk H
               clear H
               go_wp2
               go_roundg k2
               case measure => have := HK1.out; have := HK2.out; omega
               case rel => exact ⟨(x7_2 ++ (⟨#[58, 58]⟩ : ByteArray)), (wrap64 ((wrap64 (x8_2 + (wrap64 (x5_1 - 1)))) + 1)), (by first | rfl | (simp; done) | (simp [*]; done)), (by first | rfl | (simp; done) | (simp [*]; done)), H', ⟨by have := HK1.out; have := HK2.out; omega⟩, ⟨zR HO_3⟩, ⟨zK BK440⟩, ⟨zB HB⟩⟩
             · rw [if_neg c15] at H
               exact absurd H (by simp)
           · rw [if_neg c14] at H
             have c14b0 : (x8_2 == x4_1) = false := beq_eq_false_iff_ne.mpr c14
             have c14b1 : (x8_2 != x4_1) = true := bne_iff_ne.mpr c14
             by_cases c16 : x7_2.toList = ([] : List UInt8)
             · rw [if_pos c16] at H
               have c16b0 : (x7_2.toList == ([] : List UInt8)) = true := beq_iff_eq.mpr c16
               have c16b1 : (x7_2.toList != ([] : List UInt8)) = false := bne_eq_false_iff_eq.mpr c16
               clear c16
               by_cases c17 : 0 ≤ x8_2
               · rw [if_pos c17] at H
                 have c17b0 : decide (0 ≤ x8_2) = true := decide_eq_true c17
                 clear c17
                 by_cases c18 : x8_2 < (t445.length : Int)
                 · rw [if_pos c18] at H
                   have c18b0 : decide (x8_2 < (t445.length : Int)) = true := decide_eq_true c18
                   clear c18
                   replace H := Option.bind_eq_some_iff.mp H
                   obtain ⟨t451, A190, H⟩ := H
                   try dsimp only at H
                   have A19 := Aside0.mk A190
                   clear A190
                   by_cases c20 : x7_2.size + t451.size ≤ 9223372036854775807
                   · rw [if_pos c20] at H
                     have c20b0 := eq_true c20
                     have c20b1 : decide (x7_2.size + t451.size ≤ 9223372036854775807) = true := decide_eq_true c20
                     try have c20b2 : (9223372036854775807 < x7_2.size + t451.size) = False := eq_false (Nat.not_lt.2 c20)
                     have H' := Aside0.mk H
                     clear H
                     obtain ⟨Ao21, co21, eo21⟩ := Kd.R_slice HO_3.out
                     subst eo21
                     have p450 : 0 ≤ (x8_2 : Int) := za
                     have q450 : x8_2 < (t445.length : Int) := za
                     obtain ⟨ad450, e450, hx450_0⟩ := Kd.at_int (Kd.R_reads' HO_3.out).2.2 x8_2 p450 q450
                     cases e450
                     replace p450 := eq_true p450
                     replace q450 := eq_true q450
                     go_wp2_with (first | ((with_reducible refine gate_callee (f := 62) rfl ?_); refine goesL_ (some 86) rfl rfl Tryd.func62 (by kernel_rfl) rfl #[.int .i64 (rd t445 x8_2)] rfl (by (try simp only [List.map_toArray, List.map_cons, List.map_nil]); first | done | rfl | (simp only [List.length_drop, List.length_take]; rfl)) ?_; (with_reducible refine (intrusionref06_hex.calls k2 (rd t445 x8_2) t451 _ A19.out).mono ?_); rintro e w' ⟨rfl, ⟨nd, rfl⟩⟩; refine ⟨_, rfl, ?_⟩))
                     go_roundg k2
                     case measure => have := HK1.out; have := HK2.out; omega
                     case rel => exact ⟨(x7_2 ++ t451), (wrap64 (x8_2 + 1)), (by first | rfl | (simp; done) | (simp [*]; done)), (by first | rfl | (simp; done) | (simp [*]; done)), H', ⟨by have := HK1.out; have := HK2.out; omega⟩, ⟨zR HO_3⟩, ⟨zK BK440⟩, ⟨zB HB⟩⟩
                   · rw [if_neg c20] at H
                     exact absurd H (by simp)
                 · rw [if_neg c18] at H
                   exact absurd H (by simp)
               · rw [if_neg c17] at H
                 exact absurd H (by simp)
             · rw [if_neg c16] at H
               have c16b0 : (x7_2.toList == ([] : List UInt8)) = false := beq_eq_false_iff_ne.mpr c16
               have c16b1 : (x7_2.toList != ([] : List UInt8)) = true := bne_iff_ne.mpr c16
               obtain ⟨ji22, hji22⟩ : ∃ j_ : Int, (wrap64 ((x7_2.size : Int) - 1)) = j_ := ⟨_, rfl⟩
               replace H : (if 0 ≤ (ji22) then (if (ji22) < (x7_2.size : Int) then (if (bt x7_2 (ji22)) = 58 then (if 0 ≤ x8_2 then (if x8_2 < (t445.length : Int) then ((intrusionref06_hex.f k2 (rd t445 x8_2)).bind fun t453 => (if x7_2.size + t453.size ≤ 9223372036854775807 then (intrusionref06_Format.l1 k2 t445 x4_1 x5_1 (x7_2 ++ t453) (wrap64 (x8_2 + 1))) else (none))) else (none)) else (none)) else (if x7_2.size + 1 ≤ 9223372036854775807 then (if 0 ≤ x8_2 then (if x8_2 < (t445.length : Int) then ((intrusionref06_hex.f k2 (rd t445 x8_2)).bind fun t455 => (if (x7_2 ++ (⟨#[58]⟩ : ByteArray)).size + t455.size ≤ 9223372036854775807 then (intrusionref06_Format.l1 k2 t445 x4_1 x5_1 ((x7_2 ++ (⟨#[58]⟩ : ByteArray)) ++ t455) (wrap64 (x8_2 + 1))) else (none))) else (none)) else (none)) else (none))) else (none)) else (none)) = some r := by first | (rw [hji22] at H; exact H) | (simp only [hji22] at H ⊢; exact H)
               have hji22w : (IntKind.i64.wrap ((x7_2.size : Int) - 1)) = ji22 := (i64_w _).trans hji22
               by_cases c23 : 0 ≤ (ji22)
               · rw [if_pos c23] at H
                 have c23b0 : decide (0 ≤ (ji22)) = true := decide_eq_true c23
                 clear c23
                 by_cases c24 : (ji22) < (x7_2.size : Int)
                 · rw [if_pos c24] at H
                   have c24b0 : decide ((ji22) < (x7_2.size : Int)) = true := decide_eq_true c24
                   clear c24
                   by_cases c26 : (bt x7_2 (ji22)) = 58
                   · rw [if_pos c26] at H
                     have c26b0 : ((bt x7_2 (ji22)) == 58) = true := beq_iff_eq.mpr c26
                     have c26b1 : ((bt x7_2 (ji22)) != 58) = false := bne_eq_false_iff_eq.mpr c26
                     clear c26
                     by_cases c27 : 0 ≤ x8_2
                     · rw [if_pos c27] at H
                       have c27b0 : decide (0 ≤ x8_2) = true := decide_eq_true c27
                       clear c27
                       by_cases c28 : x8_2 < (t445.length : Int)
                       · rw [if_pos c28] at H
                         have c28b0 : decide (x8_2 < (t445.length : Int)) = true := decide_eq_true c28
                         clear c28
                         replace H := Option.bind_eq_some_iff.mp H
                         obtain ⟨t453, A290, H⟩ := H
                         try dsimp only at H
                         have A29 := Aside0.mk A290
                         clear A290
                         by_cases c30 : x7_2.size + t453.size ≤ 9223372036854775807
                         · rw [if_pos c30] at H
                           have c30b0 := eq_true c30
                           have c30b1 : decide (x7_2.size + t453.size ≤ 9223372036854775807) = true := decide_eq_true c30
                           try have c30b2 : (9223372036854775807 < x7_2.size + t453.size) = False := eq_false (Nat.not_lt.2 c30)
                           have H' := Aside0.mk H
                           clear H
                           have p25 : 0 ≤ ((ji22) : Int) := za
                           have q25 : (ji22) < (x7_2.size : Int) := za
                           have hx25 := bt_at x7_2 (ji22)
                           replace p25 := eq_true p25
                           replace q25 := eq_true q25
                           obtain ⟨Ao31, co31, eo31⟩ := Kd.R_slice HO_3.out
                           subst eo31
                           have p452 : 0 ≤ (x8_2 : Int) := za
                           have q452 : x8_2 < (t445.length : Int) := za
                           obtain ⟨ad452, e452, hx452_0⟩ := Kd.at_int (Kd.R_reads' HO_3.out).2.2 x8_2 p452 q452
                           cases e452
                           replace p452 := eq_true p452
                           replace q452 := eq_true q452
                           go_wp2_with (first | ((with_reducible refine gate_callee (f := 62) rfl ?_); refine goesL_ (some 86) rfl rfl Tryd.func62 (by kernel_rfl) rfl #[.int .i64 (rd t445 x8_2)] rfl (by (try simp only [List.map_toArray, List.map_cons, List.map_nil]); first | done | rfl | (simp only [List.length_drop, List.length_take]; rfl)) ?_; (with_reducible refine (intrusionref06_hex.calls k2 (rd t445 x8_2) t453 _ A29.out).mono ?_); rintro e w' ⟨rfl, ⟨nd, rfl⟩⟩; refine ⟨_, rfl, ?_⟩))
                           go_roundg k2
                           case measure => have := HK1.out; have := HK2.out; omega
                           case rel => exact ⟨(x7_2 ++ t453), (wrap64 (x8_2 + 1)), (by first | rfl | (simp; done) | (simp [*]; done)), (by first | rfl | (simp; done) | (simp [*]; done)), H', ⟨by have := HK1.out; have := HK2.out; omega⟩, ⟨zR HO_3⟩, ⟨zK BK440⟩, ⟨zB HB⟩⟩
                         · rw [if_neg c30] at H
                           exact absurd H (by simp)
                       · rw [if_neg c28] at H
                         exact absurd H (by simp)
                     · rw [if_neg c27] at H
                       exact absurd H (by simp)
                   · rw [if_neg c26] at H
                     have c26b0 : ((bt x7_2 (ji22)) == 58) = false := beq_eq_false_iff_ne.mpr c26
                     have c26b1 : ((bt x7_2 (ji22)) != 58) = true := bne_iff_ne.mpr c26
                     by_cases c32 : x7_2.size + 1 ≤ 9223372036854775807
                     · rw [if_pos c32] at H
                       have c32b0 := eq_true c32
                       have c32b1 : decide (x7_2.size + 1 ≤ 9223372036854775807) = true := decide_eq_true c32
                       try have c32b2 : (9223372036854775807 < x7_2.size + 1) = False := eq_false (Nat.not_lt.2 c32)
                       by_cases c33 : 0 ≤ x8_2
                       · rw [if_pos c33] at H
                         have c33b0 : decide (0 ≤ x8_2) = true := decide_eq_true c33
                         clear c33
                         by_cases c34 : x8_2 < (t445.length : Int)
                         · rw [if_pos c34] at H
                           have c34b0 : decide (x8_2 < (t445.length : Int)) = true := decide_eq_true c34
                           clear c34
                           replace H := Option.bind_eq_some_iff.mp H
                           obtain ⟨t455, A350, H⟩ := H
                           try dsimp only at H
                           have A35 := Aside0.mk A350
                           clear A350
                           by_cases c36 : (x7_2 ++ (⟨#[58]⟩ : ByteArray)).size + t455.size ≤ 9223372036854775807
                           · rw [if_pos c36] at H
                             have c36b0 := eq_true c36
                             have c36b8 : x7_2.size + 1 + t455.size ≤ 9223372036854775807 := by have q_ := c36; simp only [ByteArray.size_append] at q_; exact q_
                             have c36b7 : (9223372036854775807 < x7_2.size + 1 + t455.size) = False := eq_false (Nat.not_lt.2 c36b8)
                             replace c36b8 := eq_true c36b8
                             have c36b1 : decide ((x7_2 ++ (⟨#[58]⟩ : ByteArray)).size + t455.size ≤ 9223372036854775807) = true := decide_eq_true c36
                             try have c36b2 : (9223372036854775807 < (x7_2 ++ (⟨#[58]⟩ : ByteArray)).size + t455.size) = False := eq_false (Nat.not_lt.2 c36)
                             have H' := Aside0.mk H
                             clear H
                             have p25 : 0 ≤ ((ji22) : Int) := za
                             have q25 : (ji22) < (x7_2.size : Int) := za
                             have hx25 := bt_at x7_2 (ji22)
                             replace p25 := eq_true p25
                             replace q25 := eq_true q25
                             obtain ⟨Ao37, co37, eo37⟩ := Kd.R_slice HO_3.out
                             subst eo37
                             have p454 : 0 ≤ (x8_2 : Int) := za
                             have q454 : x8_2 < (t445.length : Int) := za
                             obtain ⟨ad454, e454, hx454_0⟩ := Kd.at_int (Kd.R_reads' HO_3.out).2.2 x8_2 p454 q454
                             cases e454
                             replace p454 := eq_true p454
                             replace q454 := eq_true q454
                             go_wp2_with (first | ((with_reducible refine gate_callee (f := 62) rfl ?_); refine goesL_ (some 86) rfl rfl Tryd.func62 (by kernel_rfl) rfl #[.int .i64 (rd t445 x8_2)] rfl (by (try simp only [List.map_toArray, List.map_cons, List.map_nil]); first | done | rfl | (simp only [List.length_drop, List.length_take]; rfl)) ?_; (with_reducible refine (intrusionref06_hex.calls k2 (rd t445 x8_2) t455 _ A35.out).mono ?_); rintro e w' ⟨rfl, ⟨nd, rfl⟩⟩; refine ⟨_, rfl, ?_⟩))
                             go_roundg k2
                             case measure => have := HK1.out; have := HK2.out; omega
                             case rel => exact ⟨((x7_2 ++ (⟨#[58]⟩ : ByteArray)) ++ t455), (wrap64 (x8_2 + 1)), (by first | rfl | (simp; done) | (simp [*]; done)), (by first | rfl | (simp; done) | (simp [*]; done)), H', ⟨by have := HK1.out; have := HK2.out; omega⟩, ⟨zR HO_3⟩, ⟨zK BK440⟩, ⟨zB HB⟩⟩
                           · rw [if_neg c36] at H
                             exact absurd H (by simp)
                         · rw [if_neg c34] at H
                           exact absurd H (by simp)
                       · rw [if_neg c33] at H
                         exact absurd H (by simp)
                     · rw [if_neg c32] at H
                       exact absurd H (by simp)
                 · rw [if_neg c24] at H
                   exact absurd H (by simp)
               · rw [if_neg c23] at H
                 exact absurd H (by simp)
         · rw [if_neg c13] at H
           have c13b0 : decide (x8_2 < 8) = false := decide_eq_false c13
           clear c13
           obtain rfl := Option.some.inj H
           go_wp2
           go_ret
           exact ⟨by first | rfl | (simp [errW_none, errW_some] <;> rfl) | (simp [*, errW_none, errW_some] <;> rfl), by repeat (first | (with_reducible first | exact HB.out | apply below_alloc | apply pw_below_drewN | apply below_drew1 | refine below_set ?_ GE440.out) | exact HB.out)⟩
 · replace c2 := Bool.eq_false_iff.mpr c2
   subst c2
   rw [if_neg zF] at H
   replace H := Option.bind_eq_some_iff.mp H
   obtain ⟨t441, A380, H⟩ := H
   try dsimp only at H
   have A38 := Aside0.mk A380
   clear A380
   by_cases c39 : t441.size + 1 ≤ 9223372036854775807
   · rw [if_pos c39] at H
     have c39b0 := eq_true c39
     have c39b1 : decide (t441.size + 1 ≤ 9223372036854775807) = true := decide_eq_true c39
     try have c39b2 : (9223372036854775807 < t441.size + 1) = False := eq_false (Nat.not_lt.2 c39)
     replace H := Option.bind_eq_some_iff.mp H
     obtain ⟨t442, A400, H⟩ := H
     try dsimp only at H
     have A40 := Aside0.mk A400
     clear A400
     by_cases c41 : (t441 ++ (⟨#[46]⟩ : ByteArray)).size + t442.size ≤ 9223372036854775807
     · rw [if_pos c41] at H
       have c41b0 := eq_true c41
       have c41b8 : t441.size + 1 + t442.size ≤ 9223372036854775807 := by have q_ := c41; simp only [ByteArray.size_append] at q_; exact q_
       have c41b7 : (9223372036854775807 < t441.size + 1 + t442.size) = False := eq_false (Nat.not_lt.2 c41b8)
       replace c41b8 := eq_true c41b8
       have c41b1 : decide ((t441 ++ (⟨#[46]⟩ : ByteArray)).size + t442.size ≤ 9223372036854775807) = true := decide_eq_true c41
       try have c41b2 : (9223372036854775807 < (t441 ++ (⟨#[46]⟩ : ByteArray)).size + t442.size) = False := eq_false (Nat.not_lt.2 c41)
       by_cases c42 : ((t441 ++ (⟨#[46]⟩ : ByteArray)) ++ t442).size + 1 ≤ 9223372036854775807
       · rw [if_pos c42] at H
         have c42b0 := eq_true c42
         have c42b8 : t441.size + 1 + t442.size + 1 ≤ 9223372036854775807 := by have q_ := c42; simp only [ByteArray.size_append] at q_; exact q_
         have c42b7 : (9223372036854775807 < t441.size + 1 + t442.size + 1) = False := eq_false (Nat.not_lt.2 c42b8)
         replace c42b8 := eq_true c42b8
         have c42b1 : decide (((t441 ++ (⟨#[46]⟩ : ByteArray)) ++ t442).size + 1 ≤ 9223372036854775807) = true := decide_eq_true c42
         try have c42b2 : (9223372036854775807 < ((t441 ++ (⟨#[46]⟩ : ByteArray)) ++ t442).size + 1) = False := eq_false (Nat.not_lt.2 c42)
         replace H := Option.bind_eq_some_iff.mp H
         obtain ⟨t443, A430, H⟩ := H
         try dsimp only at H
         have A43 := Aside0.mk A430
         clear A430
         by_cases c44 : (((t441 ++ (⟨#[46]⟩ : ByteArray)) ++ t442) ++ (⟨#[46]⟩ : ByteArray)).size + t443.size ≤ 9223372036854775807
         · rw [if_pos c44] at H
           have c44b0 := eq_true c44
           have c44b8 : t441.size + 1 + t442.size + 1 + t443.size ≤ 9223372036854775807 := by have q_ := c44; simp only [ByteArray.size_append] at q_; exact q_
           have c44b7 : (9223372036854775807 < t441.size + 1 + t442.size + 1 + t443.size) = False := eq_false (Nat.not_lt.2 c44b8)
           replace c44b8 := eq_true c44b8
           have c44b1 : decide ((((t441 ++ (⟨#[46]⟩ : ByteArray)) ++ t442) ++ (⟨#[46]⟩ : ByteArray)).size + t443.size ≤ 9223372036854775807) = true := decide_eq_true c44
           try have c44b2 : (9223372036854775807 < (((t441 ++ (⟨#[46]⟩ : ByteArray)) ++ t442) ++ (⟨#[46]⟩ : ByteArray)).size + t443.size) = False := eq_false (Nat.not_lt.2 c44)
           by_cases c45 : ((((t441 ++ (⟨#[46]⟩ : ByteArray)) ++ t442) ++ (⟨#[46]⟩ : ByteArray)) ++ t443).size + 1 ≤ 9223372036854775807
           · rw [if_pos c45] at H
             have c45b0 := eq_true c45
             have c45b8 : t441.size + 1 + t442.size + 1 + t443.size + 1 ≤ 9223372036854775807 := by have q_ := c45; simp only [ByteArray.size_append] at q_; exact q_
             have c45b7 : (9223372036854775807 < t441.size + 1 + t442.size + 1 + t443.size + 1) = False := eq_false (Nat.not_lt.2 c45b8)
             replace c45b8 := eq_true c45b8
             have c45b1 : decide (((((t441 ++ (⟨#[46]⟩ : ByteArray)) ++ t442) ++ (⟨#[46]⟩ : ByteArray)) ++ t443).size + 1 ≤ 9223372036854775807) = true := decide_eq_true c45
             try have c45b2 : (9223372036854775807 < ((((t441 ++ (⟨#[46]⟩ : ByteArray)) ++ t442) ++ (⟨#[46]⟩ : ByteArray)) ++ t443).size + 1) = False := eq_false (Nat.not_lt.2 c45)
             replace H := Option.bind_eq_some_iff.mp H
             obtain ⟨t444, A460, H⟩ := H
             try dsimp only at H
             have A46 := Aside0.mk A460
             clear A460
             by_cases c47 : (((((t441 ++ (⟨#[46]⟩ : ByteArray)) ++ t442) ++ (⟨#[46]⟩ : ByteArray)) ++ t443) ++ (⟨#[46]⟩ : ByteArray)).size + t444.size ≤ 9223372036854775807
             · rw [if_pos c47] at H
               have c47b0 := eq_true c47
               have c47b8 : t441.size + 1 + t442.size + 1 + t443.size + 1 + t444.size ≤ 9223372036854775807 := by have q_ := c47; simp only [ByteArray.size_append] at q_; exact q_
               have c47b7 : (9223372036854775807 < t441.size + 1 + t442.size + 1 + t443.size + 1 + t444.size) = False := eq_false (Nat.not_lt.2 c47b8)
               replace c47b8 := eq_true c47b8
               have c47b1 : decide ((((((t441 ++ (⟨#[46]⟩ : ByteArray)) ++ t442) ++ (⟨#[46]⟩ : ByteArray)) ++ t443) ++ (⟨#[46]⟩ : ByteArray)).size + t444.size ≤ 9223372036854775807) = true := decide_eq_true c47
               try have c47b2 : (9223372036854775807 < (((((t441 ++ (⟨#[46]⟩ : ByteArray)) ++ t442) ++ (⟨#[46]⟩ : ByteArray)) ++ t443) ++ (⟨#[46]⟩ : ByteArray)).size + t444.size) = False := eq_false (Nat.not_lt.2 c47)
               obtain rfl := Option.some.inj H
               go_enter Tryd.func34, Tryd.ntmps34
               try go_wp2_with (first | ((with_reducible refine gate_dst (N := 1) rfl ?_); (try (refine gate_guard (by rfl) ?_; dsimp only)); refine zx 1 #[.bool false, .int .u64 a0_1, .int .u64 a0_2] 25 ?_; intro gb440 hg w48 hbox hb; have BK440 := Aside0.mk (hbox); have GW440 := Aside0.mk ((by rw [hg]; exact (below_size (zB HB)) : w.heap.size ≤ gb440)); have GE440 := Aside0.mk ((by rw [hg]; exact (below_size (zB HB)) : w.heap.size ≤ gb440)); replace HB := Aside0.mk (below_step (zB HB) hb); clear hb hbox hg; obtain ⟨hcz49_0, hcz49_1, hcz49_2⟩ := zc3 BK440; obtain ⟨hfz49_0, hfz49_1, hfz49_2⟩ := zf3 BK440))
               replace BK440 := Aside0.mk (blk_drew BK440.out)
               replace HB := Aside0.mk (below_drew1 HB.out)
               refine start_ (n := 30) (S := fun w' => w'.cell? ⟨gb440, 0, none⟩ = some (.bool false) ∧ w'.cell? ⟨gb440, 1, none⟩ = some (.int .u64 a0_1) ∧ w'.cell? ⟨gb440, 2, none⟩ = some (.int .u64 a0_2)) (ds := []) #[false, false, false, false, false, false, false, false, false, false, false, false, false, false, false, false, false, false, false, false, false, false, false, false, false, false, false, false, false, false] (by kernel_rfl) rfl rfl ⟨zc BK440 0, zc BK440 1, zc BK440 2⟩ (fun hHeld => ?_); refine with_tabW intrusionref06_Format.tab2 intrusionref06_Format.bits2 (fun HT_ HW_ => ?_)
               generalize w48.drew = w50 at BK440 HB hHeld ⊢
               refine zp 0 12 HT_ ?_; refine zp 7 19 HT_ ?_; refine zp 15 27 HT_ ?_; refine zp 23 35 HT_ ?_; refine zt 1 13 HT_ HW_ hHeld ?_; refine zp 2 14 HT_ ?_; refine zp 3 15 HT_ ?_; refine zp 4 16 HT_ ?_; refine zt 8 20 HT_ HW_ hHeld ?_; refine zp 9 21 HT_ ?_; refine zp 10 22 HT_ ?_; refine zp 11 23 HT_ ?_; refine zt 16 28 HT_ HW_ hHeld ?_; refine zp 17 29 HT_ ?_; refine zp 18 30 HT_ ?_; refine zp 19 31 HT_ ?_; refine zt 24 36 HT_ HW_ hHeld ?_; refine zp 25 37 HT_ ?_; refine zp 26 38 HT_ ?_; refine zo 5 17 HT_ (fun K hK => ?_)
               refine zg Tryd.func59 #[.int .i64 (wrap64 (Go.bits .and .u64 (a0_2 / 16777216) 255))] ?_
               with_reducible refine (intrusionref06_Number.calls k (wrap64 (Go.bits .and .u64 (a0_2 / 16777216) 255)) t441 _ A38.out).mono ?_
               rintro e w51 ⟨rfl, hb⟩
               refine ⟨_, rfl, ?_⟩
               replace BK440 := Aside0.mk (blk_below (g := gb440) (o := .cells #[.bool false, .int .u64 a0_1, .int .u64 a0_2] 25 (0, 0)) (zK BK440) hb)
               replace HB := Aside0.mk (below_step (zB HB) hb)
               (try clear hb)
               refine hK.out _ _ ⟨zc BK440 0, zc BK440 1, zc BK440 2⟩ (fun hHeld => ?_)
               clear hK K
               refine zn 17 ?_; refine zp 6 18 HT_ ?_; refine zo 12 24 HT_ (fun K hK => ?_)
               refine zg Tryd.func59 #[.int .i64 (wrap64 (Go.bits .and .u64 (a0_2 / 65536) 255))] ?_
               with_reducible refine (intrusionref06_Number.calls k (wrap64 (Go.bits .and .u64 (a0_2 / 65536) 255)) t442 _ A40.out).mono ?_
               rintro e w52 ⟨rfl, hb⟩
               refine ⟨_, rfl, ?_⟩
               replace BK440 := Aside0.mk (blk_below (g := gb440) (o := .cells #[.bool false, .int .u64 a0_1, .int .u64 a0_2] 25 (0, 0)) (zK BK440) hb)
               replace HB := Aside0.mk (below_step (zB HB) hb)
               (try clear hb)
               refine hK.out _ _ ⟨zc BK440 0, zc BK440 1, zc BK440 2⟩ (fun hHeld => ?_)
               clear hK K
               refine zn 24 ?_; refine zp 13 25 HT_ ?_; refine zp 14 26 HT_ ?_; refine zo 20 32 HT_ (fun K hK => ?_)
               refine zg Tryd.func59 #[.int .i64 (wrap64 (Go.bits .and .u64 (a0_2 / 256) 255))] ?_
               with_reducible refine (intrusionref06_Number.calls k (wrap64 (Go.bits .and .u64 (a0_2 / 256) 255)) t443 _ A43.out).mono ?_
               rintro e w53 ⟨rfl, hb⟩
               refine ⟨_, rfl, ?_⟩
               replace BK440 := Aside0.mk (blk_below (g := gb440) (o := .cells #[.bool false, .int .u64 a0_1, .int .u64 a0_2] 25 (0, 0)) (zK BK440) hb)
               replace HB := Aside0.mk (below_step (zB HB) hb)
               (try clear hb)
               refine hK.out _ _ ⟨zc BK440 0, zc BK440 1, zc BK440 2⟩ (fun hHeld => ?_)
               clear hK K
               refine zn 32 ?_; refine zp 21 33 HT_ ?_; refine zp 22 34 HT_ ?_; refine zo 27 39 HT_ (fun K hK => ?_)
               refine zg Tryd.func59 #[.int .i64 (wrap64 (Go.bits .and .u64 a0_2 255))] ?_
               with_reducible refine (intrusionref06_Number.calls k (wrap64 (Go.bits .and .u64 a0_2 255)) t444 _ A46.out).mono ?_
               rintro e w54 ⟨rfl, hb⟩
               refine ⟨_, rfl, ?_⟩
               replace BK440 := Aside0.mk (blk_below (g := gb440) (o := .cells #[.bool false, .int .u64 a0_1, .int .u64 a0_2] 25 (0, 0)) (zK BK440) hb)
               replace HB := Aside0.mk (below_step (zB HB) hb)
               (try clear hb)
               refine hK.out _ _ ⟨zc BK440 0, zc BK440 1, zc BK440 2⟩ (fun hHeld => ?_)
               clear hK K
               refine zn 39 ?_; refine zp 28 40 HT_ ?_; refine zp 29 2 HT_ ?_; refine zd HT_ ?_
               try go_wp2
               go_ret
               exact ⟨by first | rfl | (simp [errW_none, errW_some] <;> rfl) | (simp [*, errW_none, errW_some] <;> rfl), by repeat (first | (with_reducible first | exact HB.out | apply below_alloc | apply pw_below_drewN | apply below_drew1 | refine below_set ?_ GE440.out) | exact HB.out)⟩
             · rw [if_neg c47] at H
               exact absurd H (by simp)
           · rw [if_neg c45] at H
             exact absurd H (by simp)
         · rw [if_neg c44] at H
           exact absurd H (by simp)
       · rw [if_neg c42] at H
         exact absurd H (by simp)
     · rw [if_neg c41] at H
       exact absurd H (by simp)
   · rw [if_neg c39] at H
     exact absurd H (by simp)
end Go.Proofs.YtlgfinnldhjgeaaDoor.Q
end

section
namespace Go.Proofs.YtlgfinnldhjgeaaDoor.Q
open Go.RowKit Go.Proofs.YtlgfinnldhjgeaaDoorW.PrintWords Go.Proofs.YtlgfinnldhjgeaaDoorW.PrintLast Go.Proofs.YtlgfinnldhjgeaaDoorW.PrintMore
attribute [local go_sem] max2_int min2_int max_two min_two max_three min_three max_four min_four
set_option linter.unusedVariables false
set_option linter.unusedSimpArgs false
mutual
def intrusionref06_Bytes.l0 : Nat → List Int → Int → Bool → Int → Int → Option (ByteArray)
  | 0, _, _, _, _, _ => none
  | k + 1, x3, x4, x457000, x457001, x457002 => if x4 ≥ 0 then (if 0 ≤ (IntKind.u64.wrap (wrap64 (8 * x4))) then (if x3.length < 140737488355328 then (intrusionref06_Bytes.l0 k (x3 ++ [(shr .u64 x457001 (IntKind.u64.wrap (wrap64 (8 * x4)))) % 256]) (wrap64 (x4 - 1)) x457000 x457001 x457002) else (none)) else (none)) else (intrusionref06_Bytes.l1 k x3 7 x457000 x457001 x457002)
def intrusionref06_Bytes.l1 : Nat → List Int → Int → Bool → Int → Int → Option (ByteArray)
  | 0, _, _, _, _, _ => none
  | k + 1, x3, x5, x457000, x457001, x457002 => if x5 ≥ 0 then (if 0 ≤ (IntKind.u64.wrap (wrap64 (8 * x5))) then (if x3.length < 140737488355328 then (intrusionref06_Bytes.l1 k (x3 ++ [(shr .u64 x457002 (IntKind.u64.wrap (wrap64 (8 * x5)))) % 256]) (wrap64 (x5 - 1)) x457000 x457001 x457002) else (none)) else (none)) else (some (strOfNums x3))
def intrusionref06_Bytes.l2 : Nat → List Int → Int → Bool → Int → Int → Option (ByteArray)
  | 0, _, _, _, _, _ => none
  | k + 1, x3, x6, x457000, x457001, x457002 => if x6 ≥ 0 then (if 0 ≤ (IntKind.u64.wrap (wrap64 (8 * x6))) then (if x3.length < 140737488355328 then (intrusionref06_Bytes.l2 k (x3 ++ [(shr .u64 x457002 (IntKind.u64.wrap (wrap64 (8 * x6)))) % 256]) (wrap64 (x6 - 1)) x457000 x457001 x457002) else (none)) else (none)) else (some (strOfNums x3))
end
def intrusionref06_Bytes.f (k : Nat) (a0_0 : Bool) (a0_1 : Int) (a0_2 : Int) : Option (ByteArray) := if a0_0 = true then (intrusionref06_Bytes.l0 k ([] : List Int) 7 a0_0 a0_1 a0_2) else (intrusionref06_Bytes.l2 k ([] : List Int) 3 a0_0 a0_1 a0_2)
theorem intrusionref06_Bytes.mono_l : ∀ k, (∀ y0 y1 y2 y3 y4, LeO (intrusionref06_Bytes.l0 k y0 y1 y2 y3 y4) (intrusionref06_Bytes.l0 (k + 1) y0 y1 y2 y3 y4)) ∧ (∀ y0 y1 y2 y3 y4, LeO (intrusionref06_Bytes.l1 k y0 y1 y2 y3 y4) (intrusionref06_Bytes.l1 (k + 1) y0 y1 y2 y3 y4)) ∧ (∀ y0 y1 y2 y3 y4, LeO (intrusionref06_Bytes.l2 k y0 y1 y2 y3 y4) (intrusionref06_Bytes.l2 (k + 1) y0 y1 y2 y3 y4))
  | 0 => ⟨fun _ _ _ _ _ r h => by simp [intrusionref06_Bytes.l0] at h, fun _ _ _ _ _ r h => by simp [intrusionref06_Bytes.l1] at h, fun _ _ _ _ _ r h => by simp [intrusionref06_Bytes.l2] at h⟩
  | k + 1 => by
    obtain ⟨ih0, ih1, ih2⟩ := intrusionref06_Bytes.mono_l k
    refine ⟨?_, ?_, ?_⟩
    · intro y0 y1 y2 y3 y4
      unfold intrusionref06_Bytes.l0
      repeat' first
      | (with_reducible exact ih0 _ _ _ _ _)
      | (with_reducible exact ih1 _ _ _ _ _)
      | (with_reducible exact ih2 _ _ _ _ _)
      | (with_reducible exact LeO.refl _)
      | (with_reducible exact LeO.none _)
      | (with_reducible refine LeO.ite ?_ ?_)
      | (with_reducible refine LeO.bind ?_ (fun _ => ?_))
      | exact ih0 _ _ _ _ _
      | exact ih1 _ _ _ _ _
      | exact ih2 _ _ _ _ _
      | exact LeO.none _
      | refine LeO.ite ?_ ?_
      | refine LeO.bind ?_ (fun _ => ?_)
    · intro y0 y1 y2 y3 y4
      unfold intrusionref06_Bytes.l1
      repeat' first
      | (with_reducible exact ih0 _ _ _ _ _)
      | (with_reducible exact ih1 _ _ _ _ _)
      | (with_reducible exact ih2 _ _ _ _ _)
      | (with_reducible exact LeO.refl _)
      | (with_reducible exact LeO.none _)
      | (with_reducible refine LeO.ite ?_ ?_)
      | (with_reducible refine LeO.bind ?_ (fun _ => ?_))
      | exact ih0 _ _ _ _ _
      | exact ih1 _ _ _ _ _
      | exact ih2 _ _ _ _ _
      | exact LeO.none _
      | refine LeO.ite ?_ ?_
      | refine LeO.bind ?_ (fun _ => ?_)
    · intro y0 y1 y2 y3 y4
      unfold intrusionref06_Bytes.l2
      repeat' first
      | (with_reducible exact ih0 _ _ _ _ _)
      | (with_reducible exact ih1 _ _ _ _ _)
      | (with_reducible exact ih2 _ _ _ _ _)
      | (with_reducible exact LeO.refl _)
      | (with_reducible exact LeO.none _)
      | (with_reducible refine LeO.ite ?_ ?_)
      | (with_reducible refine LeO.bind ?_ (fun _ => ?_))
      | exact ih0 _ _ _ _ _
      | exact ih1 _ _ _ _ _
      | exact ih2 _ _ _ _ _
      | exact LeO.none _
      | refine LeO.ite ?_ ?_
      | refine LeO.bind ?_ (fun _ => ?_)
theorem intrusionref06_Bytes.mono : ∀ a0 a1 a2 k, LeO (intrusionref06_Bytes.f k a0 a1 a2) (intrusionref06_Bytes.f (k + 1) a0 a1 a2) := by
  intro a0 a1 a2 k
  obtain ⟨ih0, ih1, ih2⟩ := intrusionref06_Bytes.mono_l k
  unfold intrusionref06_Bytes.f
  repeat' first
      | (with_reducible exact ih0 _ _ _ _ _)
      | (with_reducible exact ih1 _ _ _ _ _)
      | (with_reducible exact ih2 _ _ _ _ _)
      | (with_reducible exact LeO.refl _)
      | (with_reducible exact LeO.none _)
      | (with_reducible refine LeO.ite ?_ ?_)
      | (with_reducible refine LeO.bind ?_ (fun _ => ?_))
      | exact ih0 _ _ _ _ _
      | exact ih1 _ _ _ _ _
      | exact ih2 _ _ _ _ _
      | exact LeO.none _
      | refine LeO.ite ?_ ?_
      | refine LeO.bind ?_ (fun _ => ?_)
set_option maxHeartbeats 8000000 in
set_option maxRecDepth 100000 in
theorem intrusionref06_Bytes.calls (k : Nat) (a0_0 : Bool) (a0_1 : Int) (a0_2 : Int) (r : ByteArray) (w : World) (h : intrusionref06_Bytes.f k a0_0 a0_1 a0_2 = some r) :
 Calls Tryd.prog 35 #[.agg #[.bool a0_0, .int .u64 a0_1, .int .u64 a0_2]] w fun e w' => e = .returned (.string r) ∧ Below w.heap.size w w' := by
 have hu25 := Tryd.underlying25
 have HB := Aside0.mk (Below.refl w.heap.size w)
 unfold intrusionref06_Bytes.f at h; have H := h
 clear h
 by_cases c2 : a0_0 = true
 · subst c2
   rw [if_pos rfl] at H
   have H' := Aside0.mk H
   clear H
   go_enter Tryd.func35, Tryd.ntmps35
   go_wp2_with (first | ((with_reducible refine gate_dst (N := 1) rfl ?_); refine zx 1 #[.bool true, .int .u64 a0_1, .int .u64 a0_2] 25 ?_; intro gb456 hg w3 hbox hb; have BK456 := Aside0.mk (hbox); have GW456 := Aside0.mk ((by rw [hg]; exact (below_size (zB HB)) : w.heap.size ≤ gb456)); have GE456 := Aside0.mk ((by rw [hg]; exact (below_size (zB HB)) : w.heap.size ≤ gb456)); replace HB := Aside0.mk (below_step (zB HB) hb); clear hb hbox hg; obtain ⟨hcz4_0, hcz4_1, hcz4_2⟩ := zc3 BK456; obtain ⟨hfz4_0, hfz4_1, hfz4_2⟩ := zf3 BK456))
   go_loopg [3, 4] k (fun kq v3 v4 w' => ∃ (x3_1 : List Int) (x4_1 : Int), v4 = .int .i64 x4_1 ∧ Aside0 (intrusionref06_Bytes.l0 kq x3_1 x4_1 true a0_1 a0_2 = some r) ∧ Aside0 (kq ≤ k) ∧ Aside0 (Kd.R (Kd.int .u8) 5 w' w.heap.size (fun _ => True) v3 x3_1) ∧ Aside0 (w'.heap[gb456]? = some (.cells #[.bool true, .int .u64 a0_1, .int .u64 a0_2] 25 (0, 0))) ∧ Aside0 (Below w.heap.size w w'))
   case atStart => exact ⟨(([] : List Int)), (7), (by first | rfl | (simp; done) | (simp [*]; done)), H', ⟨Nat.le_refl _⟩, ⟨by first | exact Kd.R_nil _ _ _ _ _ | exact Kd.N_nil _ _ _ _ _ | exact Kd.V_nil _ _ _ _ _ | exact Kd.Q_nil _ _ _ _ _ | exact Kd.S_nil _ _ _ _ _⟩, ⟨zK BK456⟩, ⟨zB HB⟩⟩
   case round =>
    clear H'
    try clear c2
    try clear p2
    try clear c3
    try clear hcz4_0
    try clear hcz4_1
    try clear hcz4_2
    try clear hfz4_0
    try clear hfz4_1
    try clear hfz4_2
    obtain ⟨x3_1, x4_1, rfl, HA, HK1, HO_3, BK456, HB⟩ := hrel
    cases gk with
    | zero => exact absurd HA.out (by simp [intrusionref06_Bytes.l0])
    | succ k1 =>
     have H := HA.out
     clear HA
     simp only [intrusionref06_Bytes.l0] at H
     by_cases c5 : x4_1 ≥ 0
     · rw [if_pos c5] at H
       have c5b0 : decide (0 ≤ x4_1) = true := decide_eq_true c5
       clear c5
       obtain ⟨ji6, hji6⟩ : ∃ j_ : Int, (IntKind.u64.wrap (wrap64 (8 * x4_1))) = j_ := ⟨_, rfl⟩
       replace H : (if 0 ≤ (ji6) then (if x3_1.length < 140737488355328 then (intrusionref06_Bytes.l0 k1 (x3_1 ++ [(shr .u64 a0_1 (ji6)) % 256]) (wrap64 (x4_1 - 1)) true a0_1 a0_2) else (none)) else (none)) = some r := by first | (rw [hji6] at H; exact H) | (simp only [hji6] at H ⊢; exact H)
       by_cases c7 : 0 ≤ (ji6)
       · rw [if_pos c7] at H
         have c7b0 := eq_true c7
         have c7b1 : decide (0 ≤ (ji6)) = true := decide_eq_true c7
         clear c7
         obtain ⟨ji8, hji8⟩ : ∃ j_ : Int, (shr .u64 a0_1 (ji6)) = j_ := ⟨_, rfl⟩
         replace H : (if x3_1.length < 140737488355328 then (intrusionref06_Bytes.l0 k1 (x3_1 ++ [(ji8) % 256]) (wrap64 (x4_1 - 1)) true a0_1 a0_2) else (none)) = some r := by first | (rw [hji8] at H; exact H) | (simp only [hji8] at H ⊢; exact H)
         have hji8_ : (a0_1 / 2 ^ min (ji6).toNat 64) = ji8 := hji8
         have hji8z : (ji6) ≤ 64 → (a0_1 / 2 ^ (ji6).toNat) = ji8 := shr_small hji8
         by_cases c9 : x3_1.length < 140737488355328
         · rw [if_pos c9] at H
           have LMc9 := Aside0.mk c9
           clear c9
           obtain ⟨y457, hy457⟩ : ∃ y_ : List Int, y_ = (x3_1 ++ [(ji8) % 256]) := ⟨_, rfl⟩
           rw [← hy457] at H; try dsimp only [Option.bind_some] at H
           have Ny457 := Aside0.mk hy457
           clear hy457
           have H' := Aside0.mk H
           clear H
           obtain ⟨hcz10_0, hcz10_1, hcz10_2⟩ := zc3 BK456
           obtain ⟨hfz10_0, hfz10_1, hfz10_2⟩ := zf3 BK456
           go_wp2_with (first | ((with_reducible refine gate_builtin (b := .append) (xs := #[.tmp 13, .tmp 21]) rfl ?_); at_builtin; refine Kd.R_append (Kd.int .u8) (w0 := w) w.heap.size rfl (.tmp 13) (.tmp 21) 75 5 (.int .u8 0) 1 rfl Tryd.underlying75 info5 rfl (by decide) (by omega) u3 x3_1 ((ji8) % 256) [.int .u8 ((ji8) % 256)] (fun _ => True) (fun _ => False) rfl rfl ?aP (fun _ hk => hk.elim) ?aF ?aO ?aB ?aS ?aL ?_; (case aP => exact rfl); (case aB => exact (zB HB)); (case aF => exact (fun _ _ => trivial)); (case aO => exact (zR HO_3)); (case aS => exact (below_size (zB HB))); (case aL => have := LMc9.out; omega); intro v458 w11 ho hb hg hat; rw [← Ny457.out] at ho; replace BK456 := Aside0.mk (blk_grown (g := gb456) (o := .cells #[.bool true, .int .u64 a0_1, .int .u64 a0_2] 25 (0, 0)) (zK BK456) hg (Kd.R_ne HO_3.out BK456.out (by decide))); replace HB := Aside0.mk (hb); have HO459 := Aside0.mk (ho); clear HO_3; clear ho hb hg hat))
           go_roundg k1
           case measure => have := HK1.out; omega
           case rel => exact ⟨(y457), (wrap64 (x4_1 - 1)), (by first | rfl | (simp; done) | (simp [*]; done)), H', ⟨by have := HK1.out; omega⟩, ⟨zR HO459⟩, ⟨zK BK456⟩, ⟨zB HB⟩⟩
         · rw [if_neg c9] at H
           exact absurd H (by simp)
       · rw [if_neg c7] at H
         exact absurd H (by simp)
     · rw [if_neg c5] at H
       have c5b0 : decide (0 ≤ x4_1) = false := decide_eq_false c5
       clear c5
       have H' := Aside0.mk H
       clear H
       go_wp2
       go_loopg [3, 5] k1 (fun kq v3 v5 w' => ∃ (x3_2 : List Int) (x5_2 : Int), v5 = .int .i64 x5_2 ∧ Aside0 (intrusionref06_Bytes.l1 kq x3_2 x5_2 true a0_1 a0_2 = some r) ∧ Aside0 (kq ≤ k1) ∧ Aside0 (Kd.R (Kd.int .u8) 5 w' w.heap.size (fun _ => True) v3 x3_2) ∧ Aside0 (w'.heap[gb456]? = some (.cells #[.bool true, .int .u64 a0_1, .int .u64 a0_2] 25 (0, 0))) ∧ Aside0 (Below w.heap.size w w'))
       case atStart => exact ⟨(x3_1), (7), (by first | rfl | (simp; done) | (simp [*]; done)), H', ⟨Nat.le_refl _⟩, ⟨zR HO_3⟩, ⟨zK BK456⟩, ⟨zB HB⟩⟩
       case round =>
        clear H'
        try clear c2
        try clear p2
        try clear c3
        try clear c5
        try clear c5b0
        try clear p6
        try clear c7
        try clear c7b0
        try clear c7b1
        try clear c9
        try clear hcz10_0
        try clear hcz10_1
        try clear hcz10_2
        try clear hcz4_0
        try clear hcz4_1
        try clear hcz4_2
        try clear hfz10_0
        try clear hfz10_1
        try clear hfz10_2
        try clear hfz4_0
        try clear hfz4_1
        try clear hfz4_2
        try clear p2
        obtain ⟨x3_2, x5_2, rfl, HA, HK2, HO_3, BK456, HB⟩ := hrel
        cases gk with
        | zero => exact absurd HA.out (by simp [intrusionref06_Bytes.l1])
        | succ k2 =>
         have H := HA.out
         clear HA
         simp only [intrusionref06_Bytes.l1] at H
         by_cases c12 : x5_2 ≥ 0
         · rw [if_pos c12] at H
           have c12b0 : decide (0 ≤ x5_2) = true := decide_eq_true c12
           clear c12
           obtain ⟨ji13, hji13⟩ : ∃ j_ : Int, (IntKind.u64.wrap (wrap64 (8 * x5_2))) = j_ := ⟨_, rfl⟩
           replace H : (if 0 ≤ (ji13) then (if x3_2.length < 140737488355328 then (intrusionref06_Bytes.l1 k2 (x3_2 ++ [(shr .u64 a0_2 (ji13)) % 256]) (wrap64 (x5_2 - 1)) true a0_1 a0_2) else (none)) else (none)) = some r := by first | (rw [hji13] at H; exact H) | (simp only [hji13] at H ⊢; exact H)
           by_cases c14 : 0 ≤ (ji13)
           · rw [if_pos c14] at H
             have c14b0 := eq_true c14
             have c14b1 : decide (0 ≤ (ji13)) = true := decide_eq_true c14
             clear c14
             obtain ⟨ji15, hji15⟩ : ∃ j_ : Int, (shr .u64 a0_2 (ji13)) = j_ := ⟨_, rfl⟩
             replace H : (if x3_2.length < 140737488355328 then (intrusionref06_Bytes.l1 k2 (x3_2 ++ [(ji15) % 256]) (wrap64 (x5_2 - 1)) true a0_1 a0_2) else (none)) = some r := by first | (rw [hji15] at H; exact H) | (simp only [hji15] at H ⊢; exact H)
             have hji15_ : (a0_2 / 2 ^ min (ji13).toNat 64) = ji15 := hji15
             have hji15z : (ji13) ≤ 64 → (a0_2 / 2 ^ (ji13).toNat) = ji15 := shr_small hji15
             by_cases c16 : x3_2.length < 140737488355328
             · rw [if_pos c16] at H
               have LMc16 := Aside0.mk c16
               clear c16
               obtain ⟨y460, hy460⟩ : ∃ y_ : List Int, y_ = (x3_2 ++ [(ji15) % 256]) := ⟨_, rfl⟩
               rw [← hy460] at H; try dsimp only [Option.bind_some] at H
               have Ny460 := Aside0.mk hy460
               clear hy460
               have H' := Aside0.mk H
               clear H
               obtain ⟨hcz17_0, hcz17_1, hcz17_2⟩ := zc3 BK456
               obtain ⟨hfz17_0, hfz17_1, hfz17_2⟩ := zf3 BK456
               go_wp2_with (first | ((with_reducible refine gate_builtin (b := .append) (xs := #[.tmp 27, .tmp 35]) rfl ?_); at_builtin; refine Kd.R_append (Kd.int .u8) (w0 := w) w.heap.size rfl (.tmp 27) (.tmp 35) 75 5 (.int .u8 0) 1 rfl Tryd.underlying75 info5 rfl (by decide) (by omega) u3 x3_2 ((ji15) % 256) [.int .u8 ((ji15) % 256)] (fun _ => True) (fun _ => False) rfl rfl ?aP (fun _ hk => hk.elim) ?aF ?aO ?aB ?aS ?aL ?_; (case aP => exact rfl); (case aB => exact (zB HB)); (case aF => exact (fun _ _ => trivial)); (case aO => exact (zR HO_3)); (case aS => exact (below_size (zB HB))); (case aL => have := LMc16.out; omega); intro v461 w18 ho hb hg hat; rw [← Ny460.out] at ho; replace BK456 := Aside0.mk (blk_grown (g := gb456) (o := .cells #[.bool true, .int .u64 a0_1, .int .u64 a0_2] 25 (0, 0)) (zK BK456) hg (Kd.R_ne HO_3.out BK456.out (by decide))); replace HB := Aside0.mk (hb); have HO462 := Aside0.mk (ho); clear HO_3; clear ho hb hg hat))
               go_roundg k2
               case measure => have := HK1.out; have := HK2.out; omega
               case rel => exact ⟨(y460), (wrap64 (x5_2 - 1)), (by first | rfl | (simp; done) | (simp [*]; done)), H', ⟨by have := HK1.out; have := HK2.out; omega⟩, ⟨zR HO462⟩, ⟨zK BK456⟩, ⟨zB HB⟩⟩
             · rw [if_neg c16] at H
               exact absurd H (by simp)
           · rw [if_neg c14] at H
             exact absurd H (by simp)
         · rw [if_neg c12] at H
           have c12b0 : decide (0 ≤ x5_2) = false := decide_eq_false c12
           clear c12
           obtain rfl := Option.some.inj H
           have hcv19 := own_string (P := Tryd.prog) Tryd.underlying75 Tryd.underlying5 Tryd.underlying9 (Kd.own_of_R HO_3.out)
           go_wp2
           go_ret
           exact ⟨by first | rfl | (simp [errW_none, errW_some] <;> rfl) | (simp [*, errW_none, errW_some] <;> rfl), by repeat (first | (with_reducible first | exact HB.out | apply below_alloc | apply pw_below_drewN | apply below_drew1 | refine below_set ?_ GE456.out) | exact HB.out)⟩
 · replace c2 := Bool.eq_false_iff.mpr c2
   subst c2
   rw [if_neg zF] at H
   have H' := Aside0.mk H
   clear H
   go_enter Tryd.func35, Tryd.ntmps35
   go_wp2_with (first | ((with_reducible refine gate_dst (N := 1) rfl ?_); refine zx 1 #[.bool false, .int .u64 a0_1, .int .u64 a0_2] 25 ?_; intro gb456 hg w20 hbox hb; have BK456 := Aside0.mk (hbox); have GW456 := Aside0.mk ((by rw [hg]; exact (below_size (zB HB)) : w.heap.size ≤ gb456)); have GE456 := Aside0.mk ((by rw [hg]; exact (below_size (zB HB)) : w.heap.size ≤ gb456)); replace HB := Aside0.mk (below_step (zB HB) hb); clear hb hbox hg; obtain ⟨hcz21_0, hcz21_1, hcz21_2⟩ := zc3 BK456; obtain ⟨hfz21_0, hfz21_1, hfz21_2⟩ := zf3 BK456))
   go_loopg [3, 6] k (fun kq v3 v6 w' => ∃ (x3_1 : List Int) (x6_1 : Int), v6 = .int .i64 x6_1 ∧ Aside0 (intrusionref06_Bytes.l2 kq x3_1 x6_1 false a0_1 a0_2 = some r) ∧ Aside0 (kq ≤ k) ∧ Aside0 (Kd.R (Kd.int .u8) 5 w' w.heap.size (fun _ => True) v3 x3_1) ∧ Aside0 (w'.heap[gb456]? = some (.cells #[.bool false, .int .u64 a0_1, .int .u64 a0_2] 25 (0, 0))) ∧ Aside0 (Below w.heap.size w w'))
   case atStart => exact ⟨(([] : List Int)), (3), (by first | rfl | (simp; done) | (simp [*]; done)), H', ⟨Nat.le_refl _⟩, ⟨by first | exact Kd.R_nil _ _ _ _ _ | exact Kd.N_nil _ _ _ _ _ | exact Kd.V_nil _ _ _ _ _ | exact Kd.Q_nil _ _ _ _ _ | exact Kd.S_nil _ _ _ _ _⟩, ⟨zK BK456⟩, ⟨zB HB⟩⟩
   case round =>
    clear H'
    try clear c1
    try clear hcv1
    try clear c2
    try clear p2
    try clear c3
    try clear c5
    try clear c5b0
    try clear p6
    try clear c7
    try clear c7b0
    try clear c7b1
    try clear c9
    try clear c12
    try clear c12b0
    try clear c14
    try clear c14b0
    try clear c14b1
    try clear c16
    try clear hcv19
    try clear hcz10_0
    try clear hcz10_1
    try clear hcz10_2
    try clear hcz17_0
    try clear hcz17_1
    try clear hcz17_2
    try clear hcz21_0
    try clear hcz21_1
    try clear hcz21_2
    try clear hcz4_0
    try clear hcz4_1
    try clear hcz4_2
    try clear hfz10_0
    try clear hfz10_1
    try clear hfz10_2
    try clear hfz17_0
    try clear hfz17_1
    try clear hfz17_2
    try clear hfz21_0
    try clear hfz21_1
    try clear hfz21_2
    try clear hfz4_0
    try clear hfz4_1
    try clear hfz4_2
    try clear p2
    try clear p6
    obtain ⟨x3_1, x6_1, rfl, HA, HK1, HO_3, BK456, HB⟩ := hrel
    cases gk with
    | zero => exact absurd HA.out (by simp [intrusionref06_Bytes.l2])
    | succ k1 =>
     have H := HA.out
     clear HA
     simp only [intrusionref06_Bytes.l2] at H
     by_cases c22 : x6_1 ≥ 0
     · rw [if_pos c22] at H
       have c22b0 : decide (0 ≤ x6_1) = true := decide_eq_true c22
       clear c22
       obtain ⟨ji23, hji23⟩ : ∃ j_ : Int, (IntKind.u64.wrap (wrap64 (8 * x6_1))) = j_ := ⟨_, rfl⟩
       replace H : (if 0 ≤ (ji23) then (if x3_1.length < 140737488355328 then (intrusionref06_Bytes.l2 k1 (x3_1 ++ [(shr .u64 a0_2 (ji23)) % 256]) (wrap64 (x6_1 - 1)) false a0_1 a0_2) else (none)) else (none)) = some r := by first | (rw [hji23] at H; exact H) | (simp only [hji23] at H ⊢; exact H)
       by_cases c24 : 0 ≤ (ji23)
       · rw [if_pos c24] at H
         have c24b0 := eq_true c24
         have c24b1 : decide (0 ≤ (ji23)) = true := decide_eq_true c24
         clear c24
         obtain ⟨ji25, hji25⟩ : ∃ j_ : Int, (shr .u64 a0_2 (ji23)) = j_ := ⟨_, rfl⟩
         replace H : (if x3_1.length < 140737488355328 then (intrusionref06_Bytes.l2 k1 (x3_1 ++ [(ji25) % 256]) (wrap64 (x6_1 - 1)) false a0_1 a0_2) else (none)) = some r := by first | (rw [hji25] at H; exact H) | (simp only [hji25] at H ⊢; exact H)
         have hji25_ : (a0_2 / 2 ^ min (ji23).toNat 64) = ji25 := hji25
         have hji25z : (ji23) ≤ 64 → (a0_2 / 2 ^ (ji23).toNat) = ji25 := shr_small hji25
         by_cases c26 : x3_1.length < 140737488355328
         · rw [if_pos c26] at H
           have LMc26 := Aside0.mk c26
           clear c26
           obtain ⟨y463, hy463⟩ : ∃ y_ : List Int, y_ = (x3_1 ++ [(ji25) % 256]) := ⟨_, rfl⟩
           rw [← hy463] at H; try dsimp only [Option.bind_some] at H
           have Ny463 := Aside0.mk hy463
           clear hy463
           have H' := Aside0.mk H
           clear H
           obtain ⟨hcz27_0, hcz27_1, hcz27_2⟩ := zc3 BK456
           obtain ⟨hfz27_0, hfz27_1, hfz27_2⟩ := zf3 BK456
           go_wp2_with (first | ((with_reducible refine gate_builtin (b := .append) (xs := #[.tmp 43, .tmp 51]) rfl ?_); at_builtin; refine Kd.R_append (Kd.int .u8) (w0 := w) w.heap.size rfl (.tmp 43) (.tmp 51) 75 5 (.int .u8 0) 1 rfl Tryd.underlying75 info5 rfl (by decide) (by omega) u3 x3_1 ((ji25) % 256) [.int .u8 ((ji25) % 256)] (fun _ => True) (fun _ => False) rfl rfl ?aP (fun _ hk => hk.elim) ?aF ?aO ?aB ?aS ?aL ?_; (case aP => exact rfl); (case aB => exact (zB HB)); (case aF => exact (fun _ _ => trivial)); (case aO => exact (zR HO_3)); (case aS => exact (below_size (zB HB))); (case aL => have := LMc26.out; omega); intro v464 w28 ho hb hg hat; rw [← Ny463.out] at ho; replace BK456 := Aside0.mk (blk_grown (g := gb456) (o := .cells #[.bool false, .int .u64 a0_1, .int .u64 a0_2] 25 (0, 0)) (zK BK456) hg (Kd.R_ne HO_3.out BK456.out (by decide))); replace HB := Aside0.mk (hb); have HO465 := Aside0.mk (ho); clear HO_3; clear ho hb hg hat))
           go_roundg k1
           case measure => have := HK1.out; omega
           case rel => exact ⟨(y463), (wrap64 (x6_1 - 1)), (by first | rfl | (simp; done) | (simp [*]; done)), H', ⟨by have := HK1.out; omega⟩, ⟨zR HO465⟩, ⟨zK BK456⟩, ⟨zB HB⟩⟩
         · rw [if_neg c26] at H
           exact absurd H (by simp)
       · rw [if_neg c24] at H
         exact absurd H (by simp)
     · rw [if_neg c22] at H
       have c22b0 : decide (0 ≤ x6_1) = false := decide_eq_false c22
       clear c22
       obtain rfl := Option.some.inj H
       have hcv29 := own_string (P := Tryd.prog) Tryd.underlying75 Tryd.underlying5 Tryd.underlying9 (Kd.own_of_R HO_3.out)
       go_wp2
       go_ret
       exact ⟨by first | rfl | (simp [errW_none, errW_some] <;> rfl) | (simp [*, errW_none, errW_some] <;> rfl), by repeat (first | (with_reducible first | exact HB.out | apply below_alloc | apply pw_below_drewN | apply below_drew1 | refine below_set ?_ GE456.out) | exact HB.out)⟩
end Go.Proofs.YtlgfinnldhjgeaaDoor.Q
end

section
set_option linter.unusedVariables false
set_option linter.unusedSimpArgs false
namespace Go.Proofs.YtlgfinnldhjgeaaDoor.Q
open Go.RowKit Go.Proofs.YtlgfinnldhjgeaaDoorW.PrintWords Go.Proofs.YtlgfinnldhjgeaaDoorW.PrintLast Go.Proofs.YtlgfinnldhjgeaaDoorW.PrintMore
def zEnd (l : List Int) : Nat → Nat → Nat
  | 0, k => k
  | d + 1, k => if l.getD k 0 = 0 then zEnd l d (k + 1) else k
def runF (l : List Int) : Nat → Nat → Nat × Nat → Nat × Nat
  | 0, _, b => b
  | d + 1, i, b => runF l d (i + 1) (if b.2 - b.1 < zEnd l (8 - i) i - i then (i, zEnd l (8 - i) i) else b)
theorem zEnd_le (l : List Int) : ∀ (d k : Nat), k ≤ zEnd l d k ∧ zEnd l d k ≤ k + d
  | 0, k => ⟨Nat.le_refl _, Nat.le_refl _⟩
  | d + 1, k => by
    unfold zEnd
    split
    · have := zEnd_le l d (k + 1); omega
    · omega
theorem r_sub {k i : Nat} (h1 : i ≤ k) (h2 : k ≤ 8) : wrap64 ((k : Int) - (i : Int)) = ((k - i : Nat) : Int) := by unfold wrap64; omega
theorem r_suc {k : Nat} (h2 : k ≤ 8) : wrap64 ((k : Int) + 1) = ((k + 1 : Nat) : Int) := by unfold wrap64; omega
theorem r_lt {k : Nat} (h : k < 8) : ((k : Int) < 8) = True := eq_true (by omega)
theorem r_ltd {k : Nat} (h : k < 8) : decide ((k : Int) < 8) = true := decide_eq_true (by omega)
theorem r_ge {k : Nat} (h : ¬ k < 8) : ((k : Int) < 8) = False := eq_false (by omega)
theorem r_ged {k : Nat} (h : ¬ k < 8) : decide ((k : Int) < 8) = false := decide_eq_false (by omega)
theorem r_gt {x y : Nat} (h : y < x) : decide ((x : Int) > (y : Int)) = true := decide_eq_true (by omega)
theorem r_ngt {x y : Nat} (h : ¬ y < x) : decide ((x : Int) > (y : Int)) = false := decide_eq_false (by omega)
theorem zEnd_on {l : List Int} {i k e : Nat} (h : zEnd l (8 - i) i = e) (h2 : zEnd l (8 - i) i = zEnd l (8 - k) k) (hk : k < 8) (hz : l.getD k 0 = 0) : zEnd l (8 - i) i = zEnd l (8 - (k + 1)) (k + 1) := by
  rw [h2, show 8 - k = (8 - (k + 1)) + 1 from by omega, zEnd, if_pos hz]
theorem zEnd_at {l : List Int} {i k : Nat} (h2 : zEnd l (8 - i) i = zEnd l (8 - k) k) (hk : k < 8) (hz : ¬ l.getD k 0 = 0) : zEnd l (8 - i) i = k := by
  rw [h2, show 8 - k = (8 - (k + 1)) + 1 from by omega, zEnd, if_neg hz]
theorem zEnd_8 {l : List Int} {i k : Nat} (h2 : zEnd l (8 - i) i = zEnd l (8 - k) k) (hk : ¬ k < 8) (hk8 : k ≤ 8) : zEnd l (8 - i) i = k := by
  rw [h2, show 8 - k = 0 from by omega, zEnd]
theorem runF_up {l : List Int} {i a b e : Nat} {r : Nat × Nat} (h : runF l (8 - i) i (a, b) = r) (hi : i < 8) (he : zEnd l (8 - i) i = e) (hc : b - a < e - i) : runF l (8 - (i + 1)) (i + 1) (i, e) = r := by
  rw [show 8 - i = (8 - (i + 1)) + 1 from by omega, runF] at h
  rw [he] at h
  simpa [hc] using h
theorem runF_stay {l : List Int} {i a b e : Nat} {r : Nat × Nat} (h : runF l (8 - i) i (a, b) = r) (hi : i < 8) (he : zEnd l (8 - i) i = e) (hc : ¬ b - a < e - i) : runF l (8 - (i + 1)) (i + 1) (a, b) = r := by
  rw [show 8 - i = (8 - (i + 1)) + 1 from by omega, runF] at h
  rw [he] at h
  simpa [hc] using h
theorem runF_8 {l : List Int} {i a b : Nat} {r : Nat × Nat} (h : runF l (8 - i) i (a, b) = r) (hi : ¬ i < 8) : a = r.1 ∧ b = r.2 := by
  rw [show 8 - i = 0 from by omega, runF] at h
  subst h
  exact ⟨rfl, rfl⟩
structure RunI (l : List Int) (gg i a b : Nat) (r : Nat × Nat) : Prop where
  m : 8 - i ≤ gg
  i8 : i ≤ 8
  ab : a ≤ b
  b8 : b ≤ 8
  res : runF l (8 - i) i (a, b) = r
structure RunK (l : List Int) (gg i k : Nat) : Prop where
  m : 8 - k ≤ gg
  ik : i ≤ k
  k8 : k ≤ 8
  e : zEnd l (8 - i) i = zEnd l (8 - k) k
theorem RunK.next {l : List Int} {gg i k : Nat} (h : RunK l gg i k) (hk : k < 8) (hz : l.getD k 0 = 0) : RunK l (8 - (k + 1)) i (k + 1) := ⟨by omega, by have := h.ik; omega, by omega, zEnd_on rfl h.e hk hz⟩
theorem RunK.less {l : List Int} {gg i k : Nat} (h : RunK l gg i k) (hk : k < 8) : 8 - (k + 1) < gg := by have := h.m; omega
theorem RunI.less {l : List Int} {gg i a b : Nat} {r : Nat × Nat} (h : RunI l gg i a b r) (hk : i < 8) : 8 - (i + 1) < gg := by have := h.m; omega
theorem RunI.up {l : List Int} {gg i a b e : Nat} {r : Nat × Nat} (h : RunI l gg i a b r) (hi : i < 8) (he : zEnd l (8 - i) i = e) (hie : i ≤ e) (he8 : e ≤ 8) (hc : b - a < e - i) : RunI l (8 - (i + 1)) (i + 1) i e r := ⟨by omega, by omega, hie, he8, runF_up h.res hi he hc⟩
theorem RunI.stay {l : List Int} {gg i a b e : Nat} {r : Nat × Nat} (h : RunI l gg i a b r) (hi : i < 8) (he : zEnd l (8 - i) i = e) (hc : ¬ b - a < e - i) : RunI l (8 - (i + 1)) (i + 1) a b r := ⟨by omega, by omega, h.ab, h.b8, runF_stay h.res hi he hc⟩
set_option maxHeartbeats 4000000 in
set_option maxRecDepth 100000 in
theorem address_run.calls (l0 l1 l2 l3 l4 l5 l6 l7 : Int) (w : World) :
    Calls Tryd.prog 56 #[.agg #[.int .u64 l0, .int .u64 l1, .int .u64 l2, .int .u64 l3, .int .u64 l4, .int .u64 l5, .int .u64 l6, .int .u64 l7]] w fun e w' => e = .returned (.tuple #[.int .i64 ((runF [l0, l1, l2, l3, l4, l5, l6, l7] 8 0 (0, 0)).1 : Nat), .int .i64 ((runF [l0, l1, l2, l3, l4, l5, l6, l7] 8 0 (0, 0)).2 : Nat)]) ∧ Below w.heap.size w w' := by
  obtain ⟨l, hl⟩ : ∃ l, l = [l0, l1, l2, l3, l4, l5, l6, l7] := ⟨_, rfl⟩
  rw [← hl]
  obtain ⟨res, hres⟩ : ∃ res, runF l 8 0 (0, 0) = res := ⟨_, rfl⟩
  have H0 : Aside0 (RunI l 8 0 0 0 res) := ⟨⟨by omega, by omega, by omega, by omega, hres⟩⟩
  rw [hres]
  clear hres
  have hu := Tryd.underlying68
  have hX : (w.alloc (.cells #[.int .u64 l0, .int .u64 l1, .int .u64 l2, .int .u64 l3, .int .u64 l4, .int .u64 l5, .int .u64 l6, .int .u64 l7] 68)).heap[w.heap.size]? = some (.cells #[.int .u64 l0, .int .u64 l1, .int .u64 l2, .int .u64 l3, .int .u64 l4, .int .u64 l5, .int .u64 l6, .int .u64 l7] 68 (0, 0)) := heap_alloc_new _ _
  have HX : Aside0 (∀ k : Nat, k < 8 → (w.alloc (.cells #[.int .u64 l0, .int .u64 l1, .int .u64 l2, .int .u64 l3, .int .u64 l4, .int .u64 l5, .int .u64 l6, .int .u64 l7] 68)).cell? ⟨w.heap.size, k, none⟩ = some (.int .u64 (l.getD k 0))) := ⟨fun k hk => by
    unfold World.cell?
    simp only [hX]
    rcases k with _ | _ | _ | _ | _ | _ | _ | _ | k <;> first | omega | (subst hl; rfl)⟩
  clear hX hl
  have HB : Aside0 (Below w.heap.size w (w.alloc (.cells #[.int .u64 l0, .int .u64 l1, .int .u64 l2, .int .u64 l3, .int .u64 l4, .int .u64 l5, .int .u64 l6, .int .u64 l7] 68))) := ⟨below_alloc (Below.refl _ _) _⟩
  go_enter Tryd.func56, Tryd.ntmps56
  go_upto_region 1 with (fail)
  obtain ⟨g, hg⟩ : ∃ g, w.heap.size = g := ⟨_, rfl⟩
  rw [hg] at HX
  simp only [hg]
  clear hg
  generalize w.alloc (.cells #[.int .u64 l0, .int .u64 l1, .int .u64 l2, .int .u64 l3, .int .u64 l4, .int .u64 l5, .int .u64 l6, .int .u64 l7] 68) = W at HX HB ⊢
  skip
  go_wp2_with fail
  go_loopg [2, 3, 6] 8 (fun gg v2 v3 v6 wr => ∃ (i a b : Nat), v2 = .int .i64 (a : Int) ∧ v3 = .int .i64 (b : Int) ∧ v6 = .int .i64 (i : Int) ∧ Aside0 (RunI l gg i a b res) ∧ wr = W)
  case atStart => exact ⟨0, 0, 0, rfl, rfl, rfl, H0, rfl⟩
  case round =>
    obtain ⟨i, a, b, rfl, rfl, rfl, HI, hwr⟩ := hrel
    rw [hwr]
    clear hwr
    clear H0
    by_cases hi8 : i < 8
    · have hlt := r_lt hi8
      have hlt2 := r_ltd hi8
      have HI8 := Aside0.mk hi8
      clear hi8
      go_wp2_with fail
      go_loopg [5] 8 (fun gg v5 wr => ∃ (k : Nat), v5 = .int .i64 (k : Int) ∧ Aside0 (RunK l gg i k) ∧ wr = W)
      case atStart => exact ⟨i, rfl, ⟨⟨by omega, Nat.le_refl _, HI.out.i8, rfl⟩⟩, rfl⟩
      case round =>
        clear hlt hlt2
        obtain ⟨k, rfl, HK, hwr2⟩ := hrel
        rw [hwr2]
        clear hwr2
        by_cases hk : k < 8
        · have hlk := r_lt hk
          have hlk2 := r_ltd hk
          have hc : W.cell? ⟨g, k, none⟩ = some (.int .u64 (l.getD k 0)) := HX.out k hk
          by_cases hz : l.getD k 0 = 0
          · rw [hz] at hc
            have HF : Aside0 (RunK l (8 - (k + 1)) i (k + 1)) := ⟨HK.out.next hk hz⟩
            have HL := Aside0.mk (HK.out.less hk)
            have HS : Aside0 (wrap64 ((k : Int) + 1) = ((k + 1 : Nat) : Int)) := ⟨r_suc HK.out.k8⟩
            clear hk hz HK
            go_upto_region 6 with (fail)
            clear hlk hlk2 hc
            go_wp2_with fail
            go_roundg (8 - (k + 1))
            case measure => exact HL.out
            case rel => exact ⟨k + 1, by rw [HS.out], HF, rfl⟩
          · have HZ : Aside0 (zEnd l (8 - i) i = k) := ⟨zEnd_at HK.out.e hk hz⟩
            have hz1 : (l.getD k 0 == 0) = false := by simpa using hz
            have hz2 : decide (l.getD k 0 = 0) = false := by simpa using hz
            have HIK : Aside0 (i ≤ k) := ⟨HK.out.ik⟩
            have HK8 : Aside0 (k ≤ 8) := ⟨HK.out.k8⟩
            clear hk hz HK
            generalize l.getD k 0 = z at hc hz1 hz2
            go_upto_region 7 with (fail)
            clear hlk hlk2 hc hz1 hz2
            by_cases hcmp : b - a < k - i
            · have hcmp1 : decide (wrap64 ((k : Int) - (i : Int)) > wrap64 ((b : Int) - (a : Int))) = true := by rw [r_sub HIK.out HK8.out, r_sub HI.out.ab HI.out.b8]; exact r_gt hcmp
              have hcmp2 : (wrap64 ((k : Int) - (i : Int)) > wrap64 ((b : Int) - (a : Int))) = True := eq_true (of_decide_eq_true hcmp1)
              have HN : Aside0 (RunI l (8 - (i + 1)) (i + 1) i k res) := ⟨HI.out.up HI8.out HZ.out HIK.out HK8.out hcmp⟩
              have HL := Aside0.mk (HI.out.less HI8.out)
              have HS : Aside0 (wrap64 ((i : Int) + 1) = ((i + 1 : Nat) : Int)) := ⟨r_suc HI.out.i8⟩
              clear hcmp
              go_wp2_with fail
              go_roundg (8 - (i + 1))
              case measure => exact HL.out
              case rel => exact ⟨i + 1, i, k, rfl, rfl, by rw [HS.out], HN, rfl⟩
            · have hcmp1 : decide (wrap64 ((k : Int) - (i : Int)) > wrap64 ((b : Int) - (a : Int))) = false := by rw [r_sub HIK.out HK8.out, r_sub HI.out.ab HI.out.b8]; exact r_ngt hcmp
              have hcmp2 : (wrap64 ((k : Int) - (i : Int)) > wrap64 ((b : Int) - (a : Int))) = False := eq_false (of_decide_eq_false hcmp1)
              have HN : Aside0 (RunI l (8 - (i + 1)) (i + 1) a b res) := ⟨HI.out.stay HI8.out HZ.out hcmp⟩
              have HL := Aside0.mk (HI.out.less HI8.out)
              have HS : Aside0 (wrap64 ((i : Int) + 1) = ((i + 1 : Nat) : Int)) := ⟨r_suc HI.out.i8⟩
              clear hcmp
              go_wp2_with fail
              go_roundg (8 - (i + 1))
              case measure => exact HL.out
              case rel => exact ⟨i + 1, a, b, rfl, rfl, by rw [HS.out], HN, rfl⟩
        · have HZ : Aside0 (zEnd l (8 - i) i = k) := ⟨zEnd_8 HK.out.e hk HK.out.k8⟩
          have hlk := r_ge hk
          have hlk2 := r_ged hk
          have HIK : Aside0 (i ≤ k) := ⟨HK.out.ik⟩
          have HK8 : Aside0 (k ≤ 8) := ⟨HK.out.k8⟩
          clear hk HK
          go_upto_region 7 with (fail)
          clear hlk hlk2
          by_cases hcmp : b - a < k - i
          · have hcmp1 : decide (wrap64 ((k : Int) - (i : Int)) > wrap64 ((b : Int) - (a : Int))) = true := by rw [r_sub HIK.out HK8.out, r_sub HI.out.ab HI.out.b8]; exact r_gt hcmp
            have hcmp2 : (wrap64 ((k : Int) - (i : Int)) > wrap64 ((b : Int) - (a : Int))) = True := eq_true (of_decide_eq_true hcmp1)
            have HN : Aside0 (RunI l (8 - (i + 1)) (i + 1) i k res) := ⟨HI.out.up HI8.out HZ.out HIK.out HK8.out hcmp⟩
            have HL := Aside0.mk (HI.out.less HI8.out)
            have HS : Aside0 (wrap64 ((i : Int) + 1) = ((i + 1 : Nat) : Int)) := ⟨r_suc HI.out.i8⟩
            clear hcmp
            go_wp2_with fail
            go_roundg (8 - (i + 1))
            case measure => exact HL.out
            case rel => exact ⟨i + 1, i, k, rfl, rfl, by rw [HS.out], HN, rfl⟩
          · have hcmp1 : decide (wrap64 ((k : Int) - (i : Int)) > wrap64 ((b : Int) - (a : Int))) = false := by rw [r_sub HIK.out HK8.out, r_sub HI.out.ab HI.out.b8]; exact r_ngt hcmp
            have hcmp2 : (wrap64 ((k : Int) - (i : Int)) > wrap64 ((b : Int) - (a : Int))) = False := eq_false (of_decide_eq_false hcmp1)
            have HN : Aside0 (RunI l (8 - (i + 1)) (i + 1) a b res) := ⟨HI.out.stay HI8.out HZ.out hcmp⟩
            have HL := Aside0.mk (HI.out.less HI8.out)
            have HS : Aside0 (wrap64 ((i : Int) + 1) = ((i + 1 : Nat) : Int)) := ⟨r_suc HI.out.i8⟩
            clear hcmp
            go_wp2_with fail
            go_roundg (8 - (i + 1))
            case measure => exact HL.out
            case rel => exact ⟨i + 1, a, b, rfl, rfl, by rw [HS.out], HN, rfl⟩
    · have HR := Aside0.mk (runF_8 HI.out.res hi8)
      have hlt := r_ge hi8
      have hlt2 := r_ged hi8
      clear hi8
      obtain ⟨he1, he2⟩ := HR.out
      subst he1 he2
      clear HR
      go_wp2_with fail
      exact bodyPost_ret (v := .tuple #[.int .i64 (res.1 : Int), .int .i64 (res.2 : Int)]) (by simp [results, Tryd.results56, go_sem]) rfl ⟨rfl, HB.out⟩
end Go.Proofs.YtlgfinnldhjgeaaDoor.Q
end

section
set_option linter.unusedVariables false
set_option linter.unusedSimpArgs false
namespace Go.Proofs.YtlgfinnldhjgeaaDoor.Q
open Go.RowKit Go.Proofs.YtlgfinnldhjgeaaDoorW.PrintWords Go.Proofs.YtlgfinnldhjgeaaDoorW.PrintLast Go.Proofs.YtlgfinnldhjgeaaDoorW.PrintMore
def hexD (n : Nat) : UInt8 := [48, 49, 50, 51, 52, 53, 54, 55, 56, 57, 97, 98, 99, 100, 101, 102].getD n 0
def hexL : Nat → Nat → List UInt8
  | 0, _ => []
  | k + 1, n => if n < 16 then [hexD n] else hexL k (n / 16) ++ [hexD (n % 16)]
theorem pow2_16 (w : World) : Calls Tryd.prog 100 #[.int .i64 16] w fun e w' => e = .returned (.bool true) ∧ Below w.heap.size w w' := by
  go_enter Tryd.func100, Tryd.ntmps100
  go_wp2
  go_ret
  exact ⟨rfl, by repeat (first | (with_reducible apply below_alloc) | (with_reducible apply pw_below_drewN) | (with_reducible apply below_drew1) | exact Below.refl _ _)⟩
theorem tz16 (w : World) (hW : WOK w) : Calls Tryd.prog 101 #[.int .u64 16] w fun e w' => e = .returned (.int .i64 4) ∧ Below w.heap.size w w' := by
  have h := Tryd.bits_TrailingZeros 16 (by decide) w (fun _ => hW.bit)
  rw [show Lib.ctz 64 16 = 4 from by decide] at h
  refine h.mono ?_
  rintro e w' ⟨rfl, rfl⟩
  exact ⟨rfl, Below.refl _ _⟩
theorem bits_and15 (x : Nat) (hx : x < 18446744073709551616) : Go.bits .and .u64 (x : Int) 15 = ((x % 16 : Nat) : Int) := by
  have e : ∀ y : Nat, y < 18446744073709551616 → (BitVec.ofInt 64 (y : Int)).toNat = y := fun y hy => by rw [BitVec.toNat_ofInt]; simp; omega
  unfold Go.bits
  show IntKind.u64.wrap ((((BitVec.ofInt 64 (x : Int)) &&& (BitVec.ofInt 64 ((15 : Nat) : Int))).toNat : Nat) : Int) = _
  rw [BitVec.toNat_and, e x hx, e 15 (by decide), show (15 : Nat) = 2 ^ 4 - 1 from rfl, Nat.and_two_pow_sub_one_eq_mod]
  exact IntWalk.u64_in _ ⟨by omega, by have := Nat.mod_lt x (show 0 < 2 ^ 4 by decide); omega⟩
structure HexAt (w0 : World) (g : Nat) (n0 : Nat) (wr : World) (i u : Nat) : Prop where
  arr : ∃ cs : Array Value, wr.heap[g]? = some (.cells cs 114 (0, 0)) ∧ cs.size = 65 ∧ ∃ ds : List UInt8, cs.toList.drop i = ds.map (fun d => Value.int .u8 d.toNat) ∧ ds.length = 65 - i ∧ hexL 4 n0 = hexL (i - 61) u ++ ds
  lo : 62 ≤ i
  hi : i ≤ 65
  small : u < 16 ^ (i - 61)
  bel : Below w0.heap.size w0 wr
theorem drop_set_self {l : List Value} {j : Nat} (hj : j < l.length) (v : Value) : (l.set j v).drop j = v :: l.drop (j + 1) := by
  rw [List.drop_eq_getElem_cons (by simpa using hj), List.getElem_set_self, List.drop_set_of_lt (by omega)]
theorem HexAt.put {w0 wr : World} {g n0 j n : Nat} (h : HexAt w0 g n0 wr (j + 1) n) (hn : 16 ≤ n) (hg : w0.heap.size ≤ g) (dv : UInt8) (hd : dv = hexD (n % 16)) : HexAt w0 g n0 (wr.setCell ⟨g, j, none⟩ (.int .u8 dv.toNat)) j (n / 16) := by
  obtain ⟨⟨cs, hx, hs, ds, hd1, hd2, hd3⟩, hlo, hhi, hsm, hbl⟩ := h
  have hj : 62 ≤ j := by
    rcases Nat.lt_or_ge j 62 with h | h
    · rw [show j + 1 - 61 = 1 from by omega] at hsm; omega
    · exact h
  have hk : j + 1 - 61 = (j - 61) + 1 := by omega
  rw [hk] at hsm hd3
  refine ⟨⟨_, blk_set hx j _, by simpa using hs, dv :: ds, ?_, by simp; omega, ?_⟩, hj, by omega, ?_, hbl.setCell hg _⟩
  · rw [Array.toList_setIfInBounds, drop_set_self (by simpa using by omega), hd1]
    rfl
  · rw [hd3, hexL, if_neg (by omega), hd, List.append_assoc]
    rfl
  · rw [Nat.pow_succ] at hsm
    exact Nat.div_lt_of_lt_mul (by rw [Nat.mul_comm]; exact hsm)
theorem HexAt.last {w0 wr : World} {g n0 j n : Nat} (h : HexAt w0 g n0 wr (j + 1) n) (hn : n < 16) (hg : w0.heap.size ≤ g) (dv : UInt8) (hd : dv = hexD n) :
    Below w0.heap.size w0 (wr.setCell ⟨g, j, none⟩ (.int .u8 dv.toNat)) ∧ ∃ cs : Array Value, (wr.setCell ⟨g, j, none⟩ (.int .u8 dv.toNat)).heap[g]? = some (.cells cs 114 (0, 0)) ∧ cs.size = 65 ∧ cs.toList.drop j = (hexL 4 n0).map (fun d => Value.int .u8 d.toNat) := by
  obtain ⟨⟨cs, hx, hs, ds, hd1, hd2, hd3⟩, hlo, hhi, hsm, hbl⟩ := h
  refine ⟨hbl.setCell hg _, _, blk_set hx j _, by simpa using hs, ?_⟩
  rw [Array.toList_setIfInBounds, drop_set_self (by simpa using by omega), hd1, hd3, show j + 1 - 61 = (j - 61) + 1 from by omega, hexL, if_pos hn, hd]
  rfl
theorem digit_ix : ∀ d : Nat, d < 16 → ∀ h, (⟨#[48, 49, 50, 51, 52, 53, 54, 55, 56, 57, 97, 98, 99, 100, 101, 102, 103, 104, 105, 106, 107, 108, 109, 110, 111, 112, 113, 114, 115, 116, 117, 118, 119, 120, 121, 122]⟩ : ByteArray)[d]'h = hexD d := by decide
theorem digit_at (n : Nat) (h : (Go.bits .and .u64 (n : Int) 15).toNat < (⟨#[48, 49, 50, 51, 52, 53, 54, 55, 56, 57, 97, 98, 99, 100, 101, 102, 103, 104, 105, 106, 107, 108, 109, 110, 111, 112, 113, 114, 115, 116, 117, 118, 119, 120, 121, 122]⟩ : ByteArray).size) (hb : Go.bits .and .u64 (n : Int) 15 = ((n % 16 : Nat) : Int)) :
    (⟨#[48, 49, 50, 51, 52, 53, 54, 55, 56, 57, 97, 98, 99, 100, 101, 102, 103, 104, 105, 106, 107, 108, 109, 110, 111, 112, 113, 114, 115, 116, 117, 118, 119, 120, 121, 122]⟩ : ByteArray)[(Go.bits .and .u64 (n : Int) 15).toNat]'h = hexD (n % 16) := by
  have e : (Go.bits .and .u64 (n : Int) 15).toNat = n % 16 := by rw [hb]; exact Int.toNat_natCast _
  have hlt : n % 16 < 16 := Nat.mod_lt _ (by decide)
  have key : ∀ m (hm : m < (⟨#[48, 49, 50, 51, 52, 53, 54, 55, 56, 57, 97, 98, 99, 100, 101, 102, 103, 104, 105, 106, 107, 108, 109, 110, 111, 112, 113, 114, 115, 116, 117, 118, 119, 120, 121, 122]⟩ : ByteArray).size), m = n % 16 → (⟨#[48, 49, 50, 51, 52, 53, 54, 55, 56, 57, 97, 98, 99, 100, 101, 102, 103, 104, 105, 106, 107, 108, 109, 110, 111, 112, 113, 114, 115, 116, 117, 118, 119, 120, 121, 122]⟩ : ByteArray)[m]'hm = hexD (n % 16) := fun m hm e2 => by subst e2; exact digit_ix _ hlt _
  exact key _ h e
theorem hex_slice (ga j : Nat) (hj : j < 65) (h0 : 0 < j) : ∀ W, (Instr.sliceAt 114 (.pointer (some ⟨ga, 0, none⟩)) (some (.int .i64 (j : Int))) none none).run Tryd.prog W = .ok (.slice (some ⟨ga, j, none⟩) (65 - j) (65 - j)) W := fun W => by
  have hal : Tryd.prog.arrayLen 114 = 65 := by kernel_rfl
  rw [run_sliceAt_array_l W 114 ⟨ga, 0, none⟩ (by kernel_rfl) .i64 (j : Int) (by omega) (by rw [hal]; omega), hal]
  go_simp
  omega
theorem hex_string {W : World} {ga j : Nat} {cs : Array Value} {l : List UInt8} (hx : W.heap[ga]? = some (.cells cs 114 (0, 0))) (hs : cs.size = 65) (hd : cs.toList.drop j = l.map (fun d => Value.int .u8 d.toNat)) (hj : j < 65) :
    (convert 75 9 (.slice (some ⟨ga, j, none⟩) (65 - j) (65 - j))).run Tryd.prog W = .ok (.string ⟨l.toArray⟩) W := by
  have hlen : l.length = 65 - j := by
    have := congrArg List.length hd
    simp only [List.length_drop, List.length_map, Array.length_toList] at this
    omega
  have hr : ReadsInt W .u8 (some ⟨ga, j, none⟩) (65 - j) (l.map (fun d => (d.toNat : Int))) := by
    refine ⟨by simp [hlen], by omega, fun _ => ⟨_, rfl, fun i hi => ?_⟩⟩
    have e : (⟨ga, j, none⟩ : Addr).add i = ⟨ga, j + i, none⟩ := by
      unfold Addr.add
      by_cases h0 : i = 0
      · rw [if_pos h0, h0]; rfl
      · rw [if_neg h0]
    rw [e]
    unfold World.cell?
    simp only [hx]
    have h2 := congrArg (fun q => q[i]?) hd
    simp only [List.getElem?_drop, List.getElem?_map] at h2
    rw [List.getElem?_eq_getElem (show i < l.length from by omega)] at h2
    simp only [Option.isSome_none, Bool.false_eq_true, if_false]
    rw [← Array.getElem?_toList, h2]
    simp [List.getElem?_eq_getElem (show i < l.length from by omega)]
  have := string_of_reads (P := Tryd.prog) (src := 75) (dst := 9) (e := 5) (c := 65 - j) (by kernel_rfl) (by kernel_rfl) (by kernel_rfl) hr
  have e : strOfNums (l.map (fun d => (d.toNat : Int))) = ⟨l.toArray⟩ := by
    have h2 : ∀ l : List UInt8, (l.map (fun d => (d.toNat : Int))).map (fun n => UInt8.ofNat n.toNat) = l := fun l => by
      induction l with
      | nil => rfl
      | cons a t ih => simp only [List.map_cons, ih, Int.toNat_natCast, UInt8.ofNat_toNat]
    unfold strOfNums
    rw [h2]
  rw [this, e]
set_option maxHeartbeats 4000000 in
set_option maxRecDepth 100000 in
theorem formatBits16 (u : Nat) (hu : u < 65536) (w : World) (hW : WOK w) : Calls Tryd.prog 87 #[.slice none 0 0, .int .u64 (u : Int), .int .i64 16, .bool false, .bool false] w fun e w' => e = .returned (.tuple #[.slice none 0 0, .string ⟨(hexL 4 u).toArray⟩]) ∧ Below w.heap.size w w' := by
  have HW := Aside0.mk hW
  clear hW
  go_enter Tryd.func87, Tryd.ntmps87
  go_wp2_with fail
  refine (pow2_16 _).mono ?_
  rintro e w2 ⟨rfl, hb⟩
  have hX := blk_below (heap_alloc_new w (.cells Tryd.zeroCells114 114)) hb
  have hB := (below_alloc (Below.refl w.heap.size w) (.cells Tryd.zeroCells114 114)).trans (hb.mono (by simp))
  have HX := Aside0.mk hX
  have HB := Aside0.mk hB
  have hG : w.heap.size ≤ w.heap.size := Nat.le_refl _
  revert HX hG
  clear hb hX hB
  generalize hga : w.heap.size = ga
  intro HX hG
  have HG : Aside0 (w.heap.size ≤ ga) := ⟨by omega⟩
  clear hG
  go_wp2_with fail
  refine (tz16 _ (HW.out.below (hga ▸ HB.out))).mono ?_
  rintro e w3 ⟨rfl, hb⟩
  have HX3 := Aside0.mk (blk_below HX.out hb)
  have HB3 := Aside0.mk (HB.out.trans (hb.mono (HB.out.size)))
  clear hb HX HB
  clear hga
  have H0 : Aside0 (HexAt w ga u w3 65 u) := ⟨⟨⟨_, HX3.out, by rfl, [], by rfl, rfl, by simp⟩, by omega, by omega, by simpa using hu, HB3.out⟩⟩
  clear HX3 HB3
  go_wp2_with fail
  go_loopg [1, 13] 65 (fun gg v1 v13 wr => ∃ (i n : Nat), i ≤ gg ∧ v1 = .int .u64 (n : Int) ∧ v13 = .int .i64 (i : Int) ∧ Aside0 (HexAt w ga u wr i n))
  case atStart => exact ⟨65, u, by omega, rfl, rfl, H0⟩
  case round =>
    obtain ⟨i, n, hig, rfl, rfl, HA⟩ := hrel
    clear H0
    by_cases hn : 16 ≤ n
    · have hn1 : ((n : Int) ≥ 16) = True := eq_true (by omega)
      have hn2 : decide ((n : Int) ≥ 16) = true := decide_eq_true (by omega)
      have hA := HA.out
      obtain ⟨⟨cs, hx, hs, ds, hd1, hd2, hd3⟩, hlo, hhi, hsm, hbl⟩ := hA
      have hi2 : 63 ≤ i := by
        rcases Nat.lt_or_ge i 63 with h | h
        · rw [show i - 61 = 1 from by omega] at hsm; omega
        · exact h
      obtain ⟨j, rfl⟩ : ∃ j, i = j + 1 := ⟨i - 1, by omega⟩
      have hw1 : wrap64 (j : Int) = (j : Int) := by unfold wrap64; omega
      have hw0 : ((j + 1 : Nat) : Int) - 1 = (j : Int) := by omega
      have hq0 : Go.bits .and .u64 (n : Int) 15 = ((n % 16 : Nat) : Int) := bits_and15 n (by
        have : 16 ^ (j + 1 - 61) ≤ 16 ^ 4 := Nat.pow_le_pow_right (by decide) (by omega)
        omega)
      have hq1 : (0 ≤ Go.bits .and .u64 (n : Int) 15 ∧ Go.bits .and .u64 (n : Int) 15 < 36) = True := eq_true (by rw [hq0]; omega)
      have hj1 : ((j : Int) < 65) = True := eq_true (by omega)
      have hc1 : ∃ old, wr.cell? ⟨ga, j, none⟩ = some old := by
        unfold World.cell?
        simp only [hx]
        exact ⟨_, Array.getElem?_eq_getElem (show j < cs.size from by omega)⟩
      obtain ⟨old, hc⟩ := hc1
      have hf : wr.frozen? ⟨ga, j, none⟩ = false := by
        unfold World.frozen?
        simp only [hx]
        simp
      clear hx hs hd1 hd2 hd3 hsm hbl
      have HQ0 := Aside0.mk hq0
      clear hq0
      go_wp2_with fail
      go_roundg j
      case measure => omega
      case rel => exact ⟨j, n / 16, Nat.le_refl _, by simp, rfl, ⟨HA.out.put hn HG.out _ (digit_at n _ HQ0.out)⟩⟩
    · have hA := HA.out
      obtain ⟨⟨cs, hx, hs, ds, hd1, hd2, hd3⟩, hlo, hhi, hsm, hbl⟩ := hA
      obtain ⟨j, rfl⟩ : ∃ j, i = j + 1 := ⟨i - 1, by omega⟩
      have hn1 : ((n : Int) ≥ 16) = False := eq_false (by omega)
      have hn2 : decide ((n : Int) ≥ 16) = false := decide_eq_false (by omega)
      have hw1 : wrap64 (j : Int) = (j : Int) := by unfold wrap64; omega
      have hw0 : ((j + 1 : Nat) : Int) - 1 = (j : Int) := by omega
      have hn36 : ((n : Int) < 36) = True := eq_true (by omega)
      have hj1 : ((j : Int) < 65) = True := eq_true (by omega)
      have hc1 : ∃ old, wr.cell? ⟨ga, j, none⟩ = some old := by
        unfold World.cell?
        simp only [hx]
        exact ⟨_, Array.getElem?_eq_getElem (show j < cs.size from by omega)⟩
      obtain ⟨old, hc⟩ := hc1
      have hf : wr.frozen? ⟨ga, j, none⟩ = false := by
        unfold World.frozen?
        simp only [hx]
        simp
      have HJ : Aside0 (62 ≤ j + 1 ∧ j + 1 ≤ 65) := ⟨hlo, hhi⟩
      clear hx hs hd1 hd2 hd3 hsm hbl
      go_upto_region 30 with (fail)
      have hD : ∀ h, (⟨#[48, 49, 50, 51, 52, 53, 54, 55, 56, 57, 97, 98, 99, 100, 101, 102, 103, 104, 105, 106, 107, 108, 109, 110, 111, 112, 113, 114, 115, 116, 117, 118, 119, 120, 121, 122]⟩ : ByteArray)[n]'h = hexD n := fun h => digit_ix n (by omega) h
      have hl := HA.out.last (by omega) HG.out (hexD n) rfl
      simp only [hD]
      obtain ⟨hb, cs, hx, hs, hd⟩ := hl
      have hj2 := HJ.out
      have hsl := hex_slice ga j (by omega) (by omega)
      have hst := hex_string hx hs hd (by omega)
      have HB := Aside0.mk hb
      clear hx hs hd hb hc hf HA hD
      generalize wr.setCell ⟨ga, j, none⟩ (.int .u8 (hexD n).toNat) = W at hst HB ⊢
      go_wp2_with fail
      exact bodyPost_ret (v := .tuple #[.slice none 0 0, .string ⟨(hexL 4 u).toArray⟩]) (by simp [results, Tryd.results87, go_sem]) rfl ⟨rfl, HB.out⟩
set_option maxHeartbeats 1000000 in
theorem formatUint16 (u : Nat) (hu : u < 65536) (w : World) (hW : WOK w) : Calls Tryd.prog 76 #[.int .u64 (u : Int), .int .i64 16] w fun e w' => e = .returned (.string ⟨(hexL 4 u).toArray⟩) ∧ Below w.heap.size w w' := by
  go_enter Tryd.func76, Tryd.ntmps76
  go_wp2_with fail
  refine (formatBits16 u hu _ (hW.below (by repeat (first | (with_reducible apply below_alloc) | (with_reducible apply pw_below_drewN) | (with_reducible apply below_drew1) | exact Below.refl _ _)))).mono ?_
  rintro e w2 ⟨rfl, hb⟩
  have HB := Aside0.mk hb
  clear hb
  go_wp2_with fail
  go_ret
  exact ⟨rfl, by first | exact HB.out | exact (below_alloc (Below.refl _ _) _).trans (HB.out.mono (by simp))⟩
set_option maxHeartbeats 1000000 in
theorem formatUint16p (u : Nat) (hu : u < 65536) (w : World) (hW : WOK w) : Calls Tryd.prog 58 #[.int .u64 (u : Int), .int .i64 16] w fun e w' => e = .returned (.string ⟨(hexL 4 u).toArray⟩) ∧ Below w.heap.size w w' := by
  go_enter Tryd.func58, Tryd.ntmps58
  go_wp2_with fail
  refine (formatUint16 u hu _ (hW.below (by repeat (first | (with_reducible apply below_alloc) | (with_reducible apply pw_below_drewN) | (with_reducible apply below_drew1) | exact Below.refl _ _)))).mono ?_
  rintro e w2 ⟨rfl, hb⟩
  have HB := Aside0.mk hb
  clear hb
  go_wp2_with fail
  go_ret
  exact ⟨rfl, by first | exact HB.out | exact (below_alloc (Below.refl _ _) _).trans (HB.out.mono (by simp))⟩
def strconv_FormatUint.f (i : Int) (base : Int) : Option ByteArray := if base = 16 then if 0 ≤ i ∧ i < 65536 then some ⟨(hexL 4 i.toNat).toArray⟩ else none else none
theorem strconv_FormatUint.calls (i base : Int) (r : ByteArray) (w : World) (h : strconv_FormatUint.f i base = some r) (hW : WOK w) :
    Calls Tryd.prog 58 #[.int .u64 i, .int .i64 base] w fun e w' => e = .returned (.string r) ∧ Below w.heap.size w w' := by
  unfold strconv_FormatUint.f at h
  split at h
  case isFalse => cases h
  rename_i hb
  subst hb
  split at h
  case isFalse => cases h
  rename_i hi
  injection h with h
  subst h
  have := formatUint16p i.toNat (by omega) w hW
  rw [show ((i.toNat : Nat) : Int) = i from by omega] at this
  exact this
end Go.Proofs.YtlgfinnldhjgeaaDoor.Q
end

section
set_option linter.unusedVariables false
set_option linter.unusedSimpArgs false
namespace Go.Proofs.YtlgfinnldhjgeaaDoor.Q
open Go.RowKit Go.Proofs.YtlgfinnldhjgeaaDoorW.PrintWords Go.Proofs.YtlgfinnldhjgeaaDoorW.PrintLast Go.Proofs.YtlgfinnldhjgeaaDoorW.PrintMore
theorem blk_apart {α : Type} {d : Kd α} {W w1 : World} {g base : Nat} {cs : Array Value} {t e : TypeId} {ok : Nat → Prop} {v : Value} {xs : List α} (hX : W.heap[g]? = some (.cells cs t (0, 0))) (ht : t ≠ e) (hR : d.R e W base ok v xs) (hg : W.grownBy w1 v.ownBlock) : w1.heap[g]? = some (.cells cs t (0, 0)) :=
  blk_grown hX hg (fun h => by
    obtain ⟨c, hc⟩ := Kd.R_typed hR g h.symm
    rw [hX] at hc
    injection hc with hc
    injection hc with _ hc
    exact ht hc)
def decB (n : Int) : ByteArray := ⟨(Lib.itoa n).toArray⟩
theorem itoa_b {x : Int} (h : 0 ≤ Go.bits .and .u64 x 255 ∧ Go.bits .and .u64 x 255 < 256) : strconv_Itoa.f (wrap64 (Go.bits .and .u64 x 255)) = some (decB (Go.bits .and .u64 x 255)) := by
  have e : wrap64 (Go.bits .and .u64 x 255) = Go.bits .and .u64 x 255 := by unfold wrap64; omega
  unfold strconv_Itoa.f decB
  rw [e, if_pos (by omega)]
theorem and255 (x : Int) : 0 ≤ Go.bits .and .u64 x 255 ∧ Go.bits .and .u64 x 255 < 256 := by
  unfold Go.bits
  have h1 : ((BitVec.ofInt 64 x) &&& (BitVec.ofInt 64 255)).toNat < 256 := by
    rw [BitVec.toNat_and, show (BitVec.ofInt 64 255).toNat = 2 ^ 8 - 1 from by decide, Nat.and_two_pow_sub_one_eq_mod]
    exact Nat.mod_lt _ (by decide)
  show 0 ≤ IntKind.u64.wrap _ ∧ IntKind.u64.wrap _ < 256
  rw [IntWalk.u64_in _ ⟨by show (0 : Int) ≤ (((BitVec.ofInt 64 x) &&& (BitVec.ofInt 64 255)).toNat : Int); omega, by show (((BitVec.ofInt 64 x) &&& (BitVec.ofInt 64 255)).toNat : Int) ≤ _; omega⟩]
  exact ⟨by show (0 : Int) ≤ (((BitVec.ofInt 64 x) &&& (BitVec.ofInt 64 255)).toNat : Int); omega, by show (((BitVec.ofInt 64 x) &&& (BitVec.ofInt 64 255)).toNat : Int) < 256; omega⟩
set_option maxHeartbeats 4000000 in
set_option maxRecDepth 100000 in
theorem format4 (hi lo : Int) (r : ByteArray) (w : World) (hr : strings_Join.f [decB (Go.bits .and .u64 (lo / 16777216) 255), decB (Go.bits .and .u64 (lo / 65536) 255), decB (Go.bits .and .u64 (lo / 256) 255), decB (Go.bits .and .u64 (lo) 255)] (⟨#[46]⟩ : ByteArray) = some r) (hW : WOK w) : Calls Tryd.prog 33 #[.agg #[.bool false, .int .u64 hi, .int .u64 lo]] w fun e w' => e = .returned (.string r) ∧ Below w.heap.size w w' := by
  have HW := Aside0.mk hW
  have HJ := Aside0.mk hr
  clear hW hr
  have HX : Aside0 ((w.alloc (.cells #[.bool false, .int .u64 hi, .int .u64 lo] 25)).heap[w.heap.size]? = some (.cells #[.bool false, .int .u64 hi, .int .u64 lo] 25 (0, 0))) := ⟨heap_alloc_new _ _⟩
  have HB : Aside0 (Below w.heap.size w (w.alloc (.cells #[.bool false, .int .u64 hi, .int .u64 lo] 25))) := ⟨below_alloc (Below.refl _ _) _⟩
  have HO : Aside0 (Kd.R Kd.string 9 (w.alloc (.cells #[.bool false, .int .u64 hi, .int .u64 lo] 25)) w.heap.size (fun _ => True) (.slice none 0 0) ([] : List ByteArray)) := ⟨Kd.R_nil _ _ _ _ _⟩
  go_enter Tryd.func33, Tryd.ntmps33
  go_upto_region 3 with (fail)
  obtain ⟨g, hg⟩ : ∃ g, w.heap.size = g := ⟨_, rfl⟩
  rw [hg] at HX
  simp only [hg]
  clear hg
  generalize w.alloc (.cells #[.bool false, .int .u64 hi, .int .u64 lo] 25) = W at HX HB HO ⊢
  go_upto_region 4 with (fail)
  refine wp_loop_rounds 5 ?_
  have hc : W.cell? ⟨g, 2, none⟩ = some (.int .u64 lo) := (blk_cell HX.out 2).trans rfl
  rw [rounds_succ]
  go_wp2_with fail
  clear hc
  refine (strconv_Itoa.calls _ _ _ (itoa_b (and255 _)) (HW.out.below HB.out)).mono ?_
  rintro e w2 ⟨rfl, hb⟩
  replace HX := Aside0.mk (blk_below HX.out hb)
  replace HO := Aside0.mk (Kd.R_below HO.out hb)
  replace HB := Aside0.mk (below_step HB.out hb)
  clear hb
  go_wp2_with (first | ((with_reducible refine gate_builtin (b := .append) (xs := #[.tmp 17, .tmp 27]) rfl ?_); at_builtin; refine Kd.R_append Kd.string (w0 := w) w.heap.size rfl (.tmp 17) (.tmp 27) 56 9 (.string ⟨#[]⟩) 16 rfl Tryd.underlying56 info9 rfl (by decide) (by omega) _ ([] : List ByteArray) (decB (Go.bits .and .u64 (lo / 16777216) 255)) [.string (decB (Go.bits .and .u64 (lo / 16777216) 255))] (fun _ => True) (fun _ => False) rfl rfl ?aP (fun _ hk => hk.elim) ?aF ?aO ?aB ?aS ?aL ?_; (case aP => exact rfl); (case aB => exact HB.out); (case aF => exact (fun _ _ => trivial)); (case aO => exact HO.out); (case aS => exact (below_size HB.out)); (case aL => simp); intro v0 W0 ho hb hg hat; replace HX := Aside0.mk (blk_apart HX.out (by decide) HO.out hg); replace HB := Aside0.mk hb; replace HO := Aside0.mk ho; clear ho hb hg hat))
  have hc : W0.cell? ⟨g, 2, none⟩ = some (.int .u64 lo) := (blk_cell HX.out 2).trans rfl
  rw [rounds_succ]
  go_wp2_with fail
  clear hc
  refine (strconv_Itoa.calls _ _ _ (itoa_b (and255 _)) (HW.out.below HB.out)).mono ?_
  rintro e w2 ⟨rfl, hb⟩
  replace HX := Aside0.mk (blk_below HX.out hb)
  replace HO := Aside0.mk (Kd.R_below HO.out hb)
  replace HB := Aside0.mk (below_step HB.out hb)
  clear hb
  go_wp2_with (first | ((with_reducible refine gate_builtin (b := .append) (xs := #[.tmp 17, .tmp 27]) rfl ?_); at_builtin; refine Kd.R_append Kd.string (w0 := w) w.heap.size rfl (.tmp 17) (.tmp 27) 56 9 (.string ⟨#[]⟩) 16 rfl Tryd.underlying56 info9 rfl (by decide) (by omega) _ [decB (Go.bits .and .u64 (lo / 16777216) 255)] (decB (Go.bits .and .u64 (lo / 65536) 255)) [.string (decB (Go.bits .and .u64 (lo / 65536) 255))] (fun _ => True) (fun _ => False) rfl rfl ?aP (fun _ hk => hk.elim) ?aF ?aO ?aB ?aS ?aL ?_; (case aP => exact rfl); (case aB => exact HB.out); (case aF => exact (fun _ _ => trivial)); (case aO => exact HO.out); (case aS => exact (below_size HB.out)); (case aL => simp); intro v1 W1 ho hb hg hat; replace HX := Aside0.mk (blk_apart HX.out (by decide) HO.out hg); replace HB := Aside0.mk hb; replace HO := Aside0.mk ho; clear ho hb hg hat))
  have hc : W1.cell? ⟨g, 2, none⟩ = some (.int .u64 lo) := (blk_cell HX.out 2).trans rfl
  rw [rounds_succ]
  go_wp2_with fail
  clear hc
  refine (strconv_Itoa.calls _ _ _ (itoa_b (and255 _)) (HW.out.below HB.out)).mono ?_
  rintro e w2 ⟨rfl, hb⟩
  replace HX := Aside0.mk (blk_below HX.out hb)
  replace HO := Aside0.mk (Kd.R_below HO.out hb)
  replace HB := Aside0.mk (below_step HB.out hb)
  clear hb
  go_wp2_with (first | ((with_reducible refine gate_builtin (b := .append) (xs := #[.tmp 17, .tmp 27]) rfl ?_); at_builtin; refine Kd.R_append Kd.string (w0 := w) w.heap.size rfl (.tmp 17) (.tmp 27) 56 9 (.string ⟨#[]⟩) 16 rfl Tryd.underlying56 info9 rfl (by decide) (by omega) _ [decB (Go.bits .and .u64 (lo / 16777216) 255), decB (Go.bits .and .u64 (lo / 65536) 255)] (decB (Go.bits .and .u64 (lo / 256) 255)) [.string (decB (Go.bits .and .u64 (lo / 256) 255))] (fun _ => True) (fun _ => False) rfl rfl ?aP (fun _ hk => hk.elim) ?aF ?aO ?aB ?aS ?aL ?_; (case aP => exact rfl); (case aB => exact HB.out); (case aF => exact (fun _ _ => trivial)); (case aO => exact HO.out); (case aS => exact (below_size HB.out)); (case aL => simp); intro v2 W2 ho hb hg hat; replace HX := Aside0.mk (blk_apart HX.out (by decide) HO.out hg); replace HB := Aside0.mk hb; replace HO := Aside0.mk ho; clear ho hb hg hat))
  have hc : W2.cell? ⟨g, 2, none⟩ = some (.int .u64 lo) := (blk_cell HX.out 2).trans rfl
  rw [rounds_succ]
  go_wp2_with fail
  clear hc
  refine (strconv_Itoa.calls _ _ _ (itoa_b (and255 _)) (HW.out.below HB.out)).mono ?_
  rintro e w2 ⟨rfl, hb⟩
  replace HX := Aside0.mk (blk_below HX.out hb)
  replace HO := Aside0.mk (Kd.R_below HO.out hb)
  replace HB := Aside0.mk (below_step HB.out hb)
  clear hb
  go_wp2_with (first | ((with_reducible refine gate_builtin (b := .append) (xs := #[.tmp 17, .tmp 27]) rfl ?_); at_builtin; refine Kd.R_append Kd.string (w0 := w) w.heap.size rfl (.tmp 17) (.tmp 27) 56 9 (.string ⟨#[]⟩) 16 rfl Tryd.underlying56 info9 rfl (by decide) (by omega) _ [decB (Go.bits .and .u64 (lo / 16777216) 255), decB (Go.bits .and .u64 (lo / 65536) 255), decB (Go.bits .and .u64 (lo / 256) 255)] (decB (Go.bits .and .u64 (lo) 255)) [.string (decB (Go.bits .and .u64 (lo) 255))] (fun _ => True) (fun _ => False) rfl rfl ?aP (fun _ hk => hk.elim) ?aF ?aO ?aB ?aS ?aL ?_; (case aP => exact rfl); (case aB => exact HB.out); (case aF => exact (fun _ _ => trivial)); (case aO => exact HO.out); (case aS => exact (below_size HB.out)); (case aL => simp); intro v3 W3 ho hb hg hat; replace HX := Aside0.mk (blk_apart HX.out (by decide) HO.out hg); replace HB := Aside0.mk hb; replace HO := Aside0.mk ho; clear ho hb hg hat))
  rw [rounds_succ]
  obtain ⟨A, c, e⟩ := Kd.R_slice HO.out
  subst e
  go_wp2_with fail
  refine (strings_Join.calls A c _ _ r _ (Kd.R_reads' HO.out).2.2 (Kd.R_reads' HO.out).2.1 HJ.out).mono ?_
  rintro e w2 ⟨rfl, hb⟩
  replace HB := Aside0.mk (below_step HB.out hb)
  clear hb
  go_wp2_with fail
  exact bodyPost_ret (v := .string r) (by simp [results, Tryd.results33, go_sem]) rfl ⟨rfl, HB.out⟩
theorem and65535 (x : Int) : 0 ≤ Go.bits .and .u64 x 65535 ∧ Go.bits .and .u64 x 65535 < 65536 := by
  unfold Go.bits
  have h1 : ((BitVec.ofInt 64 x) &&& (BitVec.ofInt 64 65535)).toNat < 65536 := by
    rw [BitVec.toNat_and, show (BitVec.ofInt 64 65535).toNat = 2 ^ 16 - 1 from by decide, Nat.and_two_pow_sub_one_eq_mod]
    exact Nat.mod_lt _ (by decide)
  show 0 ≤ IntKind.u64.wrap _ ∧ IntKind.u64.wrap _ < 65536
  rw [IntWalk.u64_in _ ⟨by show (0 : Int) ≤ (((BitVec.ofInt 64 x) &&& (BitVec.ofInt 64 65535)).toNat : Int); omega, by show (((BitVec.ofInt 64 x) &&& (BitVec.ofInt 64 65535)).toNat : Int) ≤ _; omega⟩]
  exact ⟨by show (0 : Int) ≤ (((BitVec.ofInt 64 x) &&& (BitVec.ofInt 64 65535)).toNat : Int); omega, by show (((BitVec.ofInt 64 x) &&& (BitVec.ofInt 64 65535)).toNat : Int) < 65536; omega⟩
def grpL (hi lo : Int) : List Int := [Go.bits .and .u64 (hi / 281474976710656) 65535, Go.bits .and .u64 (hi / 4294967296) 65535, Go.bits .and .u64 (hi / 65536) 65535, Go.bits .and .u64 (hi) 65535, Go.bits .and .u64 (lo / 281474976710656) 65535, Go.bits .and .u64 (lo / 4294967296) 65535, Go.bits .and .u64 (lo / 65536) 65535, Go.bits .and .u64 (lo) 65535]
def fmtT (l : List Int) (p q : Nat) : Nat → Nat → ByteArray → ByteArray
  | 0, _, o => o
  | d + 1, i, o => if i < 8 then (if i = p ∧ 1 < q - p then fmtT l p q d q (o ++ ⟨#[58, 58]⟩) else fmtT l p q d (i + 1) ((if o.toList ≠ [] ∧ Lib.hasSuffix o.data.toList [58] = false then o ++ ⟨#[58]⟩ else o) ++ ⟨(hexL 4 (l.getD i 0).toNat).toArray⟩)) else o
theorem runF_le (l : List Int) : ∀ (d i a b : Nat), a ≤ b → b ≤ 8 → i + d ≤ 8 → (runF l d i (a, b)).1 ≤ (runF l d i (a, b)).2 ∧ (runF l d i (a, b)).2 ≤ 8
  | 0, i, a, b, h1, h2, _ => ⟨h1, h2⟩
  | d + 1, i, a, b, h1, h2, h3 => by
    unfold runF
    split
    · have := zEnd_le l (8 - i) i
      exact runF_le l d (i + 1) _ _ this.1 (by omega) (by omega)
    · exact runF_le l d (i + 1) _ _ h1 h2 (by omega)
theorem runF_ok (l : List Int) : (runF l 8 0 (0, 0)).1 ≤ (runF l 8 0 (0, 0)).2 ∧ (runF l 8 0 (0, 0)).2 ≤ 8 := runF_le l 8 0 0 0 (by omega) (by omega) (by omega)
structure TxtI (l : List Int) (p q gg i : Nat) (o r : ByteArray) : Prop where
  m : 8 - i ≤ gg
  i8 : i ≤ 8
  res : fmtT l p q gg i o = r
  sz : o.size + 8 * gg ≤ 64
theorem TxtI.pos {l : List Int} {p q gg i : Nat} {o r : ByteArray} (h : TxtI l p q gg i o r) (hi : i < 8) : ∃ m, gg = m + 1 := ⟨gg - 1, by have := h.m; omega⟩
theorem TxtI.fin {l : List Int} {p q gg i : Nat} {o r : ByteArray} (h : TxtI l p q gg i o r) (hi : ¬ i < 8) : o = r := by
  have := h.res
  cases gg with
  | zero => exact this
  | succ d => rw [fmtT, if_neg hi] at this; exact this
theorem TxtI.gap {l : List Int} {p q d i : Nat} {o r : ByteArray} (h : TxtI l p q (d + 1) i o r) (hi : i < 8) (hp : i = p) (hq : 1 < q - p) (hq8 : q ≤ 8) : TxtI l p q d q (o ++ ⟨#[58, 58]⟩) r := by
  obtain ⟨h1, h2, h3, h4⟩ := h
  refine ⟨by omega, hq8, ?_, ?_⟩
  · rw [fmtT, if_pos hi, if_pos ⟨hp, hq⟩] at h3; exact h3
  · rw [ByteArray.size_append, show (⟨#[58, 58]⟩ : ByteArray).size = 2 from rfl]; omega
theorem hexL_len : ∀ (k n : Nat), (hexL k n).length ≤ k
  | 0, _ => Nat.le_refl _
  | k + 1, n => by
    unfold hexL
    split
    · simp
    · have := hexL_len k (n / 16); simp; omega
theorem hexL_size (k n : Nat) : (⟨(hexL k n).toArray⟩ : ByteArray).size ≤ k := by
  show (hexL k n).toArray.size ≤ k
  rw [List.size_toArray]
  exact hexL_len k n
theorem TxtI.hexA {l : List Int} {p q d i : Nat} {o r : ByteArray} {x : Int} (hx : l.getD i 0 = x) (h : TxtI l p q (d + 1) i o r) (hi : i < 8) (hp : ¬ (i = p ∧ 1 < q - p)) (hs : ¬ (o.toList ≠ [] ∧ Lib.hasSuffix o.data.toList [58] = false)) : TxtI l p q d (i + 1) (o ++ ⟨(hexL 4 x.toNat).toArray⟩) r := by
  subst hx
  obtain ⟨h1, h2, h3, h4⟩ := h
  refine ⟨by omega, by omega, ?_, ?_⟩
  · rw [fmtT, if_pos hi, if_neg hp, if_neg hs] at h3; exact h3
  · have := hexL_size 4 (l.getD i 0).toNat
    rw [ByteArray.size_append]; omega
theorem TxtI.hexB {l : List Int} {p q d i : Nat} {o r : ByteArray} {x : Int} (hx : l.getD i 0 = x) (h : TxtI l p q (d + 1) i o r) (hi : i < 8) (hp : ¬ (i = p ∧ 1 < q - p)) (hs : o.toList ≠ [] ∧ Lib.hasSuffix o.data.toList [58] = false) : TxtI l p q d (i + 1) (o ++ ⟨#[58]⟩ ++ ⟨(hexL 4 x.toNat).toArray⟩) r := by
  subst hx
  obtain ⟨h1, h2, h3, h4⟩ := h
  refine ⟨by omega, by omega, ?_, ?_⟩
  · rw [fmtT, if_pos hi, if_neg hp, if_pos hs] at h3; exact h3
  · have := hexL_size 4 (l.getD i 0).toNat
    rw [ByteArray.size_append, ByteArray.size_append, show (⟨#[58]⟩ : ByteArray).size = 1 from rfl]; omega
theorem hex_u {x : Int} (h : 0 ≤ x ∧ x < 65536) : strconv_FormatUint.f x 16 = some ⟨(hexL 4 x.toNat).toArray⟩ := by unfold strconv_FormatUint.f; rw [if_pos rfl, if_pos h]
theorem suf_u {o : ByteArray} (h : o.size ≤ 64) : strings_HasSuffix.f o ⟨#[58]⟩ = some (Lib.hasSuffix o.data.toList [58]) := by unfold strings_HasSuffix.f; rw [if_pos (by omega)]
theorem i_eq {i p : Nat} (h : i = p) : ((i : Int) == (p : Int)) = true := by simp [h]
theorem i_ne {i p : Nat} (h : ¬ i = p) : ((i : Int) == (p : Int)) = false := beq_eq_false_iff_ne.mpr (fun e => h (by omega))
theorem i_eqd {i p : Nat} (h : i = p) : decide ((i : Int) = (p : Int)) = true := by simp [h]
theorem i_ned {i p : Nat} (h : ¬ i = p) : decide ((i : Int) = (p : Int)) = false := decide_eq_false (fun e => h (by omega))
theorem q_gt {p q : Nat} (h : 1 < q - p) (h8 : q ≤ 8) : decide (wrap64 ((q : Int) - (p : Int)) > 1) = true := decide_eq_true (by unfold wrap64; omega)
theorem q_ngt {p q : Nat} (h : ¬ 1 < q - p) (h8 : p ≤ q ∧ q ≤ 8) : decide (wrap64 ((q : Int) - (p : Int)) > 1) = false := decide_eq_false (by unfold wrap64; omega)
theorem sz_2 {l : List Int} {p q d i : Nat} {o r : ByteArray} (h : TxtI l p q d i o r) : (9223372036854775807 < o.size + 2) = False := eq_false (by have := h.sz; omega)
theorem sz_1 {l : List Int} {p q d i : Nat} {o r : ByteArray} (h : TxtI l p q d i o r) : (9223372036854775807 < o.size + 1) = False := eq_false (by have := h.sz; omega)
theorem sz_h {l : List Int} {p q d i : Nat} {o t r : ByteArray} (h : TxtI l p q d i (o ++ t) r) : (9223372036854775807 < o.size + t.size) = False := eq_false (by have := h.sz; rw [ByteArray.size_append] at this; omega)
theorem q_next {p q : Nat} (h : 1 < q - p) (h8 : q ≤ 8) : wrap64 (wrap64 ((q : Int) - 1) + 1) = (q : Int) := by unfold wrap64; omega
theorem run_g (hi lo : Int) (w : World) : Calls Tryd.prog 56 #[.agg #[.int .u64 (Go.bits .and .u64 (hi / 281474976710656) 65535), .int .u64 (Go.bits .and .u64 (hi / 4294967296) 65535), .int .u64 (Go.bits .and .u64 (hi / 65536) 65535), .int .u64 (Go.bits .and .u64 (hi) 65535), .int .u64 (Go.bits .and .u64 (lo / 281474976710656) 65535), .int .u64 (Go.bits .and .u64 (lo / 4294967296) 65535), .int .u64 (Go.bits .and .u64 (lo / 65536) 65535), .int .u64 (Go.bits .and .u64 (lo) 65535)]] w fun e w' => e = .returned (.tuple #[.int .i64 ((runF (grpL hi lo) 8 0 (0, 0)).1 : Nat), .int .i64 ((runF (grpL hi lo) 8 0 (0, 0)).2 : Nat)]) ∧ Below w.heap.size w w' := address_run.calls _ _ _ _ _ _ _ _ w
def fmt6 (hi lo : Int) : ByteArray := fmtT (grpL hi lo) (runF (grpL hi lo) 8 0 (0, 0)).1 (runF (grpL hi lo) 8 0 (0, 0)).2 8 0 ⟨#[]⟩
def fmt.T13 : Bool × List (List Nat × List Nat) := (true, [([], []), ([], []), ([1], [1]), ([], []), ([3], [3]), ([], []), ([5], [5]), ([6], [6]), ([4, 7], [4, 7]), ([8], [8]), ([], []), ([10], [10]), ([], []), ([12], [12]), ([13], [13]), ([11, 14], [11, 14]), ([15], [15]), ([0, 0, 3, 4, 5, 6, 7, 8, 9], [0]), ([17, 9, 0, 3, 4, 5, 6, 7, 8, 9], [9, 17]), ([2, 0, 1, 2, 3, 4, 5, 6, 7, 8, 9, 10, 11, 12, 13, 14, 15, 16, 17, 18], [2]), ([19, 16, 18, 0, 1, 2, 3, 4, 5, 6, 7, 8, 9, 10, 11, 12, 13, 14, 15, 16, 17, 18], [16, 19])])
def fmt.B13 : List Nat := [0, 0, 2, 0, 8, 0, 32, 96, 248, 504, 0, 1024, 0, 4096, 12288, 31744, 64512, 1017, 132089, 524287, 1048575]
theorem fmt.tab13 : rtab .any (opsOf Tryd.f33 13) = fmt.T13 := by kernel_rfl
theorem fmt.bits13 : waitsOk fmt.T13.2 fmt.B13 = true := by kernel_rfl
set_option maxHeartbeats 4000000 in
set_option maxRecDepth 100000 in
theorem format6 (hi lo : Int) (w : World) (hW : WOK w) : Calls Tryd.prog 33 #[.agg #[.bool true, .int .u64 hi, .int .u64 lo]] w fun e w' => e = .returned (.string (fmt6 hi lo)) ∧ Below w.heap.size w w' := by
  have HW := Aside0.mk hW
  clear hW
  obtain ⟨r, hr⟩ : ∃ r, fmt6 hi lo = r := ⟨_, rfl⟩
  have HR := Aside0.mk hr
  rw [hr]
  clear hr
  have HX : Aside0 ((w.alloc (.cells #[.bool true, .int .u64 hi, .int .u64 lo] 25)).heap[w.heap.size]? = some (.cells #[.bool true, .int .u64 hi, .int .u64 lo] 25 (0, 0))) := ⟨heap_alloc_new _ _⟩
  have HB : Aside0 (Below w.heap.size w (w.alloc (.cells #[.bool true, .int .u64 hi, .int .u64 lo] 25))) := ⟨below_alloc (Below.refl _ _) _⟩
  go_enter Tryd.func33, Tryd.ntmps33
  go_upto_region 9 with (fail)
  obtain ⟨g, hg⟩ : ∃ g, w.heap.size = g := ⟨_, rfl⟩
  rw [hg] at HX
  simp only [hg]
  clear hg
  generalize w.alloc (.cells #[.bool true, .int .u64 hi, .int .u64 lo] 25) = W at HX HB ⊢
  have HY : Aside0 ((W.alloc (.cells #[.int .u64 0, .int .u64 0, .int .u64 0, .int .u64 0, .int .u64 0, .int .u64 0, .int .u64 0, .int .u64 0] 68)).heap[W.heap.size]? = some (.cells #[.int .u64 0, .int .u64 0, .int .u64 0, .int .u64 0, .int .u64 0, .int .u64 0, .int .u64 0, .int .u64 0] 68 (0, 0))) := ⟨heap_alloc_new _ _⟩
  have HL := Aside0.mk (blk_lt HX.out)
  replace HX := Aside0.mk (blk_alloc HX.out (.cells #[.int .u64 0, .int .u64 0, .int .u64 0, .int .u64 0, .int .u64 0, .int .u64 0, .int .u64 0, .int .u64 0] 68))
  have HG := Aside0.mk HB.out.size
  replace HB := Aside0.mk (below_alloc HB.out (.cells #[.int .u64 0, .int .u64 0, .int .u64 0, .int .u64 0, .int .u64 0, .int .u64 0, .int .u64 0, .int .u64 0] 68))
  go_upto_region 11 with (fail)
  obtain ⟨ga, hga⟩ : ∃ ga, W.heap.size = ga := ⟨_, rfl⟩
  rw [hga] at HY HG HL
  simp only [hga]
  clear hga
  have HN := Aside0.mk (Nat.ne_of_lt HL.out)
  clear HL
  generalize W.alloc (.cells #[.int .u64 0, .int .u64 0, .int .u64 0, .int .u64 0, .int .u64 0, .int .u64 0, .int .u64 0, .int .u64 0] 68) = W0 at HX HY HB ⊢
  refine wp_loop_rounds 5 ?_
  rw [rounds_succ]
  go_upto_region 13 with (fail)
  refine start_ (n := 21) (S := fun w' => w'.cell? ⟨g, 1, none⟩ = some (.int .u64 hi) ∧ w'.cell? ⟨g, 2, none⟩ = some (.int .u64 lo)) (ds := [20]) #[false, false, false, false, false, false, false, false, false, false, false, false, false, false, false, false, false, false, false, false, false] (by kernel_rfl) rfl rfl ⟨(blk_cell (blk_drew HX.out) 1).trans rfl, (blk_cell (blk_drew HX.out) 2).trans rfl⟩ (fun hHeld => ?_)
  refine with_tabW fmt.tab13 fmt.bits13 (fun HT_ HW_ => ?_)
  replace HX := Aside0.mk (blk_drew HX.out)
  replace HY := Aside0.mk (blk_drew HY.out)
  replace HB := Aside0.mk (below_drew1 HB.out)
  generalize W0.drew = V0 at HX HY HB hHeld ⊢
  refine zp 0 35 HT_ ?_; refine zp 1 36 HT_ ?_; refine zp (v := .int .i64 4) 2 37 HT_ ?_ (hy := fun _ => rfl); refine zp 3 38 HT_ ?_; refine zt 4 39 HT_ HW_ hHeld ?_; refine zp 5 40 HT_ ?_; refine zp (v := .int .i64 0) 6 41 HT_ ?_ (hy := fun _ => rfl); refine zp (v := .int .i64 48) 7 42 HT_ ?_ (hy := fun _ => rfl); refine zp 8 43 HT_ ?_; refine zp 9 44 HT_ ?_; refine zp 10 45 HT_ ?_; refine zt 11 46 HT_ HW_ hHeld ?_; refine zp 12 47 HT_ ?_; refine zp (v := .int .i64 0) 13 48 HT_ ?_ (hy := fun _ => rfl); refine zp (v := .int .i64 48) 14 49 HT_ ?_ (hy := fun _ => rfl); refine zp 15 50 HT_ ?_; refine zp 16 51 HT_ ?_; refine zp 17 52 HT_ ?_
  have hc : V0.cell? ⟨ga, 0, none⟩ = some (.int .u64 0) := (blk_cell HY.out 0).trans rfl
  have hf : V0.frozen? ⟨ga, 0, none⟩ = false := blk_frozen HY.out 0
  refine one_ (i := 18) (N := none) #[true, true, true, true, true, true, true, true, true, true, true, true, true, true, true, true, true, true, true, false, false] rfl rfl (one_of HT_.out (by kernel_rfl)) (by decide) (fun K hK => ?_)
  refine skip_ (w1 := V0.setCell ⟨ga, 0, none⟩ (.int .u64 (Go.bits .and .u64 (hi / 281474976710656) 65535))) (by rfl) rfl (by go_simp) ?_
  clear hc hf
  replace HX := Aside0.mk (blk_far HX.out (p := ⟨ga, 0, none⟩) HN.out (.int .u64 (Go.bits .and .u64 (hi / 281474976710656) 65535)))
  replace HY : Aside0 ((V0.setCell ⟨ga, 0, none⟩ (.int .u64 (Go.bits .and .u64 (hi / 281474976710656) 65535))).heap[ga]? = some (.cells #[.int .u64 (Go.bits .and .u64 (hi / 281474976710656) 65535), .int .u64 0, .int .u64 0, .int .u64 0, .int .u64 0, .int .u64 0, .int .u64 0, .int .u64 0] 68 (0, 0))) := ⟨blk_put (cs := #[.int .u64 0, .int .u64 0, .int .u64 0, .int .u64 0, .int .u64 0, .int .u64 0, .int .u64 0, .int .u64 0]) HY.out 0 _ rfl⟩
  replace HB := Aside0.mk (HB.out.setCell (p := ⟨ga, 0, none⟩) HG.out (.int .u64 (Go.bits .and .u64 (hi / 281474976710656) 65535)))
  generalize V0.setCell ⟨ga, 0, none⟩ (.int .u64 (Go.bits .and .u64 (hi / 281474976710656) 65535)) = U0 at HX HY HB ⊢
  refine hK.out _ _ ⟨(blk_cell HX.out 1).trans rfl, (blk_cell HX.out 2).trans rfl⟩ (fun _ => ?_)
  clear hK K
  refine zp 19 53 HT_ ?_
  have hc : U0.cell? ⟨ga, 4, none⟩ = some (.int .u64 0) := (blk_cell HY.out 4).trans rfl
  have hf : U0.frozen? ⟨ga, 4, none⟩ = false := blk_frozen HY.out 4
  refine last_ (i := 20) (N := none) #[true, true, true, true, true, true, true, true, true, true, true, true, true, true, true, true, true, true, true, true, true] rfl rfl (one_of HT_.out (by kernel_rfl)) (by decide) (fun K hK => ?_)
  refine skip_ (w1 := U0.setCell ⟨ga, 4, none⟩ (.int .u64 (Go.bits .and .u64 (lo / 281474976710656) 65535))) (by rfl) rfl (by go_simp) ?_
  clear hc hf
  replace HX := Aside0.mk (blk_far HX.out (p := ⟨ga, 4, none⟩) HN.out (.int .u64 (Go.bits .and .u64 (lo / 281474976710656) 65535)))
  replace HY : Aside0 ((U0.setCell ⟨ga, 4, none⟩ (.int .u64 (Go.bits .and .u64 (lo / 281474976710656) 65535))).heap[ga]? = some (.cells #[.int .u64 (Go.bits .and .u64 (hi / 281474976710656) 65535), .int .u64 0, .int .u64 0, .int .u64 0, .int .u64 (Go.bits .and .u64 (lo / 281474976710656) 65535), .int .u64 0, .int .u64 0, .int .u64 0] 68 (0, 0))) := ⟨blk_put (cs := #[.int .u64 (Go.bits .and .u64 (hi / 281474976710656) 65535), .int .u64 0, .int .u64 0, .int .u64 0, .int .u64 0, .int .u64 0, .int .u64 0, .int .u64 0]) HY.out 4 _ rfl⟩
  replace HB := Aside0.mk (HB.out.setCell (p := ⟨ga, 4, none⟩) HG.out (.int .u64 (Go.bits .and .u64 (lo / 281474976710656) 65535)))
  generalize U0.setCell ⟨ga, 4, none⟩ (.int .u64 (Go.bits .and .u64 (lo / 281474976710656) 65535)) = W1 at HX HY HB ⊢
  refine hK.out _ _ ?_
  clear hK K
  refine zd HT_ ?_
  clear hHeld HT_ HW_
  go_wp2_with fail
  rw [rounds_succ]
  go_upto_region 13 with (fail)
  refine start_ (n := 21) (S := fun w' => w'.cell? ⟨g, 1, none⟩ = some (.int .u64 hi) ∧ w'.cell? ⟨g, 2, none⟩ = some (.int .u64 lo)) (ds := [20]) #[false, false, false, false, false, false, false, false, false, false, false, false, false, false, false, false, false, false, false, false, false] (by kernel_rfl) rfl rfl ⟨(blk_cell (blk_drew HX.out) 1).trans rfl, (blk_cell (blk_drew HX.out) 2).trans rfl⟩ (fun hHeld => ?_)
  refine with_tabW fmt.tab13 fmt.bits13 (fun HT_ HW_ => ?_)
  replace HX := Aside0.mk (blk_drew HX.out)
  replace HY := Aside0.mk (blk_drew HY.out)
  replace HB := Aside0.mk (below_drew1 HB.out)
  generalize W1.drew = V1 at HX HY HB hHeld ⊢
  refine zp 0 35 HT_ ?_; refine zp 1 36 HT_ ?_; refine zp (v := .int .i64 5) 2 37 HT_ ?_ (hy := fun _ => rfl); refine zp 3 38 HT_ ?_; refine zt 4 39 HT_ HW_ hHeld ?_; refine zp 5 40 HT_ ?_; refine zp (v := .int .i64 16) 6 41 HT_ ?_ (hy := fun _ => rfl); refine zp (v := .int .i64 32) 7 42 HT_ ?_ (hy := fun _ => rfl); refine zp 8 43 HT_ ?_; refine zp 9 44 HT_ ?_; refine zp 10 45 HT_ ?_; refine zt 11 46 HT_ HW_ hHeld ?_; refine zp 12 47 HT_ ?_; refine zp (v := .int .i64 16) 13 48 HT_ ?_ (hy := fun _ => rfl); refine zp (v := .int .i64 32) 14 49 HT_ ?_ (hy := fun _ => rfl); refine zp 15 50 HT_ ?_; refine zp 16 51 HT_ ?_; refine zp 17 52 HT_ ?_
  have hc : V1.cell? ⟨ga, 1, none⟩ = some (.int .u64 0) := (blk_cell HY.out 1).trans rfl
  have hf : V1.frozen? ⟨ga, 1, none⟩ = false := blk_frozen HY.out 1
  refine one_ (i := 18) (N := none) #[true, true, true, true, true, true, true, true, true, true, true, true, true, true, true, true, true, true, true, false, false] rfl rfl (one_of HT_.out (by kernel_rfl)) (by decide) (fun K hK => ?_)
  refine skip_ (w1 := V1.setCell ⟨ga, 1, none⟩ (.int .u64 (Go.bits .and .u64 (hi / 4294967296) 65535))) (by rfl) rfl (by go_simp) ?_
  clear hc hf
  replace HX := Aside0.mk (blk_far HX.out (p := ⟨ga, 1, none⟩) HN.out (.int .u64 (Go.bits .and .u64 (hi / 4294967296) 65535)))
  replace HY : Aside0 ((V1.setCell ⟨ga, 1, none⟩ (.int .u64 (Go.bits .and .u64 (hi / 4294967296) 65535))).heap[ga]? = some (.cells #[.int .u64 (Go.bits .and .u64 (hi / 281474976710656) 65535), .int .u64 (Go.bits .and .u64 (hi / 4294967296) 65535), .int .u64 0, .int .u64 0, .int .u64 (Go.bits .and .u64 (lo / 281474976710656) 65535), .int .u64 0, .int .u64 0, .int .u64 0] 68 (0, 0))) := ⟨blk_put (cs := #[.int .u64 (Go.bits .and .u64 (hi / 281474976710656) 65535), .int .u64 0, .int .u64 0, .int .u64 0, .int .u64 (Go.bits .and .u64 (lo / 281474976710656) 65535), .int .u64 0, .int .u64 0, .int .u64 0]) HY.out 1 _ rfl⟩
  replace HB := Aside0.mk (HB.out.setCell (p := ⟨ga, 1, none⟩) HG.out (.int .u64 (Go.bits .and .u64 (hi / 4294967296) 65535)))
  generalize V1.setCell ⟨ga, 1, none⟩ (.int .u64 (Go.bits .and .u64 (hi / 4294967296) 65535)) = U1 at HX HY HB ⊢
  refine hK.out _ _ ⟨(blk_cell HX.out 1).trans rfl, (blk_cell HX.out 2).trans rfl⟩ (fun _ => ?_)
  clear hK K
  refine zp 19 53 HT_ ?_
  have hc : U1.cell? ⟨ga, 5, none⟩ = some (.int .u64 0) := (blk_cell HY.out 5).trans rfl
  have hf : U1.frozen? ⟨ga, 5, none⟩ = false := blk_frozen HY.out 5
  refine last_ (i := 20) (N := none) #[true, true, true, true, true, true, true, true, true, true, true, true, true, true, true, true, true, true, true, true, true] rfl rfl (one_of HT_.out (by kernel_rfl)) (by decide) (fun K hK => ?_)
  refine skip_ (w1 := U1.setCell ⟨ga, 5, none⟩ (.int .u64 (Go.bits .and .u64 (lo / 4294967296) 65535))) (by rfl) rfl (by go_simp) ?_
  clear hc hf
  replace HX := Aside0.mk (blk_far HX.out (p := ⟨ga, 5, none⟩) HN.out (.int .u64 (Go.bits .and .u64 (lo / 4294967296) 65535)))
  replace HY : Aside0 ((U1.setCell ⟨ga, 5, none⟩ (.int .u64 (Go.bits .and .u64 (lo / 4294967296) 65535))).heap[ga]? = some (.cells #[.int .u64 (Go.bits .and .u64 (hi / 281474976710656) 65535), .int .u64 (Go.bits .and .u64 (hi / 4294967296) 65535), .int .u64 0, .int .u64 0, .int .u64 (Go.bits .and .u64 (lo / 281474976710656) 65535), .int .u64 (Go.bits .and .u64 (lo / 4294967296) 65535), .int .u64 0, .int .u64 0] 68 (0, 0))) := ⟨blk_put (cs := #[.int .u64 (Go.bits .and .u64 (hi / 281474976710656) 65535), .int .u64 (Go.bits .and .u64 (hi / 4294967296) 65535), .int .u64 0, .int .u64 0, .int .u64 (Go.bits .and .u64 (lo / 281474976710656) 65535), .int .u64 0, .int .u64 0, .int .u64 0]) HY.out 5 _ rfl⟩
  replace HB := Aside0.mk (HB.out.setCell (p := ⟨ga, 5, none⟩) HG.out (.int .u64 (Go.bits .and .u64 (lo / 4294967296) 65535)))
  generalize U1.setCell ⟨ga, 5, none⟩ (.int .u64 (Go.bits .and .u64 (lo / 4294967296) 65535)) = W2 at HX HY HB ⊢
  refine hK.out _ _ ?_
  clear hK K
  refine zd HT_ ?_
  clear hHeld HT_ HW_
  go_wp2_with fail
  rw [rounds_succ]
  go_upto_region 13 with (fail)
  refine start_ (n := 21) (S := fun w' => w'.cell? ⟨g, 1, none⟩ = some (.int .u64 hi) ∧ w'.cell? ⟨g, 2, none⟩ = some (.int .u64 lo)) (ds := [20]) #[false, false, false, false, false, false, false, false, false, false, false, false, false, false, false, false, false, false, false, false, false] (by kernel_rfl) rfl rfl ⟨(blk_cell (blk_drew HX.out) 1).trans rfl, (blk_cell (blk_drew HX.out) 2).trans rfl⟩ (fun hHeld => ?_)
  refine with_tabW fmt.tab13 fmt.bits13 (fun HT_ HW_ => ?_)
  replace HX := Aside0.mk (blk_drew HX.out)
  replace HY := Aside0.mk (blk_drew HY.out)
  replace HB := Aside0.mk (below_drew1 HB.out)
  generalize W2.drew = V2 at HX HY HB hHeld ⊢
  refine zp 0 35 HT_ ?_; refine zp 1 36 HT_ ?_; refine zp (v := .int .i64 6) 2 37 HT_ ?_ (hy := fun _ => rfl); refine zp 3 38 HT_ ?_; refine zt 4 39 HT_ HW_ hHeld ?_; refine zp 5 40 HT_ ?_; refine zp (v := .int .i64 32) 6 41 HT_ ?_ (hy := fun _ => rfl); refine zp (v := .int .i64 16) 7 42 HT_ ?_ (hy := fun _ => rfl); refine zp 8 43 HT_ ?_; refine zp 9 44 HT_ ?_; refine zp 10 45 HT_ ?_; refine zt 11 46 HT_ HW_ hHeld ?_; refine zp 12 47 HT_ ?_; refine zp (v := .int .i64 32) 13 48 HT_ ?_ (hy := fun _ => rfl); refine zp (v := .int .i64 16) 14 49 HT_ ?_ (hy := fun _ => rfl); refine zp 15 50 HT_ ?_; refine zp 16 51 HT_ ?_; refine zp 17 52 HT_ ?_
  have hc : V2.cell? ⟨ga, 2, none⟩ = some (.int .u64 0) := (blk_cell HY.out 2).trans rfl
  have hf : V2.frozen? ⟨ga, 2, none⟩ = false := blk_frozen HY.out 2
  refine one_ (i := 18) (N := none) #[true, true, true, true, true, true, true, true, true, true, true, true, true, true, true, true, true, true, true, false, false] rfl rfl (one_of HT_.out (by kernel_rfl)) (by decide) (fun K hK => ?_)
  refine skip_ (w1 := V2.setCell ⟨ga, 2, none⟩ (.int .u64 (Go.bits .and .u64 (hi / 65536) 65535))) (by rfl) rfl (by go_simp) ?_
  clear hc hf
  replace HX := Aside0.mk (blk_far HX.out (p := ⟨ga, 2, none⟩) HN.out (.int .u64 (Go.bits .and .u64 (hi / 65536) 65535)))
  replace HY : Aside0 ((V2.setCell ⟨ga, 2, none⟩ (.int .u64 (Go.bits .and .u64 (hi / 65536) 65535))).heap[ga]? = some (.cells #[.int .u64 (Go.bits .and .u64 (hi / 281474976710656) 65535), .int .u64 (Go.bits .and .u64 (hi / 4294967296) 65535), .int .u64 (Go.bits .and .u64 (hi / 65536) 65535), .int .u64 0, .int .u64 (Go.bits .and .u64 (lo / 281474976710656) 65535), .int .u64 (Go.bits .and .u64 (lo / 4294967296) 65535), .int .u64 0, .int .u64 0] 68 (0, 0))) := ⟨blk_put (cs := #[.int .u64 (Go.bits .and .u64 (hi / 281474976710656) 65535), .int .u64 (Go.bits .and .u64 (hi / 4294967296) 65535), .int .u64 0, .int .u64 0, .int .u64 (Go.bits .and .u64 (lo / 281474976710656) 65535), .int .u64 (Go.bits .and .u64 (lo / 4294967296) 65535), .int .u64 0, .int .u64 0]) HY.out 2 _ rfl⟩
  replace HB := Aside0.mk (HB.out.setCell (p := ⟨ga, 2, none⟩) HG.out (.int .u64 (Go.bits .and .u64 (hi / 65536) 65535)))
  generalize V2.setCell ⟨ga, 2, none⟩ (.int .u64 (Go.bits .and .u64 (hi / 65536) 65535)) = U2 at HX HY HB ⊢
  refine hK.out _ _ ⟨(blk_cell HX.out 1).trans rfl, (blk_cell HX.out 2).trans rfl⟩ (fun _ => ?_)
  clear hK K
  refine zp 19 53 HT_ ?_
  have hc : U2.cell? ⟨ga, 6, none⟩ = some (.int .u64 0) := (blk_cell HY.out 6).trans rfl
  have hf : U2.frozen? ⟨ga, 6, none⟩ = false := blk_frozen HY.out 6
  refine last_ (i := 20) (N := none) #[true, true, true, true, true, true, true, true, true, true, true, true, true, true, true, true, true, true, true, true, true] rfl rfl (one_of HT_.out (by kernel_rfl)) (by decide) (fun K hK => ?_)
  refine skip_ (w1 := U2.setCell ⟨ga, 6, none⟩ (.int .u64 (Go.bits .and .u64 (lo / 65536) 65535))) (by rfl) rfl (by go_simp) ?_
  clear hc hf
  replace HX := Aside0.mk (blk_far HX.out (p := ⟨ga, 6, none⟩) HN.out (.int .u64 (Go.bits .and .u64 (lo / 65536) 65535)))
  replace HY : Aside0 ((U2.setCell ⟨ga, 6, none⟩ (.int .u64 (Go.bits .and .u64 (lo / 65536) 65535))).heap[ga]? = some (.cells #[.int .u64 (Go.bits .and .u64 (hi / 281474976710656) 65535), .int .u64 (Go.bits .and .u64 (hi / 4294967296) 65535), .int .u64 (Go.bits .and .u64 (hi / 65536) 65535), .int .u64 0, .int .u64 (Go.bits .and .u64 (lo / 281474976710656) 65535), .int .u64 (Go.bits .and .u64 (lo / 4294967296) 65535), .int .u64 (Go.bits .and .u64 (lo / 65536) 65535), .int .u64 0] 68 (0, 0))) := ⟨blk_put (cs := #[.int .u64 (Go.bits .and .u64 (hi / 281474976710656) 65535), .int .u64 (Go.bits .and .u64 (hi / 4294967296) 65535), .int .u64 (Go.bits .and .u64 (hi / 65536) 65535), .int .u64 0, .int .u64 (Go.bits .and .u64 (lo / 281474976710656) 65535), .int .u64 (Go.bits .and .u64 (lo / 4294967296) 65535), .int .u64 0, .int .u64 0]) HY.out 6 _ rfl⟩
  replace HB := Aside0.mk (HB.out.setCell (p := ⟨ga, 6, none⟩) HG.out (.int .u64 (Go.bits .and .u64 (lo / 65536) 65535)))
  generalize U2.setCell ⟨ga, 6, none⟩ (.int .u64 (Go.bits .and .u64 (lo / 65536) 65535)) = W3 at HX HY HB ⊢
  refine hK.out _ _ ?_
  clear hK K
  refine zd HT_ ?_
  clear hHeld HT_ HW_
  go_wp2_with fail
  rw [rounds_succ]
  go_upto_region 13 with (fail)
  refine start_ (n := 21) (S := fun w' => w'.cell? ⟨g, 1, none⟩ = some (.int .u64 hi) ∧ w'.cell? ⟨g, 2, none⟩ = some (.int .u64 lo)) (ds := [20]) #[false, false, false, false, false, false, false, false, false, false, false, false, false, false, false, false, false, false, false, false, false] (by kernel_rfl) rfl rfl ⟨(blk_cell (blk_drew HX.out) 1).trans rfl, (blk_cell (blk_drew HX.out) 2).trans rfl⟩ (fun hHeld => ?_)
  refine with_tabW fmt.tab13 fmt.bits13 (fun HT_ HW_ => ?_)
  replace HX := Aside0.mk (blk_drew HX.out)
  replace HY := Aside0.mk (blk_drew HY.out)
  replace HB := Aside0.mk (below_drew1 HB.out)
  generalize W3.drew = V3 at HX HY HB hHeld ⊢
  refine zp 0 35 HT_ ?_; refine zp 1 36 HT_ ?_; refine zp (v := .int .i64 7) 2 37 HT_ ?_ (hy := fun _ => rfl); refine zp 3 38 HT_ ?_; refine zt 4 39 HT_ HW_ hHeld ?_; refine zp 5 40 HT_ ?_; refine zp (v := .int .i64 48) 6 41 HT_ ?_ (hy := fun _ => rfl); refine zp (v := .int .i64 0) 7 42 HT_ ?_ (hy := fun _ => rfl); refine zp 8 43 HT_ ?_; refine zp 9 44 HT_ ?_; refine zp 10 45 HT_ ?_; refine zt 11 46 HT_ HW_ hHeld ?_; refine zp 12 47 HT_ ?_; refine zp (v := .int .i64 48) 13 48 HT_ ?_ (hy := fun _ => rfl); refine zp (v := .int .i64 0) 14 49 HT_ ?_ (hy := fun _ => rfl); refine zp 15 50 HT_ ?_; refine zp 16 51 HT_ ?_; refine zp 17 52 HT_ ?_
  have hc : V3.cell? ⟨ga, 3, none⟩ = some (.int .u64 0) := (blk_cell HY.out 3).trans rfl
  have hf : V3.frozen? ⟨ga, 3, none⟩ = false := blk_frozen HY.out 3
  refine one_ (i := 18) (N := none) #[true, true, true, true, true, true, true, true, true, true, true, true, true, true, true, true, true, true, true, false, false] rfl rfl (one_of HT_.out (by kernel_rfl)) (by decide) (fun K hK => ?_)
  refine skip_ (w1 := V3.setCell ⟨ga, 3, none⟩ (.int .u64 (Go.bits .and .u64 (hi) 65535))) (by rfl) rfl (by go_simp) ?_
  clear hc hf
  replace HX := Aside0.mk (blk_far HX.out (p := ⟨ga, 3, none⟩) HN.out (.int .u64 (Go.bits .and .u64 (hi) 65535)))
  replace HY : Aside0 ((V3.setCell ⟨ga, 3, none⟩ (.int .u64 (Go.bits .and .u64 (hi) 65535))).heap[ga]? = some (.cells #[.int .u64 (Go.bits .and .u64 (hi / 281474976710656) 65535), .int .u64 (Go.bits .and .u64 (hi / 4294967296) 65535), .int .u64 (Go.bits .and .u64 (hi / 65536) 65535), .int .u64 (Go.bits .and .u64 (hi) 65535), .int .u64 (Go.bits .and .u64 (lo / 281474976710656) 65535), .int .u64 (Go.bits .and .u64 (lo / 4294967296) 65535), .int .u64 (Go.bits .and .u64 (lo / 65536) 65535), .int .u64 0] 68 (0, 0))) := ⟨blk_put (cs := #[.int .u64 (Go.bits .and .u64 (hi / 281474976710656) 65535), .int .u64 (Go.bits .and .u64 (hi / 4294967296) 65535), .int .u64 (Go.bits .and .u64 (hi / 65536) 65535), .int .u64 0, .int .u64 (Go.bits .and .u64 (lo / 281474976710656) 65535), .int .u64 (Go.bits .and .u64 (lo / 4294967296) 65535), .int .u64 (Go.bits .and .u64 (lo / 65536) 65535), .int .u64 0]) HY.out 3 _ rfl⟩
  replace HB := Aside0.mk (HB.out.setCell (p := ⟨ga, 3, none⟩) HG.out (.int .u64 (Go.bits .and .u64 (hi) 65535)))
  generalize V3.setCell ⟨ga, 3, none⟩ (.int .u64 (Go.bits .and .u64 (hi) 65535)) = U3 at HX HY HB ⊢
  refine hK.out _ _ ⟨(blk_cell HX.out 1).trans rfl, (blk_cell HX.out 2).trans rfl⟩ (fun _ => ?_)
  clear hK K
  refine zp 19 53 HT_ ?_
  have hc : U3.cell? ⟨ga, 7, none⟩ = some (.int .u64 0) := (blk_cell HY.out 7).trans rfl
  have hf : U3.frozen? ⟨ga, 7, none⟩ = false := blk_frozen HY.out 7
  refine last_ (i := 20) (N := none) #[true, true, true, true, true, true, true, true, true, true, true, true, true, true, true, true, true, true, true, true, true] rfl rfl (one_of HT_.out (by kernel_rfl)) (by decide) (fun K hK => ?_)
  refine skip_ (w1 := U3.setCell ⟨ga, 7, none⟩ (.int .u64 (Go.bits .and .u64 (lo) 65535))) (by rfl) rfl (by go_simp) ?_
  clear hc hf
  replace HX := Aside0.mk (blk_far HX.out (p := ⟨ga, 7, none⟩) HN.out (.int .u64 (Go.bits .and .u64 (lo) 65535)))
  replace HY : Aside0 ((U3.setCell ⟨ga, 7, none⟩ (.int .u64 (Go.bits .and .u64 (lo) 65535))).heap[ga]? = some (.cells #[.int .u64 (Go.bits .and .u64 (hi / 281474976710656) 65535), .int .u64 (Go.bits .and .u64 (hi / 4294967296) 65535), .int .u64 (Go.bits .and .u64 (hi / 65536) 65535), .int .u64 (Go.bits .and .u64 (hi) 65535), .int .u64 (Go.bits .and .u64 (lo / 281474976710656) 65535), .int .u64 (Go.bits .and .u64 (lo / 4294967296) 65535), .int .u64 (Go.bits .and .u64 (lo / 65536) 65535), .int .u64 (Go.bits .and .u64 (lo) 65535)] 68 (0, 0))) := ⟨blk_put (cs := #[.int .u64 (Go.bits .and .u64 (hi / 281474976710656) 65535), .int .u64 (Go.bits .and .u64 (hi / 4294967296) 65535), .int .u64 (Go.bits .and .u64 (hi / 65536) 65535), .int .u64 (Go.bits .and .u64 (hi) 65535), .int .u64 (Go.bits .and .u64 (lo / 281474976710656) 65535), .int .u64 (Go.bits .and .u64 (lo / 4294967296) 65535), .int .u64 (Go.bits .and .u64 (lo / 65536) 65535), .int .u64 0]) HY.out 7 _ rfl⟩
  replace HB := Aside0.mk (HB.out.setCell (p := ⟨ga, 7, none⟩) HG.out (.int .u64 (Go.bits .and .u64 (lo) 65535)))
  generalize U3.setCell ⟨ga, 7, none⟩ (.int .u64 (Go.bits .and .u64 (lo) 65535)) = W4 at HX HY HB ⊢
  refine hK.out _ _ ?_
  clear hK K
  refine zd HT_ ?_
  clear hHeld HT_ HW_
  go_wp2_with fail
  rw [rounds_succ]
  have hc0 : W4.cell? ⟨ga, 0, none⟩ = some (.int .u64 (Go.bits .and .u64 (hi / 281474976710656) 65535)) := (blk_cell HY.out 0).trans rfl
  have hc1 : W4.cell? ⟨ga, 1, none⟩ = some (.int .u64 (Go.bits .and .u64 (hi / 4294967296) 65535)) := (blk_cell HY.out 1).trans rfl
  have hc2 : W4.cell? ⟨ga, 2, none⟩ = some (.int .u64 (Go.bits .and .u64 (hi / 65536) 65535)) := (blk_cell HY.out 2).trans rfl
  have hc3 : W4.cell? ⟨ga, 3, none⟩ = some (.int .u64 (Go.bits .and .u64 (hi) 65535)) := (blk_cell HY.out 3).trans rfl
  have hc4 : W4.cell? ⟨ga, 4, none⟩ = some (.int .u64 (Go.bits .and .u64 (lo / 281474976710656) 65535)) := (blk_cell HY.out 4).trans rfl
  have hc5 : W4.cell? ⟨ga, 5, none⟩ = some (.int .u64 (Go.bits .and .u64 (lo / 4294967296) 65535)) := (blk_cell HY.out 5).trans rfl
  have hc6 : W4.cell? ⟨ga, 6, none⟩ = some (.int .u64 (Go.bits .and .u64 (lo / 65536) 65535)) := (blk_cell HY.out 6).trans rfl
  have hc7 : W4.cell? ⟨ga, 7, none⟩ = some (.int .u64 (Go.bits .and .u64 (lo) 65535)) := (blk_cell HY.out 7).trans rfl
  go_wp2_with fail
  clear hc0 hc1 hc2 hc3 hc4 hc5 hc6 hc7
  refine (run_g hi lo _).mono ?_
  rintro e w2 ⟨rfl, hb⟩
  replace HX := Aside0.mk (blk_below HX.out hb)
  replace HY := Aside0.mk (blk_below HY.out hb)
  replace HB := Aside0.mk (below_step HB.out hb)
  clear hb
  have HC : Aside0 (∀ k : Nat, k < 8 → (#[.int .u64 (Go.bits .and .u64 (hi / 281474976710656) 65535), .int .u64 (Go.bits .and .u64 (hi / 4294967296) 65535), .int .u64 (Go.bits .and .u64 (hi / 65536) 65535), .int .u64 (Go.bits .and .u64 (hi) 65535), .int .u64 (Go.bits .and .u64 (lo / 281474976710656) 65535), .int .u64 (Go.bits .and .u64 (lo / 4294967296) 65535), .int .u64 (Go.bits .and .u64 (lo / 65536) 65535), .int .u64 (Go.bits .and .u64 (lo) 65535)] : Array Value)[k]? = some (.int .u64 ((grpL hi lo).getD k 0))) := ⟨fun k hk => by
    rcases k with _ | _ | _ | _ | _ | _ | _ | _ | k <;> first | omega | rfl⟩
  have HH : Aside0 (∀ k : Nat, k < 8 → 0 ≤ (grpL hi lo).getD k 0 ∧ (grpL hi lo).getD k 0 < 65536) := ⟨fun k hk => by
    rcases k with _ | _ | _ | _ | _ | _ | _ | _ | k <;> first | omega | exact and65535 _⟩
  have HP := Aside0.mk (runF_ok (grpL hi lo))
  have H0 : Aside0 (TxtI (grpL hi lo) (runF (grpL hi lo) 8 0 (0, 0)).1 (runF (grpL hi lo) 8 0 (0, 0)).2 8 0 ⟨#[]⟩ r) := ⟨⟨by omega, by omega, HR.out, by decide⟩⟩
  clear HR
  generalize grpL hi lo = l at HC HH HP H0 ⊢
  generalize (#[.int .u64 (Go.bits .and .u64 (hi / 281474976710656) 65535), .int .u64 (Go.bits .and .u64 (hi / 4294967296) 65535), .int .u64 (Go.bits .and .u64 (hi / 65536) 65535), .int .u64 (Go.bits .and .u64 (hi) 65535), .int .u64 (Go.bits .and .u64 (lo / 281474976710656) 65535), .int .u64 (Go.bits .and .u64 (lo / 4294967296) 65535), .int .u64 (Go.bits .and .u64 (lo / 65536) 65535), .int .u64 (Go.bits .and .u64 (lo) 65535)] : Array Value) = C at HC HY
  obtain ⟨pq, hpq⟩ : ∃ pq, runF l 8 0 (0, 0) = pq := ⟨_, rfl⟩
  rw [hpq] at HP H0
  simp only [hpq]
  clear hpq
  obtain ⟨p, q⟩ := pq
  dsimp only at HP H0 ⊢
  go_wp2_with fail
  go_loopg [9, 10] 8 (fun gg v9 v10 wr => ∃ (i : Nat) (o : ByteArray), v9 = .string o ∧ v10 = .int .i64 (i : Int) ∧ Aside0 (TxtI l p q gg i o r) ∧ Aside0 (wr.heap[ga]? = some (.cells C 68 (0, 0))) ∧ Aside0 (Below w.heap.size w wr))
  case atStart => exact ⟨0, _, rfl, rfl, H0, HY, HB⟩
  case round =>
    obtain ⟨i, o, rfl, rfl, HT, HY, HB⟩ := hrel
    clear H0
    by_cases hi8 : i < 8
    · obtain ⟨m, rfl⟩ := HT.out.pos hi8
      have hlt := r_lt hi8
      have hlt2 := r_ltd hi8
      have hc : wr.cell? ⟨ga, i, none⟩ = some (.int .u64 (l.getD i 0)) := (blk_cell HY.out i).trans (HC.out i hi8)
      have HV := Aside0.mk (HH.out i hi8)
      obtain ⟨x, hx⟩ : ∃ x, l.getD i 0 = x := ⟨_, rfl⟩
      rw [hx] at hc HV
      have HS := Aside0.mk (r_suc (Nat.le_of_lt hi8))
      have HE := Aside0.mk hx
      clear hx
      have HI := Aside0.mk hi8
      clear hi8
      by_cases hip : i = p
      · have he1 := i_eq hip
        have he2 := i_eqd hip
        by_cases hq : 1 < q - p
        · have hg1 := q_gt hq HP.out.2
          have HN := Aside0.mk (HT.out.gap HI.out hip hq HP.out.2)
          have hs2 := sz_2 HT.out
          have HS2 := Aside0.mk (q_next hq HP.out.2)
          clear hip hq
          go_wp2_with fail
          go_roundg m
          case measure => exact Nat.lt_succ_self m
          case rel => exact ⟨q, _, rfl, by rw [HS2.out], HN, HY, HB⟩
        · have hg1 := q_ngt hq HP.out
          have HNP : Aside0 (¬ (i = p ∧ 1 < q - p)) := ⟨fun h => hq h.2⟩
          clear hip hq
          by_cases ho : o.toList = []
          · have ho1 : (o.toList == ([] : List UInt8)) = true := beq_iff_eq.mpr ho
            have ho2 : (o.toList != ([] : List UInt8)) = false := bne_eq_false_iff_eq.mpr ho
            have HN := Aside0.mk (HT.out.hexA HE.out HI.out HNP.out (fun h => h.1 ho))
            clear ho
            go_wp2_with fail
            refine (strconv_FormatUint.calls _ _ _ _ (hex_u HV.out) (HW.out.below HB.out)).mono ?_
            rintro e w4 ⟨rfl, hb⟩
            replace HY := Aside0.mk (blk_below HY.out hb)
            replace HB := Aside0.mk (below_step HB.out hb)
            clear hb
            generalize (⟨(hexL 4 x.toNat).toArray⟩ : ByteArray) = hx at HN ⊢
            have hs4 := sz_h HN.out
            try rw [ByteArray.size_append, show (⟨#[58]⟩ : ByteArray).size = 1 from rfl] at hs4
            go_wp2_with fail
            go_roundg m
            case measure => exact Nat.lt_succ_self m
            case rel => exact ⟨i + 1, _, rfl, by rw [HS.out], HN, HY, HB⟩
          · have ho1 : (o.toList == ([] : List UInt8)) = false := beq_eq_false_iff_ne.mpr ho
            have ho2 : (o.toList != ([] : List UInt8)) = true := bne_iff_ne.mpr ho
            have HO := Aside0.mk ho
            clear ho
            go_wp2_with fail
            refine (strings_HasSuffix.calls _ _ _ _ (suf_u (Nat.le_trans (Nat.le_add_right _ _) HT.out.sz))).mono ?_
            rintro e w3 ⟨rfl, hb⟩
            replace HY := Aside0.mk (blk_below HY.out hb)
            replace HB := Aside0.mk (below_step HB.out hb)
            clear hb hc
            have hc : w3.cell? ⟨ga, i, none⟩ = some (.int .u64 x) := (blk_cell HY.out i).trans ((HC.out i HI.out).trans (by rw [HE.out]))
            cases hs : Lib.hasSuffix o.data.toList [58] with
            | true =>
              have HN := Aside0.mk (HT.out.hexA HE.out HI.out HNP.out (fun h => Bool.noConfusion (hs.symm.trans h.2)))
              clear hs
              go_wp2_with fail
              refine (strconv_FormatUint.calls _ _ _ _ (hex_u HV.out) (HW.out.below HB.out)).mono ?_
              rintro e w4 ⟨rfl, hb⟩
              replace HY := Aside0.mk (blk_below HY.out hb)
              replace HB := Aside0.mk (below_step HB.out hb)
              clear hb
              generalize (⟨(hexL 4 x.toNat).toArray⟩ : ByteArray) = hx at HN ⊢
              have hs4 := sz_h HN.out
              try rw [ByteArray.size_append, show (⟨#[58]⟩ : ByteArray).size = 1 from rfl] at hs4
              go_wp2_with fail
              go_roundg m
              case measure => exact Nat.lt_succ_self m
              case rel => exact ⟨i + 1, _, rfl, by rw [HS.out], HN, HY, HB⟩
            | false =>
              have HN := Aside0.mk (HT.out.hexB HE.out HI.out HNP.out ⟨HO.out, hs⟩)
              have hs1 := sz_1 HT.out
              clear hs
              go_wp2_with fail
              refine (strconv_FormatUint.calls _ _ _ _ (hex_u HV.out) (HW.out.below HB.out)).mono ?_
              rintro e w4 ⟨rfl, hb⟩
              replace HY := Aside0.mk (blk_below HY.out hb)
              replace HB := Aside0.mk (below_step HB.out hb)
              clear hb
              generalize (⟨(hexL 4 x.toNat).toArray⟩ : ByteArray) = hx at HN ⊢
              have hs4 := sz_h HN.out
              try rw [ByteArray.size_append, show (⟨#[58]⟩ : ByteArray).size = 1 from rfl] at hs4
              go_wp2_with fail
              go_roundg m
              case measure => exact Nat.lt_succ_self m
              case rel => exact ⟨i + 1, _, rfl, by rw [HS.out], HN, HY, HB⟩
      · have he1 := i_ne hip
        have he2 := i_ned hip
        have HNP : Aside0 (¬ (i = p ∧ 1 < q - p)) := ⟨fun h => hip h.1⟩
        clear hip
        by_cases ho : o.toList = []
        · have ho1 : (o.toList == ([] : List UInt8)) = true := beq_iff_eq.mpr ho
          have ho2 : (o.toList != ([] : List UInt8)) = false := bne_eq_false_iff_eq.mpr ho
          have HN := Aside0.mk (HT.out.hexA HE.out HI.out HNP.out (fun h => h.1 ho))
          clear ho
          go_wp2_with fail
          refine (strconv_FormatUint.calls _ _ _ _ (hex_u HV.out) (HW.out.below HB.out)).mono ?_
          rintro e w4 ⟨rfl, hb⟩
          replace HY := Aside0.mk (blk_below HY.out hb)
          replace HB := Aside0.mk (below_step HB.out hb)
          clear hb
          generalize (⟨(hexL 4 x.toNat).toArray⟩ : ByteArray) = hx at HN ⊢
          have hs4 := sz_h HN.out
          try rw [ByteArray.size_append, show (⟨#[58]⟩ : ByteArray).size = 1 from rfl] at hs4
          go_wp2_with fail
          go_roundg m
          case measure => exact Nat.lt_succ_self m
          case rel => exact ⟨i + 1, _, rfl, by rw [HS.out], HN, HY, HB⟩
        · have ho1 : (o.toList == ([] : List UInt8)) = false := beq_eq_false_iff_ne.mpr ho
          have ho2 : (o.toList != ([] : List UInt8)) = true := bne_iff_ne.mpr ho
          have HO := Aside0.mk ho
          clear ho
          go_wp2_with fail
          refine (strings_HasSuffix.calls _ _ _ _ (suf_u (Nat.le_trans (Nat.le_add_right _ _) HT.out.sz))).mono ?_
          rintro e w3 ⟨rfl, hb⟩
          replace HY := Aside0.mk (blk_below HY.out hb)
          replace HB := Aside0.mk (below_step HB.out hb)
          clear hb hc
          have hc : w3.cell? ⟨ga, i, none⟩ = some (.int .u64 x) := (blk_cell HY.out i).trans ((HC.out i HI.out).trans (by rw [HE.out]))
          cases hs : Lib.hasSuffix o.data.toList [58] with
          | true =>
            have HN := Aside0.mk (HT.out.hexA HE.out HI.out HNP.out (fun h => Bool.noConfusion (hs.symm.trans h.2)))
            clear hs
            go_wp2_with fail
            refine (strconv_FormatUint.calls _ _ _ _ (hex_u HV.out) (HW.out.below HB.out)).mono ?_
            rintro e w4 ⟨rfl, hb⟩
            replace HY := Aside0.mk (blk_below HY.out hb)
            replace HB := Aside0.mk (below_step HB.out hb)
            clear hb
            generalize (⟨(hexL 4 x.toNat).toArray⟩ : ByteArray) = hx at HN ⊢
            have hs4 := sz_h HN.out
            try rw [ByteArray.size_append, show (⟨#[58]⟩ : ByteArray).size = 1 from rfl] at hs4
            go_wp2_with fail
            go_roundg m
            case measure => exact Nat.lt_succ_self m
            case rel => exact ⟨i + 1, _, rfl, by rw [HS.out], HN, HY, HB⟩
          | false =>
            have HN := Aside0.mk (HT.out.hexB HE.out HI.out HNP.out ⟨HO.out, hs⟩)
            have hs1 := sz_1 HT.out
            clear hs
            go_wp2_with fail
            refine (strconv_FormatUint.calls _ _ _ _ (hex_u HV.out) (HW.out.below HB.out)).mono ?_
            rintro e w4 ⟨rfl, hb⟩
            replace HY := Aside0.mk (blk_below HY.out hb)
            replace HB := Aside0.mk (below_step HB.out hb)
            clear hb
            generalize (⟨(hexL 4 x.toNat).toArray⟩ : ByteArray) = hx at HN ⊢
            have hs4 := sz_h HN.out
            try rw [ByteArray.size_append, show (⟨#[58]⟩ : ByteArray).size = 1 from rfl] at hs4
            go_wp2_with fail
            go_roundg m
            case measure => exact Nat.lt_succ_self m
            case rel => exact ⟨i + 1, _, rfl, by rw [HS.out], HN, HY, HB⟩
    · have hlt := r_ge hi8
      have hlt2 := r_ged hi8
      have e := HT.out.fin hi8
      subst e
      clear hi8
      go_wp2_with fail
      exact bodyPost_ret (v := .string o) (by simp [results, Tryd.results33, go_sem]) rfl ⟨rfl, HB.out⟩
def address_Format.f (a0 : Bool) (a1 a2 : Int) : Option ByteArray := if a0 = true then some (fmt6 a1 a2) else strings_Join.f [decB (Go.bits .and .u64 (a2 / 16777216) 255), decB (Go.bits .and .u64 (a2 / 65536) 255), decB (Go.bits .and .u64 (a2 / 256) 255), decB (Go.bits .and .u64 (a2) 255)] (⟨#[46]⟩ : ByteArray)
theorem address_Format.calls (a0 : Bool) (a1 a2 : Int) (r : ByteArray) (w : World) (h : address_Format.f a0 a1 a2 = some r) (hW : WOK w) :
    Calls Tryd.prog 33 #[.agg #[.bool a0, .int .u64 a1, .int .u64 a2]] w fun e w' => e = .returned (.string r) ∧ Below w.heap.size w w' := by
  unfold address_Format.f at h
  cases a0 with
  | true =>
    rw [if_pos rfl] at h
    injection h with h
    subst h
    exact format6 a1 a2 w hW
  | false =>
    rw [if_neg (by decide)] at h
    exact format4 a1 a2 r w h hW
end Go.Proofs.YtlgfinnldhjgeaaDoor.Q
end

section
namespace Go.Proofs.YtlgfinnldhjgeaaDoor.Q
open Go.RowKit Go.Proofs.YtlgfinnldhjgeaaDoorW.PrintWords Go.Proofs.YtlgfinnldhjgeaaDoorW.PrintLast Go.Proofs.YtlgfinnldhjgeaaDoorW.PrintMore
attribute [local go_sem] max2_int min2_int max_two min_two max_three min_three max_four min_four
set_option linter.unusedVariables false
set_option linter.unusedSimpArgs false
def address_FormatPrefix.f (a0_0 : Bool) (a0_1 : Int) (a0_2 : Int) (a0_3 : Int) : Option (ByteArray) := (address_Format.f a0_0 a0_1 a0_2).bind fun t467 => (if t467.size + 1 ≤ 9223372036854775807 then ((strconv_Itoa.f a0_3).bind fun t468 => (if (t467 ++ (⟨#[47]⟩ : ByteArray)).size + t468.size ≤ 9223372036854775807 then (some ((t467 ++ (⟨#[47]⟩ : ByteArray)) ++ t468)) else (none))) else (none))
def address_FormatPrefix.T1 : Bool × List (List Nat × List Nat) := (true, [([], []), ([0], [0]), ([1], [1]), ([2], [2]), ([], []), ([4], [4]), ([5, 2], [5]), ([3, 6], [3, 6]), ([7, 6, 0, 1, 2, 3, 4, 5, 6, 7], [7])])
def address_FormatPrefix.B1 : List Nat := [0, 1, 3, 7, 0, 16, 55, 127, 255]
theorem address_FormatPrefix.tab1 : rtab .any (opsOf Tryd.f36 1) = address_FormatPrefix.T1 := by kernel_rfl
theorem address_FormatPrefix.bits1 : waitsOk address_FormatPrefix.T1.2 address_FormatPrefix.B1 = true := by kernel_rfl
set_option maxHeartbeats 8000000 in
set_option maxRecDepth 100000 in
theorem address_FormatPrefix.calls (a0_0 : Bool) (a0_1 : Int) (a0_2 : Int) (a0_3 : Int) (r : ByteArray) (w : World) (h : address_FormatPrefix.f a0_0 a0_1 a0_2 a0_3 = some r) (hW_ : WOK w) :
 Calls Tryd.prog 36 #[.agg #[.bool a0_0, .int .u64 a0_1, .int .u64 a0_2, .int .i64 a0_3]] w fun e w' => e = .returned (.string r) ∧ Below w.heap.size w w' := by
 have hu30 := Tryd.underlying30
 have hu25 := Tryd.underlying25
 have HB := Aside0.mk (Below.refl w.heap.size w)
 unfold address_FormatPrefix.f at h; have H := h
 clear h
 replace H := Option.bind_eq_some_iff.mp H
 obtain ⟨t467, A20, H⟩ := H
 try dsimp only at H
 have A2 := Aside0.mk A20
 clear A20
 by_cases c3 : t467.size + 1 ≤ 9223372036854775807
 · rw [if_pos c3] at H
   have c3b0 := eq_true c3
   have c3b1 : decide (t467.size + 1 ≤ 9223372036854775807) = true := decide_eq_true c3
   try have c3b2 : (9223372036854775807 < t467.size + 1) = False := eq_false (Nat.not_lt.2 c3)
   replace H := Option.bind_eq_some_iff.mp H
   obtain ⟨t468, A40, H⟩ := H
   try dsimp only at H
   have A4 := Aside0.mk A40
   clear A40
   by_cases c5 : (t467 ++ (⟨#[47]⟩ : ByteArray)).size + t468.size ≤ 9223372036854775807
   · rw [if_pos c5] at H
     have c5b0 := eq_true c5
     have c5b8 : t467.size + 1 + t468.size ≤ 9223372036854775807 := by have q_ := c5; simp only [ByteArray.size_append] at q_; exact q_
     have c5b7 : (9223372036854775807 < t467.size + 1 + t468.size) = False := eq_false (Nat.not_lt.2 c5b8)
     replace c5b8 := eq_true c5b8
     have c5b1 : decide ((t467 ++ (⟨#[47]⟩ : ByteArray)).size + t468.size ≤ 9223372036854775807) = true := decide_eq_true c5
     try have c5b2 : (9223372036854775807 < (t467 ++ (⟨#[47]⟩ : ByteArray)).size + t468.size) = False := eq_false (Nat.not_lt.2 c5)
     obtain rfl := Option.some.inj H
     go_enter Tryd.func36, Tryd.ntmps36
     try go_wp2_with (first | ((with_reducible refine gate_dst (N := 1) rfl ?_); refine zx 1 #[.bool a0_0, .int .u64 a0_1, .int .u64 a0_2, .int .i64 a0_3] 30 ?_; intro gb466 hg w6 hbox hb; have BK466 := Aside0.mk (hbox); have GW466 := Aside0.mk ((by rw [hg]; exact (below_size (zB HB)) : w.heap.size ≤ gb466)); have GE466 := Aside0.mk ((by rw [hg]; exact (below_size (zB HB)) : w.heap.size ≤ gb466)); replace HB := Aside0.mk (below_step (zB HB) hb); clear hb hbox hg))
     replace BK466 := Aside0.mk (blk_drew BK466.out)
     replace HB := Aside0.mk (below_drew1 HB.out)
     refine start_ (n := 9) (S := fun w' => w'.cell? ⟨gb466, 0, none⟩ = some (.bool a0_0) ∧ w'.cell? ⟨gb466, 1, none⟩ = some (.int .u64 a0_1) ∧ w'.cell? ⟨gb466, 2, none⟩ = some (.int .u64 a0_2) ∧ w'.cell? ⟨gb466, 3, none⟩ = some (.int .i64 a0_3)) (ds := []) #[false, false, false, false, false, false, false, false, false] (by kernel_rfl) rfl rfl ⟨zc BK466 0, zc BK466 1, zc BK466 2, zc BK466 3⟩ (fun hHeld => ?_); refine with_tabW address_FormatPrefix.tab1 address_FormatPrefix.bits1 (fun HT_ HW_ => ?_)
     generalize w6.drew = w7 at BK466 HB hHeld ⊢
     refine zp 0 3 HT_ ?_; refine zp 4 7 HT_ ?_; refine zt 1 4 HT_ HW_ hHeld ?_; refine zt 5 8 HT_ HW_ hHeld ?_; refine zo 2 5 HT_ (fun K hK => ?_)
     refine zg Tryd.func33 #[.agg #[.bool a0_0, .int .u64 a0_1, .int .u64 a0_2]] ?_
     with_reducible refine (address_Format.calls a0_0 a0_1 a0_2 t467 _ A2.out (WOK.below hW_ (zB HB))).mono ?_
     rintro e w8 ⟨rfl, hb⟩
     refine ⟨_, rfl, ?_⟩
     replace BK466 := Aside0.mk (blk_below (g := gb466) (o := .cells #[.bool a0_0, .int .u64 a0_1, .int .u64 a0_2, .int .i64 a0_3] 30 (0, 0)) (zK BK466) hb)
     replace HB := Aside0.mk (below_step (zB HB) hb)
     (try clear hb)
     refine hK.out _ _ ⟨zc BK466 0, zc BK466 1, zc BK466 2, zc BK466 3⟩ (fun hHeld => ?_)
     clear hK K
     refine zn 5 ?_; refine zp 3 6 HT_ ?_; refine zo 6 9 HT_ (fun K hK => ?_)
     refine zg Tryd.func54 #[.int .i64 a0_3] ?_
     with_reducible refine (strconv_Itoa.calls a0_3 t468 _ A4.out (WOK.below hW_ (zB HB))).mono ?_
     rintro e w9 ⟨rfl, hb⟩
     refine ⟨_, rfl, ?_⟩
     replace BK466 := Aside0.mk (blk_below (g := gb466) (o := .cells #[.bool a0_0, .int .u64 a0_1, .int .u64 a0_2, .int .i64 a0_3] 30 (0, 0)) (zK BK466) hb)
     replace HB := Aside0.mk (below_step (zB HB) hb)
     (try clear hb)
     refine hK.out _ _ ⟨zc BK466 0, zc BK466 1, zc BK466 2, zc BK466 3⟩ (fun hHeld => ?_)
     clear hK K
     refine zn 9 ?_; refine zp 7 10 HT_ ?_; refine zp 8 2 HT_ ?_; refine zd HT_ ?_
     try go_wp2
     go_ret
     exact ⟨by first | rfl | (simp [errW_none, errW_some] <;> rfl) | (simp [*, errW_none, errW_some] <;> rfl), by repeat (first | (with_reducible first | exact HB.out | apply below_alloc | apply pw_below_drewN | apply below_drew1 | refine below_set ?_ GE466.out) | exact HB.out)⟩
   · rw [if_neg c5] at H
     exact absurd H (by simp)
 · rw [if_neg c3] at H
   exact absurd H (by simp)
end Go.Proofs.YtlgfinnldhjgeaaDoor.Q
end

section
namespace Go.Proofs.YtlgfinnldhjgeaaDoor.Q
open Go.RowKit Go.Proofs.YtlgfinnldhjgeaaDoorW.PrintWords Go.Proofs.YtlgfinnldhjgeaaDoorW.PrintLast Go.Proofs.YtlgfinnldhjgeaaDoorW.PrintMore
attribute [local go_sem] max2_int min2_int max_two min_two max_three min_three max_four min_four
set_option linter.unusedVariables false
set_option linter.unusedSimpArgs false
def intrusionref06_FormatPrefix.f (k : Nat) (a0_0 : Bool) (a0_1 : Int) (a0_2 : Int) (a0_3 : Int) : Option (ByteArray) := (intrusionref06_Format.f k a0_0 a0_1 a0_2).bind fun t470 => (if t470.size + 1 ≤ 9223372036854775807 then ((intrusionref06_Number.f k a0_3).bind fun t471 => (if (t470 ++ (⟨#[47]⟩ : ByteArray)).size + t471.size ≤ 9223372036854775807 then (some ((t470 ++ (⟨#[47]⟩ : ByteArray)) ++ t471)) else (none))) else (none))
theorem intrusionref06_FormatPrefix.mono : ∀ a0 a1 a2 a3 k, LeO (intrusionref06_FormatPrefix.f k a0 a1 a2 a3) (intrusionref06_FormatPrefix.f (k + 1) a0 a1 a2 a3) := by
  intro a0 a1 a2 a3 k
  unfold intrusionref06_FormatPrefix.f
  repeat' first
      | (with_reducible exact intrusionref06_Format.mono _ _ _ _)
      | (with_reducible exact intrusionref06_Number.mono _ _)
      | (with_reducible exact LeO.refl _)
      | (with_reducible exact LeO.none _)
      | (with_reducible refine LeO.ite ?_ ?_)
      | (with_reducible refine LeO.bind ?_ (fun _ => ?_))
      | exact intrusionref06_Format.mono _ _ _ _
      | exact intrusionref06_Number.mono _ _
      | exact LeO.none _
      | refine LeO.ite ?_ ?_
      | refine LeO.bind ?_ (fun _ => ?_)
def intrusionref06_FormatPrefix.T1 : Bool × List (List Nat × List Nat) := (true, [([], []), ([0], [0]), ([1], [1]), ([2], [2]), ([], []), ([4], [4]), ([5, 2], [5]), ([3, 6], [3, 6]), ([7, 6, 0, 1, 2, 3, 4, 5, 6, 7], [7])])
def intrusionref06_FormatPrefix.B1 : List Nat := [0, 1, 3, 7, 0, 16, 55, 127, 255]
theorem intrusionref06_FormatPrefix.tab1 : rtab .any (opsOf Tryd.f37 1) = intrusionref06_FormatPrefix.T1 := by kernel_rfl
theorem intrusionref06_FormatPrefix.bits1 : waitsOk intrusionref06_FormatPrefix.T1.2 intrusionref06_FormatPrefix.B1 = true := by kernel_rfl
set_option maxHeartbeats 8000000 in
set_option maxRecDepth 100000 in
theorem intrusionref06_FormatPrefix.calls (k : Nat) (a0_0 : Bool) (a0_1 : Int) (a0_2 : Int) (a0_3 : Int) (r : ByteArray) (w : World) (h : intrusionref06_FormatPrefix.f k a0_0 a0_1 a0_2 a0_3 = some r) :
 Calls Tryd.prog 37 #[.agg #[.bool a0_0, .int .u64 a0_1, .int .u64 a0_2, .int .i64 a0_3]] w fun e w' => e = .returned (.string r) ∧ Below w.heap.size w w' := by
 have hu30 := Tryd.underlying30
 have hu25 := Tryd.underlying25
 have HB := Aside0.mk (Below.refl w.heap.size w)
 unfold intrusionref06_FormatPrefix.f at h; have H := h
 clear h
 replace H := Option.bind_eq_some_iff.mp H
 obtain ⟨t470, A20, H⟩ := H
 try dsimp only at H
 have A2 := Aside0.mk A20
 clear A20
 by_cases c3 : t470.size + 1 ≤ 9223372036854775807
 · rw [if_pos c3] at H
   have c3b0 := eq_true c3
   have c3b1 : decide (t470.size + 1 ≤ 9223372036854775807) = true := decide_eq_true c3
   try have c3b2 : (9223372036854775807 < t470.size + 1) = False := eq_false (Nat.not_lt.2 c3)
   replace H := Option.bind_eq_some_iff.mp H
   obtain ⟨t471, A40, H⟩ := H
   try dsimp only at H
   have A4 := Aside0.mk A40
   clear A40
   by_cases c5 : (t470 ++ (⟨#[47]⟩ : ByteArray)).size + t471.size ≤ 9223372036854775807
   · rw [if_pos c5] at H
     have c5b0 := eq_true c5
     have c5b8 : t470.size + 1 + t471.size ≤ 9223372036854775807 := by have q_ := c5; simp only [ByteArray.size_append] at q_; exact q_
     have c5b7 : (9223372036854775807 < t470.size + 1 + t471.size) = False := eq_false (Nat.not_lt.2 c5b8)
     replace c5b8 := eq_true c5b8
     have c5b1 : decide ((t470 ++ (⟨#[47]⟩ : ByteArray)).size + t471.size ≤ 9223372036854775807) = true := decide_eq_true c5
     try have c5b2 : (9223372036854775807 < (t470 ++ (⟨#[47]⟩ : ByteArray)).size + t471.size) = False := eq_false (Nat.not_lt.2 c5)
     obtain rfl := Option.some.inj H
     go_enter Tryd.func37, Tryd.ntmps37
     try go_wp2_with (first | ((with_reducible refine gate_dst (N := 1) rfl ?_); refine zx 1 #[.bool a0_0, .int .u64 a0_1, .int .u64 a0_2, .int .i64 a0_3] 30 ?_; intro gb469 hg w6 hbox hb; have BK469 := Aside0.mk (hbox); have GW469 := Aside0.mk ((by rw [hg]; exact (below_size (zB HB)) : w.heap.size ≤ gb469)); have GE469 := Aside0.mk ((by rw [hg]; exact (below_size (zB HB)) : w.heap.size ≤ gb469)); replace HB := Aside0.mk (below_step (zB HB) hb); clear hb hbox hg))
     replace BK469 := Aside0.mk (blk_drew BK469.out)
     replace HB := Aside0.mk (below_drew1 HB.out)
     refine start_ (n := 9) (S := fun w' => w'.cell? ⟨gb469, 0, none⟩ = some (.bool a0_0) ∧ w'.cell? ⟨gb469, 1, none⟩ = some (.int .u64 a0_1) ∧ w'.cell? ⟨gb469, 2, none⟩ = some (.int .u64 a0_2) ∧ w'.cell? ⟨gb469, 3, none⟩ = some (.int .i64 a0_3)) (ds := []) #[false, false, false, false, false, false, false, false, false] (by kernel_rfl) rfl rfl ⟨zc BK469 0, zc BK469 1, zc BK469 2, zc BK469 3⟩ (fun hHeld => ?_); refine with_tabW intrusionref06_FormatPrefix.tab1 intrusionref06_FormatPrefix.bits1 (fun HT_ HW_ => ?_)
     generalize w6.drew = w7 at BK469 HB hHeld ⊢
     refine zp 0 3 HT_ ?_; refine zp 4 7 HT_ ?_; refine zt 1 4 HT_ HW_ hHeld ?_; refine zt 5 8 HT_ HW_ hHeld ?_; refine zo 2 5 HT_ (fun K hK => ?_)
     refine zg Tryd.func34 #[.agg #[.bool a0_0, .int .u64 a0_1, .int .u64 a0_2]] ?_
     with_reducible refine (intrusionref06_Format.calls k a0_0 a0_1 a0_2 t470 _ A2.out).mono ?_
     rintro e w8 ⟨rfl, hb⟩
     refine ⟨_, rfl, ?_⟩
     replace BK469 := Aside0.mk (blk_below (g := gb469) (o := .cells #[.bool a0_0, .int .u64 a0_1, .int .u64 a0_2, .int .i64 a0_3] 30 (0, 0)) (zK BK469) hb)
     replace HB := Aside0.mk (below_step (zB HB) hb)
     (try clear hb)
     refine hK.out _ _ ⟨zc BK469 0, zc BK469 1, zc BK469 2, zc BK469 3⟩ (fun hHeld => ?_)
     clear hK K
     refine zn 5 ?_; refine zp 3 6 HT_ ?_; refine zo 6 9 HT_ (fun K hK => ?_)
     refine zg Tryd.func59 #[.int .i64 a0_3] ?_
     with_reducible refine (intrusionref06_Number.calls k a0_3 t471 _ A4.out).mono ?_
     rintro e w9 ⟨rfl, hb⟩
     refine ⟨_, rfl, ?_⟩
     replace BK469 := Aside0.mk (blk_below (g := gb469) (o := .cells #[.bool a0_0, .int .u64 a0_1, .int .u64 a0_2, .int .i64 a0_3] 30 (0, 0)) (zK BK469) hb)
     replace HB := Aside0.mk (below_step (zB HB) hb)
     (try clear hb)
     refine hK.out _ _ ⟨zc BK469 0, zc BK469 1, zc BK469 2, zc BK469 3⟩ (fun hHeld => ?_)
     clear hK K
     refine zn 9 ?_; refine zp 7 10 HT_ ?_; refine zp 8 2 HT_ ?_; refine zd HT_ ?_
     try go_wp2
     go_ret
     exact ⟨by first | rfl | (simp [errW_none, errW_some] <;> rfl) | (simp [*, errW_none, errW_some] <;> rfl), by repeat (first | (with_reducible first | exact HB.out | apply below_alloc | apply pw_below_drewN | apply below_drew1 | refine below_set ?_ GE469.out) | exact HB.out)⟩
   · rw [if_neg c5] at H
     exact absurd H (by simp)
 · rw [if_neg c3] at H
   exact absurd H (by simp)
end Go.Proofs.YtlgfinnldhjgeaaDoor.Q
end

section
namespace Go.Proofs.YtlgfinnldhjgeaaDoor.Q
open Go.RowKit Go.Proofs.YtlgfinnldhjgeaaDoorW.PrintWords Go.Proofs.YtlgfinnldhjgeaaDoorW.PrintLast Go.Proofs.YtlgfinnldhjgeaaDoorW.PrintMore
attribute [local go_sem] max2_int min2_int max_two min_two max_three min_three max_four min_four
set_option linter.unusedVariables false
set_option linter.unusedSimpArgs false
def intrusionref06_Bounds.f (k : Nat) (a0_0 : Bool) (a0_1 : Int) (a0_2 : Int) (a0_3 : Int) : Option (Bool × Int × Int × Bool × Int × Int) := (intrusionref06_with.f k a0_0 a0_1 a0_2 a0_3 true).bind fun bt474 => (some (a0_0, a0_1, a0_2, bt474.1, bt474.2.1, bt474.2.2))
theorem intrusionref06_Bounds.mono : ∀ a0 a1 a2 a3 k, LeO (intrusionref06_Bounds.f k a0 a1 a2 a3) (intrusionref06_Bounds.f (k + 1) a0 a1 a2 a3) := by
  intro a0 a1 a2 a3 k
  unfold intrusionref06_Bounds.f
  repeat' first
      | (with_reducible exact intrusionref06_with.mono _ _ _ _ _ _)
      | (with_reducible exact LeO.refl _)
      | (with_reducible exact LeO.none _)
      | (with_reducible refine LeO.ite ?_ ?_)
      | (with_reducible refine LeO.bind ?_ (fun _ => ?_))
      | exact intrusionref06_with.mono _ _ _ _ _ _
      | exact LeO.none _
      | refine LeO.ite ?_ ?_
      | refine LeO.bind ?_ (fun _ => ?_)
def intrusionref06_Bounds.T1 : Bool × List (List Nat × List Nat) := (true, [([], []), ([0], [0]), ([], []), ([2], [2]), ([], []), ([4], [4]), ([3, 5], [3, 5]), ([1, 6], [1, 6]), ([7, 6, 0, 1, 2, 3, 4, 5, 6, 7], [7])])
def intrusionref06_Bounds.B1 : List Nat := [0, 1, 0, 4, 0, 16, 60, 127, 255]
theorem intrusionref06_Bounds.tab1 : rtab .any (opsOf Tryd.f38 1) = intrusionref06_Bounds.T1 := by kernel_rfl
theorem intrusionref06_Bounds.bits1 : waitsOk intrusionref06_Bounds.T1.2 intrusionref06_Bounds.B1 = true := by kernel_rfl
set_option maxHeartbeats 8000000 in
set_option maxRecDepth 100000 in
theorem intrusionref06_Bounds.calls (k : Nat) (a0_0 : Bool) (a0_1 : Int) (a0_2 : Int) (a0_3 : Int) (r1 : Bool) (r2 : Int) (r3 : Int) (r4 : Bool) (r5 : Int) (r6 : Int) (w : World) (h : intrusionref06_Bounds.f k a0_0 a0_1 a0_2 a0_3 = some (r1, r2, r3, r4, r5, r6)) :
 Calls Tryd.prog 38 #[.agg #[.bool a0_0, .int .u64 a0_1, .int .u64 a0_2, .int .i64 a0_3]] w fun e w' => e = .returned (.agg #[.bool r1, .int .u64 r2, .int .u64 r3, .bool r4, .int .u64 r5, .int .u64 r6]) ∧ Below w.heap.size w w' := by
 have hu30 := Tryd.underlying30
 have hu43 := Tryd.underlying43
 have hu25 := Tryd.underlying25
 have HB := Aside0.mk (Below.refl w.heap.size w)
 unfold intrusionref06_Bounds.f at h; have H := h
 clear h
 replace H := Option.bind_eq_some_iff.mp H
 obtain ⟨⟨t474, t475, t476⟩, A20, H⟩ := H
 replace H : (some (a0_0, a0_1, a0_2, t474, t475, t476)) = some (r1, r2, r3, r4, r5, r6) := H
 have A2 := Aside0.mk A20
 clear A20
 simp only [Option.some.injEq, Prod.mk.injEq] at H
 obtain ⟨rfl, rfl, rfl, rfl, rfl, rfl⟩ := H
 go_enter Tryd.func38, Tryd.ntmps38
 try go_wp2_with (first | ((with_reducible refine gate_dst (N := 1) rfl ?_); refine zx 1 #[.bool a0_0, .int .u64 a0_1, .int .u64 a0_2, .int .i64 a0_3] 30 ?_; intro gb472 hg w3 hbox hb; have BK472 := Aside0.mk (hbox); have GW472 := Aside0.mk ((by rw [hg]; exact (below_size (zB HB)) : w.heap.size ≤ gb472)); have GE472 := Aside0.mk ((by rw [hg]; exact (below_size (zB HB)) : w.heap.size ≤ gb472)); replace HB := Aside0.mk (below_step (zB HB) hb); clear hb hbox hg) | ((with_reducible refine gate_dst (N := 2) rfl ?_); refine zx 2 #[.bool false, .int .u64 0, .int .u64 0, .bool false, .int .u64 0, .int .u64 0] 43 ?_; intro gb473 hg w4 hbox hb; have BK473 := Aside0.mk (hbox); have GW473 := Aside0.mk ((by rw [hg]; exact (below_size (zB HB)) : w.heap.size ≤ gb473)); have GE473 := Aside0.mk ((by rw [hg]; exact (below_size (zB HB)) : w.heap.size ≤ gb473)); replace HB := Aside0.mk (below_step (zB HB) hb); have NB472_473 := Aside0.mk ((by rw [hg]; exact Nat.ne_of_lt (blk_lt (g := gb472) (o := .cells #[.bool a0_0, .int .u64 a0_1, .int .u64 a0_2, .int .i64 a0_3] 30 (0, 0)) (zK BK472)) : gb472 ≠ gb473)); have NB473_472 := Aside0.mk ((by rw [hg]; exact Nat.ne_of_gt (blk_lt (g := gb472) (o := .cells #[.bool a0_0, .int .u64 a0_1, .int .u64 a0_2, .int .i64 a0_3] 30 (0, 0)) (zK BK472)) : gb473 ≠ gb472)); replace BK472 := Aside0.mk (blk_below (g := gb472) (o := .cells #[.bool a0_0, .int .u64 a0_1, .int .u64 a0_2, .int .i64 a0_3] 30 (0, 0)) (zK BK472) hb); clear hb hbox hg))
 replace BK472 := Aside0.mk (blk_drew BK472.out)
 replace BK473 := Aside0.mk (blk_drew BK473.out)
 replace HB := Aside0.mk (below_drew1 HB.out)
 refine start_ (n := 9) (S := fun w' => w'.cell? ⟨gb472, 0, none⟩ = some (.bool a0_0) ∧ w'.cell? ⟨gb472, 1, none⟩ = some (.int .u64 a0_1) ∧ w'.cell? ⟨gb472, 2, none⟩ = some (.int .u64 a0_2) ∧ w'.cell? ⟨gb472, 3, none⟩ = some (.int .i64 a0_3)) (ds := []) #[false, false, false, false, false, false, false, false, false] (by kernel_rfl) rfl rfl ⟨zc BK472 0, zc BK472 1, zc BK472 2, zc BK472 3⟩ (fun hHeld => ?_); refine with_tabW intrusionref06_Bounds.tab1 intrusionref06_Bounds.bits1 (fun HT_ HW_ => ?_)
 generalize w4.drew = w5 at BK472 BK473 HB hHeld ⊢
 refine zp 0 3 HT_ ?_; refine zp 2 5 HT_ ?_; refine zp 4 7 HT_ ?_; refine zt 1 4 HT_ HW_ hHeld ?_; refine zt 3 6 HT_ HW_ hHeld ?_; refine zt 5 8 HT_ HW_ hHeld ?_; refine zo 6 9 HT_ (fun K hK => ?_)
 refine zg Tryd.func50 #[.agg #[.bool a0_0, .int .u64 a0_1, .int .u64 a0_2], .int .i64 a0_3, .bool true] ?_
 with_reducible refine (intrusionref06_with.calls k a0_0 a0_1 a0_2 a0_3 true t474 t475 t476 _ A2.out).mono ?_
 rintro e w6 ⟨rfl, hb⟩
 refine ⟨_, rfl, ?_⟩
 replace BK472 := Aside0.mk (blk_below (g := gb472) (o := .cells #[.bool a0_0, .int .u64 a0_1, .int .u64 a0_2, .int .i64 a0_3] 30 (0, 0)) (zK BK472) hb)
 replace BK473 := Aside0.mk (blk_below (g := gb473) (o := .cells #[.bool false, .int .u64 0, .int .u64 0, .bool false, .int .u64 0, .int .u64 0] 43 (0, 0)) (zK BK473) hb)
 replace HB := Aside0.mk (below_step (zB HB) hb)
 (try clear hb)
 refine hK.out _ _ ⟨zc BK472 0, zc BK472 1, zc BK472 2, zc BK472 3⟩ (fun hHeld => ?_)
 clear hK K
 refine zn 9 ?_; refine zp 7 10 HT_ ?_
 refine one_ (i := 8) (N := none) #[true, true, true, true, true, true, true, true, true] rfl rfl (one_of HT_.out (by kernel_rfl)) (by decide) (fun K hK => ?_)
 have hs7 : w6.cell? ⟨gb473, 0, none⟩ = some (.bool false) := zc BK473 0
 have hfs7 := blk_frozen BK473.out 0
 have hns7_0 := NB472_473.out
 have hms7_0 := NB473_472.out
 have hs8 : w6.cell? ⟨gb473, 1, none⟩ = some (.int .u64 0) := zc BK473 1
 have hfs8 := blk_frozen BK473.out 1
 have hns8_0 := NB472_473.out
 have hms8_0 := NB473_472.out
 have hs9 : w6.cell? ⟨gb473, 2, none⟩ = some (.int .u64 0) := zc BK473 2
 have hfs9 := blk_frozen BK473.out 2
 have hns9_0 := NB472_473.out
 have hms9_0 := NB473_472.out
 have hs10 : w6.cell? ⟨gb473, 3, none⟩ = some (.bool false) := zc BK473 3
 have hfs10 := blk_frozen BK473.out 3
 have hns10_0 := NB472_473.out
 have hms10_0 := NB473_472.out
 have hs11 : w6.cell? ⟨gb473, 4, none⟩ = some (.int .u64 0) := zc BK473 4
 have hfs11 := blk_frozen BK473.out 4
 have hns11_0 := NB472_473.out
 have hms11_0 := NB473_472.out
 have hs12 : w6.cell? ⟨gb473, 5, none⟩ = some (.int .u64 0) := zc BK473 5
 have hfs12 := blk_frozen BK473.out 5
 have hns12_0 := NB472_473.out
 have hms12_0 := NB473_472.out
 refine skip_ (w1 := ?_) (by rfl) rfl ?_ ?_
 rotate_left
 · go_simp
   rfl
 refine hK.out _ _ ⟨((cell_far (p := ⟨gb473, _, none⟩) NB472_473.out _).trans (((cell_far (p := ⟨gb473, _, none⟩) NB472_473.out _).trans (((cell_far (p := ⟨gb473, _, none⟩) NB472_473.out _).trans (((cell_far (p := ⟨gb473, _, none⟩) NB472_473.out _).trans (((cell_far (p := ⟨gb473, _, none⟩) NB472_473.out _).trans (((cell_far (p := ⟨gb473, _, none⟩) NB472_473.out _).trans (hHeld.1)))))))))))), ((cell_far (p := ⟨gb473, _, none⟩) NB472_473.out _).trans (((cell_far (p := ⟨gb473, _, none⟩) NB472_473.out _).trans (((cell_far (p := ⟨gb473, _, none⟩) NB472_473.out _).trans (((cell_far (p := ⟨gb473, _, none⟩) NB472_473.out _).trans (((cell_far (p := ⟨gb473, _, none⟩) NB472_473.out _).trans (((cell_far (p := ⟨gb473, _, none⟩) NB472_473.out _).trans (hHeld.2.1)))))))))))), ((cell_far (p := ⟨gb473, _, none⟩) NB472_473.out _).trans (((cell_far (p := ⟨gb473, _, none⟩) NB472_473.out _).trans (((cell_far (p := ⟨gb473, _, none⟩) NB472_473.out _).trans (((cell_far (p := ⟨gb473, _, none⟩) NB472_473.out _).trans (((cell_far (p := ⟨gb473, _, none⟩) NB472_473.out _).trans (((cell_far (p := ⟨gb473, _, none⟩) NB472_473.out _).trans (hHeld.2.2.1)))))))))))), ((cell_far (p := ⟨gb473, _, none⟩) NB472_473.out _).trans (((cell_far (p := ⟨gb473, _, none⟩) NB472_473.out _).trans (((cell_far (p := ⟨gb473, _, none⟩) NB472_473.out _).trans (((cell_far (p := ⟨gb473, _, none⟩) NB472_473.out _).trans (((cell_far (p := ⟨gb473, _, none⟩) NB472_473.out _).trans (((cell_far (p := ⟨gb473, _, none⟩) NB472_473.out _).trans (hHeld.2.2.2))))))))))))⟩ (fun hHeld => ?_)
 clear hK K
 refine zd HT_ ?_
 try go_wp2
 refine bodyPost_ret (results_cell_row rfl _ _ gb473 43 #[.bool a0_0, .int .u64 a0_1, .int .u64 a0_2, .bool t474, .int .u64 t475, .int .u64 t476] (0, 0) _ rfl (by refine zL ?_; refine blk_put (cs := #[.bool a0_0, .int .u64 a0_1, .int .u64 a0_2, .bool t474, .int .u64 t475, .int .u64 0]) ?_ 5 _ rfl; refine zL ?_; refine blk_put (cs := #[.bool a0_0, .int .u64 a0_1, .int .u64 a0_2, .bool t474, .int .u64 0, .int .u64 0]) ?_ 4 _ rfl; refine zL ?_; refine blk_put (cs := #[.bool a0_0, .int .u64 a0_1, .int .u64 a0_2, .bool false, .int .u64 0, .int .u64 0]) ?_ 3 _ rfl; refine zL ?_; refine blk_put (cs := #[.bool a0_0, .int .u64 a0_1, .int .u64 0, .bool false, .int .u64 0, .int .u64 0]) ?_ 2 _ rfl; refine zL ?_; refine blk_put (cs := #[.bool a0_0, .int .u64 0, .int .u64 0, .bool false, .int .u64 0, .int .u64 0]) ?_ 1 _ rfl; refine zL ?_; refine blk_put (cs := #[.bool false, .int .u64 0, .int .u64 0, .bool false, .int .u64 0, .int .u64 0]) ?_ 0 _ rfl; refine zL ?_; exact BK473.out) Tryd.underlying43 rfl (by kernel_rfl)) rfl ?_
 exact ⟨by first | rfl | (simp [errW_none, errW_some] <;> rfl) | (simp [*, errW_none, errW_some] <;> rfl), by repeat (first | (with_reducible first | exact HB.out | apply below_alloc | apply pw_below_drewN | apply below_drew1 | refine below_set ?_ GE472.out | refine below_set ?_ GE473.out) | exact HB.out)⟩
end Go.Proofs.YtlgfinnldhjgeaaDoor.Q
end

section
set_option linter.unusedVariables false
set_option linter.unusedSimpArgs false
namespace Go.Proofs.YtlgfinnldhjgeaaDoor.Q
open Go.RowKit Go.Proofs.YtlgfinnldhjgeaaDoorW.PrintWords Go.Proofs.YtlgfinnldhjgeaaDoorW.PrintLast Go.Proofs.YtlgfinnldhjgeaaDoorW.PrintMore
theorem bcell {W w1 : World} (hb : Below W.heap.size W w1) : (∀ b o, b < W.heap.size → w1.cell? ⟨b, o, none⟩ = W.cell? ⟨b, o, none⟩) ∧ (∀ b o, b < W.heap.size → w1.frozen? ⟨b, o, none⟩ = W.frozen? ⟨b, o, none⟩) :=
  ⟨fun b o h => hb.cell (p := ⟨b, o, none⟩) h, fun b o h => hb.frozen (p := ⟨b, o, none⟩) h⟩
def address_Bounds.f (a0_0 : Bool) (a0_1 : Int) (a0_2 : Int) (a0_3 : Int) : Option (Bool × Int × Int × Bool × Int × Int) := (address_mask.f a0_0 a0_1 a0_2 a0_3).bind fun bt => some (a0_0, a0_1, a0_2, a0_0, Go.bits .or .u64 a0_1 bt.1, Go.bits .or .u64 a0_2 bt.2)
set_option maxHeartbeats 1000000 in
set_option maxRecDepth 100000 in
theorem address_Bounds.calls (a0_0 : Bool) (a0_1 : Int) (a0_2 : Int) (a0_3 : Int) (r1 : Bool) (r2 : Int) (r3 : Int) (r4 : Bool) (r5 : Int) (r6 : Int) (w : World) (h : address_Bounds.f a0_0 a0_1 a0_2 a0_3 = some (r1, r2, r3, r4, r5, r6)) :
    Calls Tryd.prog 27 #[.agg #[.bool a0_0, .int .u64 a0_1, .int .u64 a0_2, .int .i64 a0_3]] w fun e w' => e = .returned (.agg #[.bool r1, .int .u64 r2, .int .u64 r3, .bool r4, .int .u64 r5, .int .u64 r6]) ∧ Below w.heap.size w w' := by
  unfold address_Bounds.f at h
  obtain ⟨⟨hi, lo⟩, A, h⟩ := Option.bind_eq_some_iff.1 h
  simp only [Option.some.injEq, Prod.mk.injEq] at h
  obtain ⟨rfl, rfl, rfl, rfl, rfl, rfl⟩ := h
  have hu45 := Tryd.underlying30
  have hu66 := Tryd.underlying43
  have hu36 := Tryd.underlying25
  have HA := Aside0.mk A
  clear A
  go_enter Tryd.func27, Tryd.ntmps27
  go_wp2_with (go_at_call 51; refine (address_mask.calls a0_0 a0_1 a0_2 a0_3 hi lo _ HA.out).mono ?_; rintro e w2 ⟨rfl, hb⟩; obtain ⟨hc, hf⟩ := bcell hb; have hz : w.heap.size + 1 < w2.heap.size := (by have := hb.size; simp at this; omega); have hz0 : w.heap.size < w2.heap.size := Nat.lt_trans (Nat.lt_succ_self _) hz; have hn : (w.heap.size = w2.heap.size) = False := eq_false (Nat.ne_of_lt hz0); have HB := Aside0.mk hb; clear hb)
  have HS : Aside0 (w.heap.size ≤ w.heap.size + 1) := ⟨Nat.le_succ _⟩
  have HZ := Aside0.mk hz
  exact bodyPost_ret (v := .agg #[.bool a0_0, .int .u64 a0_1, .int .u64 a0_2, .bool a0_0, .int .u64 (Go.bits .or .u64 a0_1 hi), .int .u64 (Go.bits .or .u64 a0_2 lo)]) (by simp [results, Tryd.results27, go_sem, hc, hz]) rfl ⟨rfl, by repeat (first | (with_reducible apply below_alloc) | (with_reducible refine Below.setCell ?_ HS.out _) | exact (below_alloc (below_alloc (Below.refl _ _) _) _).trans (HB.out.mono (by simp; omega)))⟩
end Go.Proofs.YtlgfinnldhjgeaaDoor.Q
end

section
namespace Go.Proofs.YtlgfinnldhjgeaaDoor.Q
open Go.RowKit Go.Proofs.YtlgfinnldhjgeaaDoorW.PrintWords Go.Proofs.YtlgfinnldhjgeaaDoorW.PrintLast Go.Proofs.YtlgfinnldhjgeaaDoorW.PrintMore
attribute [local go_sem] max2_int min2_int max_two min_two max_three min_three max_four min_four
set_option linter.unusedVariables false
set_option linter.unusedSimpArgs false
mutual
def address_number.j0 : Nat → ByteArray → Int → Bool → Option (Int × Bool)
  | 0, _, _, _ => none
  | k + 1, x0, x1, x24 => if x24 = true then (some (0, false)) else (address_number.l0 k x0 x1 0 (x0.size : Int) 0)
def address_number.l0 : Nat → ByteArray → Int → Int → Int → Int → Option (Int × Bool)
  | 0, _, _, _, _, _ => none
  | k + 1, x0, x1, x6, x26, x27 => if x27 < x26 then (if 0 ≤ x27 then (if x27 < (x0.size : Int) then (if (bt x0 x27) < 48 then (some (0, false)) else (if (bt x0 x27) > 57 then (some (0, false)) else (address_number.l0 k x0 x1 (wrap64 ((wrap64 (x6 * 10)) + (((bt x0 x27) - 48) % 256))) x26 (wrap64 (x27 + 1))))) else (none)) else (none)) else (some (x6, decide (x6 ≤ x1)))
end
def address_number.f (k : Nat) (a0 : ByteArray) (a1 : Int) : Option (Int × Bool) := if a0.toList = ([] : List UInt8) then (address_number.j0 k a0 a1 true) else (if (a0.size : Int) > 9 then (address_number.j0 k a0 a1 true) else (if 0 < (a0.size : Int) then (if (bt a0 0) = 48 then (address_number.j0 k a0 a1 (decide ((a0.size : Int) > 1))) else (address_number.j0 k a0 a1 false)) else (none)))
theorem address_number.mono_l : ∀ k, (∀ y0 y1 y2, LeO (address_number.j0 k y0 y1 y2) (address_number.j0 (k + 1) y0 y1 y2)) ∧ (∀ y0 y1 y2 y3 y4, LeO (address_number.l0 k y0 y1 y2 y3 y4) (address_number.l0 (k + 1) y0 y1 y2 y3 y4))
  | 0 => ⟨fun _ _ _ r h => by simp [address_number.j0] at h, fun _ _ _ _ _ r h => by simp [address_number.l0] at h⟩
  | k + 1 => by
    obtain ⟨ih0, ih1⟩ := address_number.mono_l k
    refine ⟨?_, ?_⟩
    · intro y0 y1 y2
      unfold address_number.j0
      repeat' first
      | (with_reducible exact ih0 _ _ _)
      | (with_reducible exact ih1 _ _ _ _ _)
      | (with_reducible exact LeO.refl _)
      | (with_reducible exact LeO.none _)
      | (with_reducible refine LeO.ite ?_ ?_)
      | (with_reducible refine LeO.bind ?_ (fun _ => ?_))
      | exact ih0 _ _ _
      | exact ih1 _ _ _ _ _
      | exact LeO.none _
      | refine LeO.ite ?_ ?_
      | refine LeO.bind ?_ (fun _ => ?_)
    · intro y0 y1 y2 y3 y4
      unfold address_number.l0
      repeat' first
      | (with_reducible exact ih0 _ _ _)
      | (with_reducible exact ih1 _ _ _ _ _)
      | (with_reducible exact LeO.refl _)
      | (with_reducible exact LeO.none _)
      | (with_reducible refine LeO.ite ?_ ?_)
      | (with_reducible refine LeO.bind ?_ (fun _ => ?_))
      | exact ih0 _ _ _
      | exact ih1 _ _ _ _ _
      | exact LeO.none _
      | refine LeO.ite ?_ ?_
      | refine LeO.bind ?_ (fun _ => ?_)
theorem address_number.mono : ∀ a0 a1 k, LeO (address_number.f k a0 a1) (address_number.f (k + 1) a0 a1) := by
  intro a0 a1 k
  obtain ⟨ih0, ih1⟩ := address_number.mono_l k
  unfold address_number.f
  repeat' first
      | (with_reducible exact ih0 _ _ _)
      | (with_reducible exact ih1 _ _ _ _ _)
      | (with_reducible exact LeO.refl _)
      | (with_reducible exact LeO.none _)
      | (with_reducible refine LeO.ite ?_ ?_)
      | (with_reducible refine LeO.bind ?_ (fun _ => ?_))
      | exact ih0 _ _ _
      | exact ih1 _ _ _ _ _
      | exact LeO.none _
      | refine LeO.ite ?_ ?_
      | refine LeO.bind ?_ (fun _ => ?_)
set_option maxHeartbeats 8000000 in
set_option maxRecDepth 100000 in
theorem address_number.calls (k : Nat) (a0 : ByteArray) (a1 : Int) (r1 : Int) (r2 : Bool) (w : World) (h : address_number.f k a0 a1 = some (r1, r2)) :
 Calls Tryd.prog 64 #[.string a0, .int .i64 a1] w fun e w' => e = .returned (.tuple #[.int .i64 r1, .bool r2]) ∧ Drawn0 w w' := by
 unfold address_number.f at h; have H := h
 clear h
 have HC3 := Aside0.mk H
 clear H
 go_enter Tryd.func64, Tryd.ntmps64
 go_upto_region 1 with (fail)
 go_cut [24] (fun v24 wc => ∃ (kq : Nat) (x24_2 : Bool), v24 = .bool x24_2 ∧ Aside0 (address_number.j0 kq a0 a1 x24_2 = some (r1, r2)) ∧ Aside0 (kq ≤ k) ∧ Drawn0 w wc)
 case first =>
  have H := HC3.out
  clear HC3
  by_cases c4 : a0.toList = ([] : List UInt8)
  · rw [if_pos c4] at H
    have c4b0 : (a0.toList == ([] : List UInt8)) = true := beq_iff_eq.mpr c4
    have c4b1 : (a0.toList != ([] : List UInt8)) = false := bne_eq_false_iff_eq.mpr c4
    clear c4
    (first | rw [c4b0] | (simp only [i64_w, i32_w]; rw [c4b0]) | skip)
    have H' := Aside0.mk H
    clear H
    go_wp2
    go_meet
    case rel => exact ⟨_, (true), (by first | rfl | (simp; done) | (simp [*]; done)), H', ⟨by first | omega | exact Nat.le_refl _⟩, by repeat (first | exact Drawn0.refl _ | apply Drawn0.step)⟩
  · rw [if_neg c4] at H
    have c4b0 : (a0.toList == ([] : List UInt8)) = false := beq_eq_false_iff_ne.mpr c4
    have c4b1 : (a0.toList != ([] : List UInt8)) = true := bne_iff_ne.mpr c4
    (first | rw [c4b0] | (simp only [i64_w, i32_w]; rw [c4b0]) | skip)
    by_cases c5 : (a0.size : Int) > 9
    · rw [if_pos c5] at H
      have c5b0 : decide (9 < (a0.size : Int)) = true := decide_eq_true c5
      have c5b1 : decide (9 < a0.size) = true := decide_eq_true (by omega)
      clear c5
      have H' := Aside0.mk H
      clear H
      go_wp2
      go_meet
      case rel => exact ⟨_, (true), (by first | rfl | (simp; done) | (simp [*]; done)), H', ⟨by first | omega | exact Nat.le_refl _⟩, by repeat (first | exact Drawn0.refl _ | apply Drawn0.step)⟩
    · rw [if_neg c5] at H
      have c5b0 : decide (9 < (a0.size : Int)) = false := decide_eq_false c5
      have c5b1 : decide (9 < a0.size) = false := decide_eq_false (by omega)
      clear c5
      by_cases c6 : 0 < (a0.size : Int)
      · rw [if_pos c6] at H
        have c6b0 : decide (0 < (a0.size : Int)) = true := decide_eq_true c6
        have c6b1 : decide (0 < a0.size) = true := decide_eq_true (by omega)
        clear c6
        by_cases c8 : (bt a0 0) = 48
        · rw [if_pos c8] at H
          have c8b0 : ((bt a0 0) == 48) = true := beq_iff_eq.mpr c8
          have c8b1 : ((bt a0 0) != 48) = false := bne_eq_false_iff_eq.mpr c8
          clear c8
          have H' := Aside0.mk H
          clear H
          have p7 : 0 ≤ (0 : Int) := (by omega)
          have q7 : 0 < a0.size := (by have : (0 : Int) < (a0.size : Int) := za; omega)
          have hx7 : ∀ h : 0 < a0.size, ((a0[0]'h).toNat : Int) = bt a0 0 := bt_at a0 0
          clear p7
          have qi7 : (0 < (a0.size : Int)) = True := eq_true (of_decide_eq_true (by first | (with_reducible assumption) | assumption))
          replace q7 := eq_true q7
          go_wp2
          go_meet
          case rel => exact ⟨_, (decide ((a0.size : Int) > 1)), (by first | rfl | (simp; done) | (simp [*]; done)), H', ⟨by first | omega | exact Nat.le_refl _⟩, by repeat (first | exact Drawn0.refl _ | apply Drawn0.step)⟩
        · rw [if_neg c8] at H
          have c8b0 : ((bt a0 0) == 48) = false := beq_eq_false_iff_ne.mpr c8
          have c8b1 : ((bt a0 0) != 48) = true := bne_iff_ne.mpr c8
          have H' := Aside0.mk H
          clear H
          have p7 : 0 ≤ (0 : Int) := (by omega)
          have q7 : 0 < a0.size := (by have : (0 : Int) < (a0.size : Int) := za; omega)
          have hx7 : ∀ h : 0 < a0.size, ((a0[0]'h).toNat : Int) = bt a0 0 := bt_at a0 0
          clear p7
          have qi7 : (0 < (a0.size : Int)) = True := eq_true (of_decide_eq_true (by first | (with_reducible assumption) | assumption))
          replace q7 := eq_true q7
          go_wp2
          go_meet
          case rel => exact ⟨_, (false), (by first | rfl | (simp; done) | (simp [*]; done)), H', ⟨by first | omega | exact Nat.le_refl _⟩, by repeat (first | exact Drawn0.refl _ | apply Drawn0.step)⟩
      · rw [if_neg c6] at H
        exact absurd H (by simp)
 case rest =>
  clear HC3
  try clear p2
  try clear c4
  try clear c4b0
  try clear c4b1
  try clear c5
  try clear c5b0
  try clear c5b1
  try clear c6
  try clear c6b0
  try clear c6b1
  try clear p7
  try clear q7
  try clear hx7
  try clear qi7
  try clear c8
  try clear c8b0
  try clear c8b1
  try clear p7
  try clear q7
  obtain ⟨kq, x24_2, rfl, HA, HJ2, ⟨mc2, rfl⟩⟩ := hcut
  cases kq with
  | zero => exact absurd HA.out (by simp [address_number.j0])
  | succ kj2 =>
   have H := HA.out
   clear HA
   simp only [address_number.j0] at H
   by_cases c9 : x24_2 = true
   · subst c9
     rw [if_pos rfl] at H
     simp only [Option.some.injEq, Prod.mk.injEq] at H
     obtain ⟨rfl, rfl⟩ := H
     go_wp2
     go_ret2
     exact ⟨by first | rfl | (simp; done) | (simp [*]; done), by repeat (first | exact Drawn0.refl _ | apply Drawn0.step)⟩
   · replace c9 := Bool.eq_false_iff.mpr c9
     subst c9
     rw [if_neg zF] at H
     have H' := Aside0.mk H
     clear H
     go_wp2
     go_loopg [6, 27] kj2 (fun kq v6 v27 w' => ∃ (x6_2 : Int) (x27_2 : Int), v6 = .int .i64 x6_2 ∧ v27 = .int .i64 x27_2 ∧ Aside0 (address_number.l0 kq a0 a1 x6_2 (a0.size : Int) x27_2 = some (r1, r2)) ∧ Aside0 (kq ≤ kj2) ∧ Drawn0 w w')
     case atStart => exact ⟨(0), (0), (by first | rfl | (simp; done) | (simp [*]; done)), (by first | rfl | (simp; done) | (simp [*]; done)), H', ⟨Nat.le_refl _⟩, by repeat (first | exact Drawn0.refl _ | apply Drawn0.step)⟩
     case round =>
      clear H'
      try clear c2
      try clear p2
      try clear c4
      try clear c4b0
      try clear c4b1
      try clear c5
      try clear c5b0
      try clear c5b1
      try clear c6
      try clear c6b0
      try clear c6b1
      try clear p7
      try clear q7
      try clear hx7
      try clear qi7
      try clear c8
      try clear c8b0
      try clear c8b1
      try clear c9
      try clear p2
      try clear p7
      try clear q7
      obtain ⟨x6_2, x27_2, rfl, rfl, HA, HK2, ⟨m2, rfl⟩⟩ := hrel
      cases gk with
      | zero => exact absurd HA.out (by simp [address_number.l0])
      | succ k2 =>
       have H := HA.out
       clear HA
       simp only [address_number.l0] at H
       by_cases c10 : x27_2 < (a0.size : Int)
       · rw [if_pos c10] at H
         have c10b0 : decide (x27_2 < (a0.size : Int)) = true := decide_eq_true c10
         clear c10
         by_cases c11 : 0 ≤ x27_2
         · rw [if_pos c11] at H
           have c11b0 : decide (0 ≤ x27_2) = true := decide_eq_true c11
           clear c11
           by_cases c12 : x27_2 < (a0.size : Int)
           · rw [if_pos c12] at H
             have c12b0 : decide (x27_2 < (a0.size : Int)) = true := decide_eq_true c12
             clear c12
             by_cases c14 : (bt a0 x27_2) < 48
             · rw [if_pos c14] at H
               have c14b0 : decide ((bt a0 x27_2) < 48) = true := decide_eq_true c14
               clear c14
               simp only [Option.some.injEq, Prod.mk.injEq] at H
               obtain ⟨rfl, rfl⟩ := H
               have p13 : 0 ≤ (x27_2 : Int) := za
               have q13 : x27_2 < (a0.size : Int) := za
               have hx13 := bt_at a0 x27_2
               replace p13 := eq_true p13
               replace q13 := eq_true q13
               go_wp2
               go_ret2
               exact ⟨by first | rfl | (simp; done) | (simp [*]; done), by repeat (first | exact Drawn0.refl _ | apply Drawn0.step)⟩
             · rw [if_neg c14] at H
               have c14b0 : decide ((bt a0 x27_2) < 48) = false := decide_eq_false c14
               clear c14
               by_cases c16 : (bt a0 x27_2) > 57
               · rw [if_pos c16] at H
                 have c16b0 : decide (57 < (bt a0 x27_2)) = true := decide_eq_true c16
                 clear c16
                 simp only [Option.some.injEq, Prod.mk.injEq] at H
                 obtain ⟨rfl, rfl⟩ := H
                 have p13 : 0 ≤ (x27_2 : Int) := za
                 have q13 : x27_2 < (a0.size : Int) := za
                 have hx13 := bt_at a0 x27_2
                 replace p13 := eq_true p13
                 replace q13 := eq_true q13
                 have p15 : 0 ≤ (x27_2 : Int) := za
                 have q15 : x27_2 < (a0.size : Int) := za
                 have hx15 := bt_at a0 x27_2
                 replace p15 := eq_true p15
                 replace q15 := eq_true q15
                 go_wp2
                 go_ret2
                 exact ⟨by first | rfl | (simp; done) | (simp [*]; done), by repeat (first | exact Drawn0.refl _ | apply Drawn0.step)⟩
               · rw [if_neg c16] at H
                 have c16b0 : decide (57 < (bt a0 x27_2)) = false := decide_eq_false c16
                 clear c16
                 have H' := Aside0.mk H
                 clear H
                 have p13 : 0 ≤ (x27_2 : Int) := za
                 have q13 : x27_2 < (a0.size : Int) := za
                 have hx13 := bt_at a0 x27_2
                 replace p13 := eq_true p13
                 replace q13 := eq_true q13
                 have p15 : 0 ≤ (x27_2 : Int) := za
                 have q15 : x27_2 < (a0.size : Int) := za
                 have hx15 := bt_at a0 x27_2
                 replace p15 := eq_true p15
                 replace q15 := eq_true q15
                 have p17 : 0 ≤ (x27_2 : Int) := za
                 have q17 : x27_2 < (a0.size : Int) := za
                 have hx17 := bt_at a0 x27_2
                 replace p17 := eq_true p17
                 replace q17 := eq_true q17
                 go_wp2
                 go_roundg k2
                 case measure => have := HJ2.out; have := HK2.out; omega
                 case rel => exact ⟨(wrap64 ((wrap64 (x6_2 * 10)) + (((bt a0 x27_2) - 48) % 256))), (wrap64 (x27_2 + 1)), (by first | rfl | (simp; done) | (simp [*]; done)), (by first | rfl | (simp; done) | (simp [*]; done)), H', ⟨by have := HJ2.out; have := HK2.out; omega⟩, by repeat (first | exact Drawn0.refl _ | apply Drawn0.step)⟩
           · rw [if_neg c12] at H
             exact absurd H (by simp)
         · rw [if_neg c11] at H
           exact absurd H (by simp)
       · rw [if_neg c10] at H
         have c10b0 : decide (x27_2 < (a0.size : Int)) = false := decide_eq_false c10
         clear c10
         simp only [Option.some.injEq, Prod.mk.injEq] at H
         obtain ⟨rfl, rfl⟩ := H
         go_wp2
         go_ret2
         exact ⟨by first | rfl | (simp; done) | (simp [*]; done), by repeat (first | exact Drawn0.refl _ | apply Drawn0.step)⟩
end Go.Proofs.YtlgfinnldhjgeaaDoor.Q
end

section
namespace Go.Proofs.YtlgfinnldhjgeaaDoor.Q
open Go.RowKit Go.Proofs.YtlgfinnldhjgeaaDoorW.PrintWords Go.Proofs.YtlgfinnldhjgeaaDoorW.PrintLast Go.Proofs.YtlgfinnldhjgeaaDoorW.PrintMore
attribute [local go_sem] max2_int min2_int max_two min_two max_three min_three max_four min_four
set_option linter.unusedVariables false
set_option linter.unusedSimpArgs false
def address_parse4.l0 : Nat → List ByteArray → Int → Int → Bool → Int → Int → Option (Bool × Int × Int × Bool)
  | 0, _, _, _, _, _, _ => none
  | k + 1, x16, x17, x18, x106000, x106001, x106002 => if x18 < x17 then (if 0 ≤ x18 then (if x18 < (x16.length : Int) then ((address_number.f k (rdOf ByteArray.empty x16 x18) 255).bind fun bt107 => (if bt107.2 = true then (address_parse4.l0 k x16 x17 (wrap64 (x18 + 1)) x106000 x106001 (Go.bits .or .u64 (IntKind.u64.wrap (x106002 * 256)) (IntKind.u64.wrap (bt107.1)))) else (some (false, 0, 0, false)))) else (none)) else (none)) else (some (x106000, x106001, x106002, true))
def address_parse4.f (k : Nat) (a0 : ByteArray) : Option (Bool × Int × Int × Bool) := (strings_Split.f a0 (⟨#[46]⟩ : ByteArray)).bind fun t102 => (if (t102.length : Int) = 4 then (address_parse4.l0 k t102 (t102.length : Int) 0 false 0 0) else (some (false, 0, 0, false)))
theorem address_parse4.mono_l : ∀ k, (∀ y0 y1 y2 y3 y4 y5, LeO (address_parse4.l0 k y0 y1 y2 y3 y4 y5) (address_parse4.l0 (k + 1) y0 y1 y2 y3 y4 y5))
  | 0 => fun _ _ _ _ _ _ r h => by simp [address_parse4.l0] at h
  | k + 1 => by
    have ih0 := address_parse4.mono_l k
    · intro y0 y1 y2 y3 y4 y5
      unfold address_parse4.l0
      repeat' first
      | (with_reducible exact ih0 _ _ _ _ _ _)
      | (with_reducible exact address_number.mono _ _ _)
      | (with_reducible exact LeO.refl _)
      | (with_reducible exact LeO.none _)
      | (with_reducible refine LeO.ite ?_ ?_)
      | (with_reducible refine LeO.bind ?_ (fun _ => ?_))
      | exact ih0 _ _ _ _ _ _
      | exact address_number.mono _ _ _
      | exact LeO.none _
      | refine LeO.ite ?_ ?_
      | refine LeO.bind ?_ (fun _ => ?_)
theorem address_parse4.mono : ∀ a0 k, LeO (address_parse4.f k a0) (address_parse4.f (k + 1) a0) := by
  intro a0 k
  have ih0 := address_parse4.mono_l k
  unfold address_parse4.f
  repeat' first
      | (with_reducible exact ih0 _ _ _ _ _ _)
      | (with_reducible exact address_number.mono _ _ _)
      | (with_reducible exact LeO.refl _)
      | (with_reducible exact LeO.none _)
      | (with_reducible refine LeO.ite ?_ ?_)
      | (with_reducible refine LeO.bind ?_ (fun _ => ?_))
      | exact ih0 _ _ _ _ _ _
      | exact address_number.mono _ _ _
      | exact LeO.none _
      | refine LeO.ite ?_ ?_
      | refine LeO.bind ?_ (fun _ => ?_)
set_option maxHeartbeats 8000000 in
set_option maxRecDepth 100000 in
theorem address_parse4.calls (k : Nat) (a0 : ByteArray) (r1 : Bool) (r2 : Int) (r3 : Int) (r4 : Bool) (w : World) (h : address_parse4.f k a0 = some (r1, r2, r3, r4)) (hW_ : WOK w) :
 Calls Tryd.prog 39 #[.string a0] w fun e w' => e = .returned (.tuple #[.agg #[.bool r1, .int .u64 r2, .int .u64 r3], .bool r4]) ∧ Below w.heap.size w w' := by
 have hu25 := Tryd.underlying25
 have HB := Aside0.mk (Below.refl w.heap.size w)
 unfold address_parse4.f at h; have H := h
 clear h
 replace H := Option.bind_eq_some_iff.mp H
 obtain ⟨t102, A20, H⟩ := H
 replace H : (if (t102.length : Int) = 4 then (address_parse4.l0 k t102 (t102.length : Int) 0 false 0 0) else (some (false, 0, 0, false))) = some (r1, r2, r3, r4) := H
 have A2 := Aside0.mk A20
 clear A20
 by_cases c3 : (t102.length : Int) = 4
 · rw [if_pos c3] at H
   have c3b0 : ((t102.length : Int) == 4) = true := beq_iff_eq.mpr c3
   have c3b1 : ((t102.length : Int) != 4) = false := bne_eq_false_iff_eq.mpr c3
   clear c3
   have H' := Aside0.mk H
   clear H
   go_enter Tryd.func39, Tryd.ntmps39
   go_wp2_with (first | ((with_reducible refine gate_dst (N := 2) rfl ?_); refine zx 2 #[.bool false, .int .u64 0, .int .u64 0] 25 ?_; intro gb101 hg w4 hbox hb; have BK101 := Aside0.mk (hbox); have GW101 := Aside0.mk ((by rw [hg]; exact (below_size (zB HB)) : w.heap.size ≤ gb101)); have GE101 := Aside0.mk ((by rw [hg]; exact (below_size (zB HB)) : w.heap.size ≤ gb101)); replace HB := Aside0.mk (below_step (zB HB) hb); clear hb hbox hg) | ((with_reducible refine gate_callee (f := 63) rfl ?_); refine goesL_ (some 11) rfl rfl Tryd.func63 (by kernel_rfl) rfl #[.string a0, .string (⟨#[46]⟩ : ByteArray)] rfl (by (try simp only [List.map_toArray, List.map_cons, List.map_nil]); first | done | rfl | (simp only [List.length_drop, List.length_take]; rfl)) ?_; (with_reducible refine (strings_Split.calls a0 (⟨#[46]⟩ : ByteArray) t102 _ A2.out (WOK.below hW_ (zB HB))).mono ?_); rintro e w5 ⟨v103, rfl, ho0, hb⟩; refine ⟨_, rfl, ?_⟩; have HO104 := Aside0.mk (Kd.R_lower ho0 (below_size (zB HB))); replace BK101 := Aside0.mk (blk_below (g := gb101) (o := .cells #[.bool false, .int .u64 0, .int .u64 0] 25 (0, 0)) (zK BK101) hb); replace HB := Aside0.mk (below_step (zB HB) hb); (try clear hb); (try clear ho0); obtain ⟨Ao6, co6, eo6⟩ := Kd.R_slice HO104.out; subst eo6) | ((with_reducible refine gate_dst (N := 5) rfl ?_); refine zx 5 #[.bool false, .int .u64 0, .int .u64 0] 25 ?_; intro gb105 hg w7 hbox hb; replace HO104 := Aside0.mk (Kd.R_below (zR HO104) hb); have BK105 := Aside0.mk (hbox); have GW105 := Aside0.mk ((by rw [hg]; exact (below_size (zB HB)) : w.heap.size ≤ gb105)); have GE105 := Aside0.mk ((by rw [hg]; exact (below_size (zB HB)) : w.heap.size ≤ gb105)); replace HB := Aside0.mk (below_step (zB HB) hb); have NB101_105 := Aside0.mk ((by rw [hg]; exact Nat.ne_of_lt (blk_lt (g := gb101) (o := .cells #[.bool false, .int .u64 0, .int .u64 0] 25 (0, 0)) (zK BK101)) : gb101 ≠ gb105)); have NB105_101 := Aside0.mk ((by rw [hg]; exact Nat.ne_of_gt (blk_lt (g := gb101) (o := .cells #[.bool false, .int .u64 0, .int .u64 0] 25 (0, 0)) (zK BK101)) : gb105 ≠ gb101)); replace BK101 := Aside0.mk (blk_below (g := gb101) (o := .cells #[.bool false, .int .u64 0, .int .u64 0] 25 (0, 0)) (zK BK101) hb); clear hb hbox hg))
   go_loopg [18] k (fun kq v18 w' => ∃ (x18_1 : Int) (x102000_1 : Bool) (x102001_1 : Int) (x102002_1 : Int) (x106002_1 : Int), v18 = .int .i64 x18_1 ∧ Aside0 (address_parse4.l0 kq t102 (t102.length : Int) x18_1 false 0 x106002_1 = some (r1, r2, r3, r4)) ∧ Aside0 (kq ≤ k) ∧ Aside0 (Kd.R Kd.string 9 w' w.heap.size (fun _ => True) (.slice Ao6 t102.length co6) t102) ∧ Aside0 (w'.heap[gb101]? = some (.cells #[.bool x102000_1, .int .u64 x102001_1, .int .u64 x102002_1] 25 (0, 0))) ∧ Aside0 (w'.heap[gb105]? = some (.cells #[.bool false, .int .u64 0, .int .u64 x106002_1] 25 (0, 0))) ∧ Aside0 (Below w.heap.size w w'))
   case atStart => exact ⟨(0), (false), (0), (0), (0), (by first | rfl | (simp; done) | (simp [*]; done)), H', ⟨Nat.le_refl _⟩, ⟨zR HO104⟩, ⟨zK BK101⟩, ⟨zK BK105⟩, ⟨zB HB⟩⟩
   case round =>
    clear H'
    try clear p2
    try clear c3
    try clear c3b0
    try clear c3b1
    try clear c6
    obtain ⟨x18_1, x102000_1, x102001_1, x102002_1, x106002_1, rfl, HA, HK1, HO_16, BK101, BK105, HB⟩ := hrel
    cases gk with
    | zero => exact absurd HA.out (by simp [address_parse4.l0])
    | succ k1 =>
     have H := HA.out
     clear HA
     simp only [address_parse4.l0] at H
     by_cases c8 : x18_1 < (t102.length : Int)
     · rw [if_pos c8] at H
       have c8b0 : decide (x18_1 < (t102.length : Int)) = true := decide_eq_true c8
       clear c8
       by_cases c9 : 0 ≤ x18_1
       · rw [if_pos c9] at H
         have c9b0 : decide (0 ≤ x18_1) = true := decide_eq_true c9
         clear c9
         by_cases c10 : x18_1 < (t102.length : Int)
         · rw [if_pos c10] at H
           have c10b0 : decide (x18_1 < (t102.length : Int)) = true := decide_eq_true c10
           clear c10
           replace H := Option.bind_eq_some_iff.mp H
           obtain ⟨⟨t107, t108⟩, A110, H⟩ := H
           replace H : (if t108 = true then (address_parse4.l0 k1 t102 (t102.length : Int) (wrap64 (x18_1 + 1)) false 0 (Go.bits .or .u64 (IntKind.u64.wrap (x106002_1 * 256)) (IntKind.u64.wrap (t107)))) else (some (false, 0, 0, false))) = some (r1, r2, r3, r4) := H
           have A11 := Aside0.mk A110
           clear A110
           by_cases c12 : t108 = true
           · subst c12
             rw [if_pos rfl] at H
             have H' := Aside0.mk H
             clear H
             have p106 : 0 ≤ (x18_1 : Int) := za
             have q106 : x18_1 < (t102.length : Int) := za
             obtain ⟨ad106, e106, hx106_0⟩ := Kd.at_string (Kd.R_reads' HO_16.out).2.2 x18_1 p106 q106
             cases e106
             replace p106 := eq_true p106
             replace q106 := eq_true q106
             go_wp2_with (first | ((with_reducible refine gate_callee (f := 64) rfl ?_); refine goesL_ (some 24) rfl rfl Tryd.func64 (by kernel_rfl) rfl #[.string (rdOf ByteArray.empty t102 x18_1), .int .i64 255] rfl (by (try simp only [List.map_toArray, List.map_cons, List.map_nil]); first | done | rfl | (simp only [List.length_drop, List.length_take]; rfl)) ?_; (with_reducible refine (address_number.calls k1 (rdOf ByteArray.empty t102 x18_1) 255 t107 true _ A11.out).mono ?_); rintro e w' ⟨rfl, ⟨nd, rfl⟩⟩; refine ⟨_, rfl, ?_⟩; (try (rw [drewN_self wr]; generalize hq_ : World.drewN wr _ = wr; have n0_ : Aside0 (Kd.R Kd.string 9 wr w.heap.size (fun _ => True) (.slice (some ad106) t102.length co6) t102) := ⟨by rw [← hq_]; exact (zR HO_16)⟩; have n1_ : Aside0 (wr.heap[gb101]? = some (.cells #[.bool x102000_1, .int .u64 x102001_1, .int .u64 x102002_1] 25 (0, 0))) := ⟨by rw [← hq_]; exact (zK BK101)⟩; have n2_ : Aside0 (wr.heap[gb105]? = some (.cells #[.bool false, .int .u64 0, .int .u64 x106002_1] 25 (0, 0))) := ⟨by rw [← hq_]; exact (zK BK105)⟩; have n3_ : Aside0 (Below w.heap.size w wr) := ⟨by rw [← hq_]; exact (zB HB)⟩; clear HO_16 BK101 BK105 HB hq_; have HO_16 := n0_; have BK101 := n1_; have BK105 := n2_; have HB := n3_; clear n0_ n1_ n2_ n3_)); have hnb13 := NB105_101.out; have hnc13 := NB101_105.out; obtain ⟨hcz14_0, hcz14_1, hcz14_2⟩ := zc3 BK105; obtain ⟨hfz14_0, hfz14_1, hfz14_2⟩ := zf3 BK105))
             go_roundg k1
             case measure => have := HK1.out; omega
             case rel => exact ⟨(wrap64 (x18_1 + 1)), (x102000_1), (x102001_1), (x102002_1), (Go.bits .or .u64 (IntKind.u64.wrap (x106002_1 * 256)) (IntKind.u64.wrap (t107))), (by first | rfl | (simp; done) | (simp [*]; done)), H', ⟨by have := HK1.out; omega⟩, ⟨by (with_reducible repeat (first | apply Kd.R_alloc | apply Kd.R_drewN | apply Kd.R_drew)); exact Kd.R_mono (Kd.R_far (p := ⟨gb105, 2, none⟩) (Kd.R_types HO_16.out BK105.out (by decide)) (fun _ hk => hk.2) (.int .u64 (Go.bits .or .u64 (IntKind.u64.wrap (x106002_1 * 256)) (IntKind.u64.wrap (t107))))) (fun _ hk => trivial)⟩, ⟨by refine zL ?_; refine blk_far ?_ NB101_105.out _; refine zL ?_; exact BK101.out⟩, ⟨by refine zL ?_; refine blk_put (cs := #[.bool false, .int .u64 0, .int .u64 x106002_1]) ?_ 2 _ rfl; refine zL ?_; exact BK105.out⟩, ⟨zB HB⟩⟩
           · replace c12 := Bool.eq_false_iff.mpr c12
             subst c12
             rw [if_neg zF] at H
             simp only [Option.some.injEq, Prod.mk.injEq] at H
             obtain ⟨rfl, rfl, rfl, rfl⟩ := H
             have p106 : 0 ≤ (x18_1 : Int) := za
             have q106 : x18_1 < (t102.length : Int) := za
             obtain ⟨ad106, e106, hx106_0⟩ := Kd.at_string (Kd.R_reads' HO_16.out).2.2 x18_1 p106 q106
             cases e106
             replace p106 := eq_true p106
             replace q106 := eq_true q106
             go_wp2_with (first | ((with_reducible refine gate_callee (f := 64) rfl ?_); refine goesL_ (some 24) rfl rfl Tryd.func64 (by kernel_rfl) rfl #[.string (rdOf ByteArray.empty t102 x18_1), .int .i64 255] rfl (by (try simp only [List.map_toArray, List.map_cons, List.map_nil]); first | done | rfl | (simp only [List.length_drop, List.length_take]; rfl)) ?_; (with_reducible refine (address_number.calls k1 (rdOf ByteArray.empty t102 x18_1) 255 t107 false _ A11.out).mono ?_); rintro e w' ⟨rfl, ⟨nd, rfl⟩⟩; refine ⟨_, rfl, ?_⟩; (try (rw [drewN_self wr]; generalize hq_ : World.drewN wr _ = wr; have n0_ : Aside0 (Kd.R Kd.string 9 wr w.heap.size (fun _ => True) (.slice (some ad106) t102.length co6) t102) := ⟨by rw [← hq_]; exact (zR HO_16)⟩; have n1_ : Aside0 (wr.heap[gb101]? = some (.cells #[.bool x102000_1, .int .u64 x102001_1, .int .u64 x102002_1] 25 (0, 0))) := ⟨by rw [← hq_]; exact (zK BK101)⟩; have n2_ : Aside0 (wr.heap[gb105]? = some (.cells #[.bool false, .int .u64 0, .int .u64 x106002_1] 25 (0, 0))) := ⟨by rw [← hq_]; exact (zK BK105)⟩; have n3_ : Aside0 (Below w.heap.size w wr) := ⟨by rw [← hq_]; exact (zB HB)⟩; clear HO_16 BK101 BK105 HB hq_; have HO_16 := n0_; have BK101 := n1_; have BK105 := n2_; have HB := n3_; clear n0_ n1_ n2_ n3_)); have hnb15 := NB101_105.out; have hnc15 := NB105_101.out; obtain ⟨hcz16_0, hcz16_1, hcz16_2⟩ := zc3 BK101; obtain ⟨hfz16_0, hfz16_1, hfz16_2⟩ := zf3 BK101))
             refine bodyPost_ret (results_ct rfl _ _ gb101 25 #[.bool false, .int .u64 0, .int .u64 0] (0, 0) _ rfl (by refine zL ?_; refine blk_put (cs := #[.bool false, .int .u64 0, .int .u64 x102002_1]) ?_ 2 _ rfl; refine zL ?_; refine blk_put (cs := #[.bool false, .int .u64 x102001_1, .int .u64 x102002_1]) ?_ 1 _ rfl; refine zL ?_; refine blk_put (cs := #[.bool x102000_1, .int .u64 x102001_1, .int .u64 x102002_1]) ?_ 0 _ rfl; refine zL ?_; exact BK101.out) Tryd.underlying25 rfl (by kernel_rfl)) rfl ?_
             exact ⟨by first | rfl | (simp [errW_none, errW_some] <;> rfl) | (simp [*, errW_none, errW_some] <;> rfl), by repeat (first | (with_reducible first | exact HB.out | apply below_alloc | apply pw_below_drewN | apply below_drew1 | refine below_set ?_ GE101.out | refine below_set ?_ GE105.out) | exact HB.out)⟩
         · rw [if_neg c10] at H
           exact absurd H (by simp)
       · rw [if_neg c9] at H
         exact absurd H (by simp)
     · rw [if_neg c8] at H
       have c8b0 : decide (x18_1 < (t102.length : Int)) = false := decide_eq_false c8
       clear c8
       simp only [Option.some.injEq, Prod.mk.injEq] at H
       obtain ⟨rfl, rfl, rfl, rfl⟩ := H
       have hnb17 := NB105_101.out
       have hnc17 := NB101_105.out
       obtain ⟨hcz18_0, hcz18_1, hcz18_2⟩ := zc3 BK105
       obtain ⟨hfz18_0, hfz18_1, hfz18_2⟩ := zf3 BK105
       obtain ⟨hcz19_0, hcz19_1, hcz19_2⟩ := zc3 BK101
       obtain ⟨hfz19_0, hfz19_1, hfz19_2⟩ := zf3 BK101
       go_wp2
       refine bodyPost_ret (results_ct rfl _ _ gb101 25 #[.bool false, .int .u64 0, .int .u64 x106002_1] (0, 0) _ rfl (by refine zL ?_; refine blk_put (cs := #[.bool false, .int .u64 0, .int .u64 x102002_1]) ?_ 2 _ rfl; refine zL ?_; refine blk_put (cs := #[.bool false, .int .u64 x102001_1, .int .u64 x102002_1]) ?_ 1 _ rfl; refine zL ?_; refine blk_put (cs := #[.bool x102000_1, .int .u64 x102001_1, .int .u64 x102002_1]) ?_ 0 _ rfl; refine zL ?_; exact BK101.out) Tryd.underlying25 rfl (by kernel_rfl)) rfl ?_
       exact ⟨by first | rfl | (simp [errW_none, errW_some] <;> rfl) | (simp [*, errW_none, errW_some] <;> rfl), by repeat (first | (with_reducible first | exact HB.out | apply below_alloc | apply pw_below_drewN | apply below_drew1 | refine below_set ?_ GE101.out | refine below_set ?_ GE105.out) | exact HB.out)⟩
 · rw [if_neg c3] at H
   have c3b0 : ((t102.length : Int) == 4) = false := beq_eq_false_iff_ne.mpr c3
   have c3b1 : ((t102.length : Int) != 4) = true := bne_iff_ne.mpr c3
   simp only [Option.some.injEq, Prod.mk.injEq] at H
   obtain ⟨rfl, rfl, rfl, rfl⟩ := H
   go_enter Tryd.func39, Tryd.ntmps39
   go_wp2_with (first | ((with_reducible refine gate_dst (N := 2) rfl ?_); refine zx 2 #[.bool false, .int .u64 0, .int .u64 0] 25 ?_; intro gb101 hg w20 hbox hb; have BK101 := Aside0.mk (hbox); have GW101 := Aside0.mk ((by rw [hg]; exact (below_size (zB HB)) : w.heap.size ≤ gb101)); have GE101 := Aside0.mk ((by rw [hg]; exact (below_size (zB HB)) : w.heap.size ≤ gb101)); replace HB := Aside0.mk (below_step (zB HB) hb); clear hb hbox hg) | ((with_reducible refine gate_callee (f := 63) rfl ?_); refine goesL_ (some 11) rfl rfl Tryd.func63 (by kernel_rfl) rfl #[.string a0, .string (⟨#[46]⟩ : ByteArray)] rfl (by (try simp only [List.map_toArray, List.map_cons, List.map_nil]); first | done | rfl | (simp only [List.length_drop, List.length_take]; rfl)) ?_; (with_reducible refine (strings_Split.calls a0 (⟨#[46]⟩ : ByteArray) t102 _ A2.out (WOK.below hW_ (zB HB))).mono ?_); rintro e w21 ⟨v103, rfl, ho0, hb⟩; refine ⟨_, rfl, ?_⟩; have HO104 := Aside0.mk (Kd.R_lower ho0 (below_size (zB HB))); replace BK101 := Aside0.mk (blk_below (g := gb101) (o := .cells #[.bool false, .int .u64 0, .int .u64 0] 25 (0, 0)) (zK BK101) hb); replace HB := Aside0.mk (below_step (zB HB) hb); (try clear hb); (try clear ho0); obtain ⟨Ao22, co22, eo22⟩ := Kd.R_slice HO104.out; subst eo22; obtain ⟨hcz23_0, hcz23_1, hcz23_2⟩ := zc3 BK101; obtain ⟨hfz23_0, hfz23_1, hfz23_2⟩ := zf3 BK101))
   refine bodyPost_ret (results_ct rfl _ _ gb101 25 #[.bool false, .int .u64 0, .int .u64 0] (0, 0) _ rfl (by refine zL ?_; refine blk_put (cs := #[.bool false, .int .u64 0, .int .u64 0]) ?_ 2 _ rfl; refine zL ?_; refine blk_put (cs := #[.bool false, .int .u64 0, .int .u64 0]) ?_ 1 _ rfl; refine zL ?_; refine blk_put (cs := #[.bool false, .int .u64 0, .int .u64 0]) ?_ 0 _ rfl; refine zL ?_; exact BK101.out) Tryd.underlying25 rfl (by kernel_rfl)) rfl ?_
   exact ⟨by first | rfl | (simp [errW_none, errW_some] <;> rfl) | (simp [*, errW_none, errW_some] <;> rfl), by repeat (first | (with_reducible first | exact HB.out | apply below_alloc | apply pw_below_drewN | apply below_drew1 | refine below_set ?_ GE101.out) | exact HB.out)⟩
end Go.Proofs.YtlgfinnldhjgeaaDoor.Q
end
