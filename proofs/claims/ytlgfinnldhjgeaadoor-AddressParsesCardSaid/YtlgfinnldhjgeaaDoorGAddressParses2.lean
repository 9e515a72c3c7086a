/- The law AddressParses answers true for every input and leaves its arguments as they were. No condition. (Part 2 of 5: the kit's printed words and walks, hand-made contracts and plain laws, joined in build order, without what the theorem does not reach.) -/
import Derived.Test.YtlgfinnldhjgeaaDoorGAddressParses1
section
namespace Go.Proofs.YtlgfinnldhjgeaaDoor.Q
open Go.RowKit Go.Proofs.YtlgfinnldhjgeaaDoorW.PrintWords Go.Proofs.YtlgfinnldhjgeaaDoorW.PrintLast Go.Proofs.YtlgfinnldhjgeaaDoorW.PrintMore
attribute [local go_sem] max2_int min2_int max_two min_two max_three min_three max_four min_four
set_option linter.unusedVariables false
set_option linter.unusedSimpArgs false
def address_Parse.f (k : Nat) (a0 : ByteArray) : Option (Bool × Int × Int × Int) := if (a0.size : Int) > 64 then (some (false, 0, 0, 3)) else ((address_parse4.f k a0).bind fun bt139 => (if bt139.2.2.2 = true then (some (bt139.1, bt139.2.1, bt139.2.2.1, 0)) else ((address_parse6.f k a0).bind fun bt144 => (if bt144.2.2.2 = true then (some (bt144.1, bt144.2.1, bt144.2.2.1, 0)) else (some (false, 0, 0, 2))))))
theorem address_Parse.mono : ∀ a0 k, LeO (address_Parse.f k a0) (address_Parse.f (k + 1) a0) := by
  intro a0 k
  unfold address_Parse.f
  repeat' first
      | (with_reducible exact address_parse4.mono _ _)
      | (with_reducible exact address_parse6.mono _ _)
      | (with_reducible exact LeO.refl _)
      | (with_reducible exact LeO.none _)
      | (with_reducible refine LeO.ite ?_ ?_)
      | (with_reducible refine LeO.bind ?_ (fun _ => ?_))
      | exact address_parse4.mono _ _
      | exact address_parse6.mono _ _
      | exact LeO.none _
      | refine LeO.ite ?_ ?_
      | refine LeO.bind ?_ (fun _ => ?_)
set_option maxHeartbeats 8000000 in
set_option maxRecDepth 100000 in
theorem address_Parse.calls (k : Nat) (a0 : ByteArray) (r1 : Bool) (r2 : Int) (r3 : Int) (r4 : Int) (w : World) (h : address_Parse.f k a0 = some (r1, r2, r3, r4)) (hW_ : WOK w) :
 Calls Tryd.prog 11 #[.string a0] w fun e w' => e = .returned (.tuple #[.agg #[.bool r1, .int .u64 r2, .int .u64 r3], .int .i64 r4]) ∧ Below w.heap.size w w' := by
 have hu25 := Tryd.underlying25
 have HB := Aside0.mk (Below.refl w.heap.size w)
 unfold address_Parse.f at h; have H := h
 clear h
 by_cases c2 : (a0.size : Int) > 64
 · rw [if_pos c2] at H
   have c2b0 : decide (64 < (a0.size : Int)) = true := decide_eq_true c2
   have c2b1 : decide (64 < a0.size) = true := decide_eq_true (by omega)
   clear c2
   simp only [Option.some.injEq, Prod.mk.injEq] at H
   obtain ⟨rfl, rfl, rfl, rfl⟩ := H
   go_enter Tryd.func11, Tryd.ntmps11
   go_wp2_with (first | ((with_reducible refine gate_dst (N := 2) rfl ?_); refine zx 2 #[.bool false, .int .u64 0, .int .u64 0] 25 ?_; intro gb138 hg w3 hbox hb; have BK138 := Aside0.mk (hbox); have GW138 := Aside0.mk ((by rw [hg]; exact (below_size (zB HB)) : w.heap.size ≤ gb138)); have GE138 := Aside0.mk ((by rw [hg]; exact (below_size (zB HB)) : w.heap.size ≤ gb138)); replace HB := Aside0.mk (below_step (zB HB) hb); clear hb hbox hg; obtain ⟨hcz4_0, hcz4_1, hcz4_2⟩ := zc3 BK138; obtain ⟨hfz4_0, hfz4_1, hfz4_2⟩ := zf3 BK138))
   refine bodyPost_ret (results_ct rfl _ _ gb138 25 #[.bool false, .int .u64 0, .int .u64 0] (0, 0) _ rfl (by refine zL ?_; refine blk_put (cs := #[.bool false, .int .u64 0, .int .u64 0]) ?_ 2 _ rfl; refine zL ?_; refine blk_put (cs := #[.bool false, .int .u64 0, .int .u64 0]) ?_ 1 _ rfl; refine zL ?_; refine blk_put (cs := #[.bool false, .int .u64 0, .int .u64 0]) ?_ 0 _ rfl; refine zL ?_; exact BK138.out) Tryd.underlying25 rfl (by kernel_rfl)) rfl ?_
   exact ⟨by first | rfl | (simp [errW_none, errW_some] <;> rfl) | (simp [*, errW_none, errW_some] <;> rfl), by repeat (first | (with_reducible first | exact HB.out | apply below_alloc | apply pw_below_drewN | apply below_drew1 | refine below_set ?_ GE138.out) | exact HB.out)⟩
 · rw [if_neg c2] at H
   have c2b0 : decide (64 < (a0.size : Int)) = false := decide_eq_false c2
   have c2b1 : decide (64 < a0.size) = false := decide_eq_false (by omega)
   clear c2
   replace H := Option.bind_eq_some_iff.mp H
   obtain ⟨⟨t139, t140, t141, t142⟩, A50, H⟩ := H
   replace H : (if t142 = true then (some (t139, t140, t141, 0)) else ((address_parse6.f k a0).bind fun bt144 => (if bt144.2.2.2 = true then (some (bt144.1, bt144.2.1, bt144.2.2.1, 0)) else (some (false, 0, 0, 2))))) = some (r1, r2, r3, r4) := H
   have A5 := Aside0.mk A50
   clear A50
   by_cases c6 : t142 = true
   · subst c6
     rw [if_pos rfl] at H
     simp only [Option.some.injEq, Prod.mk.injEq] at H
     obtain ⟨rfl, rfl, rfl, rfl⟩ := H
     go_enter Tryd.func11, Tryd.ntmps11
     go_wp2_with (first | ((with_reducible refine gate_dst (N := 2) rfl ?_); refine zx 2 #[.bool false, .int .u64 0, .int .u64 0] 25 ?_; intro gb138 hg w7 hbox hb; have BK138 := Aside0.mk (hbox); have GW138 := Aside0.mk ((by rw [hg]; exact (below_size (zB HB)) : w.heap.size ≤ gb138)); have GE138 := Aside0.mk ((by rw [hg]; exact (below_size (zB HB)) : w.heap.size ≤ gb138)); replace HB := Aside0.mk (below_step (zB HB) hb); clear hb hbox hg) | ((with_reducible refine gate_callee (f := 39) rfl ?_); refine goesL_ (some 14) rfl rfl Tryd.func39 (by kernel_rfl) rfl #[.string a0] rfl (by (try simp only [List.map_toArray, List.map_cons, List.map_nil]); first | done | rfl | (simp only [List.length_drop, List.length_take]; rfl)) ?_; (with_reducible refine (address_parse4.calls k a0 t139 t140 t141 true _ A5.out (WOK.below hW_ (zB HB))).mono ?_); rintro e w8 ⟨rfl, hb⟩; refine ⟨_, rfl, ?_⟩; replace BK138 := Aside0.mk (blk_below (g := gb138) (o := .cells #[.bool false, .int .u64 0, .int .u64 0] 25 (0, 0)) (zK BK138) hb); replace HB := Aside0.mk (below_step (zB HB) hb); (try clear hb)) | ((with_reducible refine gate_dst (N := 4) rfl ?_); refine zx 4 #[.bool false, .int .u64 0, .int .u64 0] 25 ?_; intro gb143 hg w9 hbox hb; have BK143 := Aside0.mk (hbox); have GW143 := Aside0.mk ((by rw [hg]; exact (below_size (zB HB)) : w.heap.size ≤ gb143)); have GE143 := Aside0.mk ((by rw [hg]; exact (below_size (zB HB)) : w.heap.size ≤ gb143)); replace HB := Aside0.mk (below_step (zB HB) hb); have NB138_143 := Aside0.mk ((by rw [hg]; exact Nat.ne_of_lt (blk_lt (g := gb138) (o := .cells #[.bool false, .int .u64 0, .int .u64 0] 25 (0, 0)) (zK BK138)) : gb138 ≠ gb143)); have NB143_138 := Aside0.mk ((by rw [hg]; exact Nat.ne_of_gt (blk_lt (g := gb138) (o := .cells #[.bool false, .int .u64 0, .int .u64 0] 25 (0, 0)) (zK BK138)) : gb143 ≠ gb138)); replace BK138 := Aside0.mk (blk_below (g := gb138) (o := .cells #[.bool false, .int .u64 0, .int .u64 0] 25 (0, 0)) (zK BK138) hb); clear hb hbox hg; have hnb10 := NB143_138.out; have hnc10 := NB138_143.out; obtain ⟨hcz11_0, hcz11_1, hcz11_2⟩ := zc3 BK143; obtain ⟨hfz11_0, hfz11_1, hfz11_2⟩ := zf3 BK143; obtain ⟨hcz12_0, hcz12_1, hcz12_2⟩ := zc3 BK138; obtain ⟨hfz12_0, hfz12_1, hfz12_2⟩ := zf3 BK138))
     refine bodyPost_ret (results_ct rfl _ _ gb138 25 #[.bool t139, .int .u64 t140, .int .u64 t141] (0, 0) _ rfl (by refine zL ?_; refine blk_put (cs := #[.bool t139, .int .u64 t140, .int .u64 0]) ?_ 2 _ rfl; refine zL ?_; refine blk_put (cs := #[.bool t139, .int .u64 0, .int .u64 0]) ?_ 1 _ rfl; refine zL ?_; refine blk_put (cs := #[.bool false, .int .u64 0, .int .u64 0]) ?_ 0 _ rfl; refine zL ?_; refine blk_far ?_ NB138_143.out _; refine zL ?_; refine blk_far ?_ NB138_143.out _; refine zL ?_; refine blk_far ?_ NB138_143.out _; refine zL ?_; exact BK138.out) Tryd.underlying25 rfl (by kernel_rfl)) rfl ?_
     exact ⟨by first | rfl | (simp [errW_none, errW_some] <;> rfl) | (simp [*, errW_none, errW_some] <;> rfl), by repeat (first | (with_reducible first | exact HB.out | apply below_alloc | apply pw_below_drewN | apply below_drew1 | refine below_set ?_ GE138.out | refine below_set ?_ GE143.out) | exact HB.out)⟩
   · replace c6 := Bool.eq_false_iff.mpr c6
     subst c6
     rw [if_neg zF] at H
     replace H := Option.bind_eq_some_iff.mp H
     obtain ⟨⟨t144, t145, t146, t147⟩, A130, H⟩ := H
     replace H : (if t147 = true then (some (t144, t145, t146, 0)) else (some (false, 0, 0, 2))) = some (r1, r2, r3, r4) := H
     have A13 := Aside0.mk A130
     clear A130
     by_cases c14 : t147 = true
     · subst c14
       rw [if_pos rfl] at H
       simp only [Option.some.injEq, Prod.mk.injEq] at H
       obtain ⟨rfl, rfl, rfl, rfl⟩ := H
       go_enter Tryd.func11, Tryd.ntmps11
       go_wp2_with (first | ((with_reducible refine gate_dst (N := 2) rfl ?_); refine zx 2 #[.bool false, .int .u64 0, .int .u64 0] 25 ?_; intro gb138 hg w15 hbox hb; have BK138 := Aside0.mk (hbox); have GW138 := Aside0.mk ((by rw [hg]; exact (below_size (zB HB)) : w.heap.size ≤ gb138)); have GE138 := Aside0.mk ((by rw [hg]; exact (below_size (zB HB)) : w.heap.size ≤ gb138)); replace HB := Aside0.mk (below_step (zB HB) hb); clear hb hbox hg) | ((with_reducible refine gate_callee (f := 39) rfl ?_); refine goesL_ (some 14) rfl rfl Tryd.func39 (by kernel_rfl) rfl #[.string a0] rfl (by (try simp only [List.map_toArray, List.map_cons, List.map_nil]); first | done | rfl | (simp only [List.length_drop, List.length_take]; rfl)) ?_; (with_reducible refine (address_parse4.calls k a0 t139 t140 t141 false _ A5.out (WOK.below hW_ (zB HB))).mono ?_); rintro e w16 ⟨rfl, hb⟩; refine ⟨_, rfl, ?_⟩; replace BK138 := Aside0.mk (blk_below (g := gb138) (o := .cells #[.bool false, .int .u64 0, .int .u64 0] 25 (0, 0)) (zK BK138) hb); replace HB := Aside0.mk (below_step (zB HB) hb); (try clear hb)) | ((with_reducible refine gate_dst (N := 4) rfl ?_); refine zx 4 #[.bool false, .int .u64 0, .int .u64 0] 25 ?_; intro gb143 hg w17 hbox hb; have BK143 := Aside0.mk (hbox); have GW143 := Aside0.mk ((by rw [hg]; exact (below_size (zB HB)) : w.heap.size ≤ gb143)); have GE143 := Aside0.mk ((by rw [hg]; exact (below_size (zB HB)) : w.heap.size ≤ gb143)); replace HB := Aside0.mk (below_step (zB HB) hb); have NB138_143 := Aside0.mk ((by rw [hg]; exact Nat.ne_of_lt (blk_lt (g := gb138) (o := .cells #[.bool false, .int .u64 0, .int .u64 0] 25 (0, 0)) (zK BK138)) : gb138 ≠ gb143)); have NB143_138 := Aside0.mk ((by rw [hg]; exact Nat.ne_of_gt (blk_lt (g := gb138) (o := .cells #[.bool false, .int .u64 0, .int .u64 0] 25 (0, 0)) (zK BK138)) : gb143 ≠ gb138)); replace BK138 := Aside0.mk (blk_below (g := gb138) (o := .cells #[.bool false, .int .u64 0, .int .u64 0] 25 (0, 0)) (zK BK138) hb); clear hb hbox hg; have hnb18 := NB143_138.out; have hnc18 := NB138_143.out; obtain ⟨hcz19_0, hcz19_1, hcz19_2⟩ := zc3 BK143; obtain ⟨hfz19_0, hfz19_1, hfz19_2⟩ := zf3 BK143) | ((with_reducible refine gate_callee (f := 40) rfl ?_); refine goesL_ (some 21) rfl rfl Tryd.func40 (by kernel_rfl) rfl #[.string a0] rfl (by (try simp only [List.map_toArray, List.map_cons, List.map_nil]); first | done | rfl | (simp only [List.length_drop, List.length_take]; rfl)) ?_; (with_reducible refine (address_parse6.calls k a0 t144 t145 t146 true _ A13.out (WOK.below hW_ (zB HB))).mono ?_); rintro e w20 ⟨rfl, hb⟩; refine ⟨_, rfl, ?_⟩; replace BK138 := Aside0.mk (blk_below (g := gb138) (o := .cells #[.bool false, .int .u64 0, .int .u64 0] 25 (0, 0)) (by refine zL ?_; refine blk_far ?_ NB138_143.out _; refine zL ?_; refine blk_far ?_ NB138_143.out _; refine zL ?_; refine blk_far ?_ NB138_143.out _; refine zL ?_; exact BK138.out) hb); replace BK143 := Aside0.mk (blk_below (g := gb143) (o := .cells #[.bool t139, .int .u64 t140, .int .u64 t141] 25 (0, 0)) (by refine zL ?_; refine blk_put (cs := #[.bool t139, .int .u64 t140, .int .u64 0]) ?_ 2 _ rfl; refine zL ?_; refine blk_put (cs := #[.bool t139, .int .u64 0, .int .u64 0]) ?_ 1 _ rfl; refine zL ?_; refine blk_put (cs := #[.bool false, .int .u64 0, .int .u64 0]) ?_ 0 _ rfl; refine zL ?_; exact BK143.out) hb); replace HB := Aside0.mk (below_step (zB HB) hb); (try clear hb)) | ((with_reducible refine gate_dst (N := 6) rfl ?_); refine zx 6 #[.bool false, .int .u64 0, .int .u64 0] 25 ?_; intro gb148 hg w21 hbox hb; have BK148 := Aside0.mk (hbox); have GW148 := Aside0.mk ((by rw [hg]; exact (below_size (zB HB)) : w.heap.size ≤ gb148)); have GE148 := Aside0.mk ((by rw [hg]; exact (below_size (zB HB)) : w.heap.size ≤ gb148)); replace HB := Aside0.mk (below_step (zB HB) hb); have NB138_148 := Aside0.mk ((by rw [hg]; exact Nat.ne_of_lt (blk_lt (g := gb138) (o := .cells #[.bool false, .int .u64 0, .int .u64 0] 25 (0, 0)) (zK BK138)) : gb138 ≠ gb148)); have NB148_138 := Aside0.mk ((by rw [hg]; exact Nat.ne_of_gt (blk_lt (g := gb138) (o := .cells #[.bool false, .int .u64 0, .int .u64 0] 25 (0, 0)) (zK BK138)) : gb148 ≠ gb138)); replace BK138 := Aside0.mk (blk_below (g := gb138) (o := .cells #[.bool false, .int .u64 0, .int .u64 0] 25 (0, 0)) (zK BK138) hb); have NB143_148 := Aside0.mk ((by rw [hg]; exact Nat.ne_of_lt (blk_lt (g := gb143) (o := .cells #[.bool t139, .int .u64 t140, .int .u64 t141] 25 (0, 0)) (zK BK143)) : gb143 ≠ gb148)); have NB148_143 := Aside0.mk ((by rw [hg]; exact Nat.ne_of_gt (blk_lt (g := gb143) (o := .cells #[.bool t139, .int .u64 t140, .int .u64 t141] 25 (0, 0)) (zK BK143)) : gb148 ≠ gb143)); replace BK143 := Aside0.mk (blk_below (g := gb143) (o := .cells #[.bool t139, .int .u64 t140, .int .u64 t141] 25 (0, 0)) (zK BK143) hb); clear hb hbox hg; have hnb22 := NB148_138.out; have hnc22 := NB138_148.out; have hnb23 := NB148_143.out; have hnc23 := NB143_148.out; obtain ⟨hcz24_0, hcz24_1, hcz24_2⟩ := zc3 BK148; obtain ⟨hfz24_0, hfz24_1, hfz24_2⟩ := zf3 BK148; obtain ⟨hcz25_0, hcz25_1, hcz25_2⟩ := zc3 BK138; obtain ⟨hfz25_0, hfz25_1, hfz25_2⟩ := zf3 BK138))
       refine bodyPost_ret (results_ct rfl _ _ gb138 25 #[.bool t144, .int .u64 t145, .int .u64 t146] (0, 0) _ rfl (by refine zL ?_; refine blk_put (cs := #[.bool t144, .int .u64 t145, .int .u64 0]) ?_ 2 _ rfl; refine zL ?_; refine blk_put (cs := #[.bool t144, .int .u64 0, .int .u64 0]) ?_ 1 _ rfl; refine zL ?_; refine blk_put (cs := #[.bool false, .int .u64 0, .int .u64 0]) ?_ 0 _ rfl; refine zL ?_; refine blk_far ?_ NB138_148.out _; refine zL ?_; refine blk_far ?_ NB138_148.out _; refine zL ?_; refine blk_far ?_ NB138_148.out _; refine zL ?_; exact BK138.out) Tryd.underlying25 rfl (by kernel_rfl)) rfl ?_
       exact ⟨by first | rfl | (simp [errW_none, errW_some] <;> rfl) | (simp [*, errW_none, errW_some] <;> rfl), by repeat (first | (with_reducible first | exact HB.out | apply below_alloc | apply pw_below_drewN | apply below_drew1 | refine below_set ?_ GE138.out | refine below_set ?_ GE143.out | refine below_set ?_ GE148.out) | exact HB.out)⟩
     · replace c14 := Bool.eq_false_iff.mpr c14
       subst c14
       rw [if_neg zF] at H
       simp only [Option.some.injEq, Prod.mk.injEq] at H
       obtain ⟨rfl, rfl, rfl, rfl⟩ := H
       go_enter Tryd.func11, Tryd.ntmps11
       go_wp2_with (first | ((with_reducible refine gate_dst (N := 2) rfl ?_); refine zx 2 #[.bool false, .int .u64 0, .int .u64 0] 25 ?_; intro gb138 hg w26 hbox hb; have BK138 := Aside0.mk (hbox); have GW138 := Aside0.mk ((by rw [hg]; exact (below_size (zB HB)) : w.heap.size ≤ gb138)); have GE138 := Aside0.mk ((by rw [hg]; exact (below_size (zB HB)) : w.heap.size ≤ gb138)); replace HB := Aside0.mk (below_step (zB HB) hb); clear hb hbox hg) | ((with_reducible refine gate_callee (f := 39) rfl ?_); refine goesL_ (some 14) rfl rfl Tryd.func39 (by kernel_rfl) rfl #[.string a0] rfl (by (try simp only [List.map_toArray, List.map_cons, List.map_nil]); first | done | rfl | (simp only [List.length_drop, List.length_take]; rfl)) ?_; (with_reducible refine (address_parse4.calls k a0 t139 t140 t141 false _ A5.out (WOK.below hW_ (zB HB))).mono ?_); rintro e w27 ⟨rfl, hb⟩; refine ⟨_, rfl, ?_⟩; replace BK138 := Aside0.mk (blk_below (g := gb138) (o := .cells #[.bool false, .int .u64 0, .int .u64 0] 25 (0, 0)) (zK BK138) hb); replace HB := Aside0.mk (below_step (zB HB) hb); (try clear hb)) | ((with_reducible refine gate_dst (N := 4) rfl ?_); refine zx 4 #[.bool false, .int .u64 0, .int .u64 0] 25 ?_; intro gb143 hg w28 hbox hb; have BK143 := Aside0.mk (hbox); have GW143 := Aside0.mk ((by rw [hg]; exact (below_size (zB HB)) : w.heap.size ≤ gb143)); have GE143 := Aside0.mk ((by rw [hg]; exact (below_size (zB HB)) : w.heap.size ≤ gb143)); replace HB := Aside0.mk (below_step (zB HB) hb); have NB138_143 := Aside0.mk ((by rw [hg]; exact Nat.ne_of_lt (blk_lt (g := gb138) (o := .cells #[.bool false, .int .u64 0, .int .u64 0] 25 (0, 0)) (zK BK138)) : gb138 ≠ gb143)); have NB143_138 := Aside0.mk ((by rw [hg]; exact Nat.ne_of_gt (blk_lt (g := gb138) (o := .cells #[.bool false, .int .u64 0, .int .u64 0] 25 (0, 0)) (zK BK138)) : gb143 ≠ gb138)); replace BK138 := Aside0.mk (blk_below (g := gb138) (o := .cells #[.bool false, .int .u64 0, .int .u64 0] 25 (0, 0)) (zK BK138) hb); clear hb hbox hg; have hnb29 := NB143_138.out; have hnc29 := NB138_143.out; obtain ⟨hcz30_0, hcz30_1, hcz30_2⟩ := zc3 BK143; obtain ⟨hfz30_0, hfz30_1, hfz30_2⟩ := zf3 BK143) | ((with_reducible refine gate_callee (f := 40) rfl ?_); refine goesL_ (some 21) rfl rfl Tryd.func40 (by kernel_rfl) rfl #[.string a0] rfl (by (try simp only [List.map_toArray, List.map_cons, List.map_nil]); first | done | rfl | (simp only [List.length_drop, List.length_take]; rfl)) ?_; (with_reducible refine (address_parse6.calls k a0 t144 t145 t146 false _ A13.out (WOK.below hW_ (zB HB))).mono ?_); rintro e w31 ⟨rfl, hb⟩; refine ⟨_, rfl, ?_⟩; replace BK138 := Aside0.mk (blk_below (g := gb138) (o := .cells #[.bool false, .int .u64 0, .int .u64 0] 25 (0, 0)) (by refine zL ?_; refine blk_far ?_ NB138_143.out _; refine zL ?_; refine blk_far ?_ NB138_143.out _; refine zL ?_; refine blk_far ?_ NB138_143.out _; refine zL ?_; exact BK138.out) hb); replace BK143 := Aside0.mk (blk_below (g := gb143) (o := .cells #[.bool t139, .int .u64 t140, .int .u64 t141] 25 (0, 0)) (by refine zL ?_; refine blk_put (cs := #[.bool t139, .int .u64 t140, .int .u64 0]) ?_ 2 _ rfl; refine zL ?_; refine blk_put (cs := #[.bool t139, .int .u64 0, .int .u64 0]) ?_ 1 _ rfl; refine zL ?_; refine blk_put (cs := #[.bool false, .int .u64 0, .int .u64 0]) ?_ 0 _ rfl; refine zL ?_; exact BK143.out) hb); replace HB := Aside0.mk (below_step (zB HB) hb); (try clear hb)) | ((with_reducible refine gate_dst (N := 6) rfl ?_); refine zx 6 #[.bool false, .int .u64 0, .int .u64 0] 25 ?_; intro gb148 hg w32 hbox hb; have BK148 := Aside0.mk (hbox); have GW148 := Aside0.mk ((by rw [hg]; exact (below_size (zB HB)) : w.heap.size ≤ gb148)); have GE148 := Aside0.mk ((by rw [hg]; exact (below_size (zB HB)) : w.heap.size ≤ gb148)); replace HB := Aside0.mk (below_step (zB HB) hb); have NB138_148 := Aside0.mk ((by rw [hg]; exact Nat.ne_of_lt (blk_lt (g := gb138) (o := .cells #[.bool false, .int .u64 0, .int .u64 0] 25 (0, 0)) (zK BK138)) : gb138 ≠ gb148)); have NB148_138 := Aside0.mk ((by rw [hg]; exact Nat.ne_of_gt (blk_lt (g := gb138) (o := .cells #[.bool false, .int .u64 0, .int .u64 0] 25 (0, 0)) (zK BK138)) : gb148 ≠ gb138)); replace BK138 := Aside0.mk (blk_below (g := gb138) (o := .cells #[.bool false, .int .u64 0, .int .u64 0] 25 (0, 0)) (zK BK138) hb); have NB143_148 := Aside0.mk ((by rw [hg]; exact Nat.ne_of_lt (blk_lt (g := gb143) (o := .cells #[.bool t139, .int .u64 t140, .int .u64 t141] 25 (0, 0)) (zK BK143)) : gb143 ≠ gb148)); have NB148_143 := Aside0.mk ((by rw [hg]; exact Nat.ne_of_gt (blk_lt (g := gb143) (o := .cells #[.bool t139, .int .u64 t140, .int .u64 t141] 25 (0, 0)) (zK BK143)) : gb148 ≠ gb143)); replace BK143 := Aside0.mk (blk_below (g := gb143) (o := .cells #[.bool t139, .int .u64 t140, .int .u64 t141] 25 (0, 0)) (zK BK143) hb); clear hb hbox hg; have hnb33 := NB148_138.out; have hnc33 := NB138_148.out; have hnb34 := NB148_143.out; have hnc34 := NB143_148.out; obtain ⟨hcz35_0, hcz35_1, hcz35_2⟩ := zc3 BK148; obtain ⟨hfz35_0, hfz35_1, hfz35_2⟩ := zf3 BK148; obtain ⟨hcz36_0, hcz36_1, hcz36_2⟩ := zc3 BK138; obtain ⟨hfz36_0, hfz36_1, hfz36_2⟩ := zf3 BK138))
       refine bodyPost_ret (results_ct rfl _ _ gb138 25 #[.bool false, .int .u64 0, .int .u64 0] (0, 0) _ rfl (by refine zL ?_; refine blk_put (cs := #[.bool false, .int .u64 0, .int .u64 0]) ?_ 2 _ rfl; refine zL ?_; refine blk_put (cs := #[.bool false, .int .u64 0, .int .u64 0]) ?_ 1 _ rfl; refine zL ?_; refine blk_put (cs := #[.bool false, .int .u64 0, .int .u64 0]) ?_ 0 _ rfl; refine zL ?_; refine blk_far ?_ NB138_148.out _; refine zL ?_; refine blk_far ?_ NB138_148.out _; refine zL ?_; refine blk_far ?_ NB138_148.out _; refine zL ?_; exact BK138.out) Tryd.underlying25 rfl (by kernel_rfl)) rfl ?_
       exact ⟨by first | rfl | (simp [errW_none, errW_some] <;> rfl) | (simp [*, errW_none, errW_some] <;> rfl), by repeat (first | (with_reducible first | exact HB.out | apply below_alloc | apply pw_below_drewN | apply below_drew1 | refine below_set ?_ GE138.out | refine below_set ?_ GE143.out | refine below_set ?_ GE148.out) | exact HB.out)⟩
end Go.Proofs.YtlgfinnldhjgeaaDoor.Q
end

section
namespace Go.Proofs.YtlgfinnldhjgeaaDoor.Q
open Go.RowKit Go.Proofs.YtlgfinnldhjgeaaDoorW.PrintWords Go.Proofs.YtlgfinnldhjgeaaDoorW.PrintLast Go.Proofs.YtlgfinnldhjgeaaDoorW.PrintMore
attribute [local go_sem] max2_int min2_int max_two min_two max_three min_three max_four min_four
set_option linter.unusedVariables false
set_option linter.unusedSimpArgs false
def address_size.f (a0_0 : Bool) (a0_1 : Int) (a0_2 : Int) : Option (Int) := if a0_0 = true then (some 128) else (some 32)
set_option maxHeartbeats 8000000 in
set_option maxRecDepth 100000 in
theorem address_size.calls (a0_0 : Bool) (a0_1 : Int) (a0_2 : Int) (r : Int) (w : World) (h : address_size.f a0_0 a0_1 a0_2 = some r) :
 Calls Tryd.prog 44 #[.agg #[.bool a0_0, .int .u64 a0_1, .int .u64 a0_2]] w fun e w' => e = .returned (.int .i64 r) ∧ Below w.heap.size w w' := by
 have hu25 := Tryd.underlying25
 have HB := Aside0.mk (Below.refl w.heap.size w)
 unfold address_size.f at h; have H := h
 clear h
 by_cases c2 : a0_0 = true
 · subst c2
   rw [if_pos rfl] at H
   obtain rfl := Option.some.inj H
   go_enter Tryd.func44, Tryd.ntmps44
   go_wp2_with (first | ((with_reducible refine gate_dst (N := 1) rfl ?_); refine zx 1 #[.bool true, .int .u64 a0_1, .int .u64 a0_2] 25 ?_; intro gb150 hg w3 hbox hb; have BK150 := Aside0.mk (hbox); have GW150 := Aside0.mk ((by rw [hg]; exact (below_size (zB HB)) : w.heap.size ≤ gb150)); have GE150 := Aside0.mk ((by rw [hg]; exact (below_size (zB HB)) : w.heap.size ≤ gb150)); replace HB := Aside0.mk (below_step (zB HB) hb); clear hb hbox hg; obtain ⟨hcz4_0, hcz4_1, hcz4_2⟩ := zc3 BK150; obtain ⟨hfz4_0, hfz4_1, hfz4_2⟩ := zf3 BK150))
   go_ret
   exact ⟨by first | rfl | (simp [errW_none, errW_some] <;> rfl) | (simp [*, errW_none, errW_some] <;> rfl), by repeat (first | (with_reducible first | exact HB.out | apply below_alloc | apply pw_below_drewN | apply below_drew1 | refine below_set ?_ GE150.out) | exact HB.out)⟩
 · replace c2 := Bool.eq_false_iff.mpr c2
   subst c2
   rw [if_neg zF] at H
   obtain rfl := Option.some.inj H
   go_enter Tryd.func44, Tryd.ntmps44
   go_wp2_with (first | ((with_reducible refine gate_dst (N := 1) rfl ?_); refine zx 1 #[.bool false, .int .u64 a0_1, .int .u64 a0_2] 25 ?_; intro gb150 hg w5 hbox hb; have BK150 := Aside0.mk (hbox); have GW150 := Aside0.mk ((by rw [hg]; exact (below_size (zB HB)) : w.heap.size ≤ gb150)); have GE150 := Aside0.mk ((by rw [hg]; exact (below_size (zB HB)) : w.heap.size ≤ gb150)); replace HB := Aside0.mk (below_step (zB HB) hb); clear hb hbox hg; obtain ⟨hcz6_0, hcz6_1, hcz6_2⟩ := zc3 BK150; obtain ⟨hfz6_0, hfz6_1, hfz6_2⟩ := zf3 BK150))
   go_ret
   exact ⟨by first | rfl | (simp [errW_none, errW_some] <;> rfl) | (simp [*, errW_none, errW_some] <;> rfl), by repeat (first | (with_reducible first | exact HB.out | apply below_alloc | apply pw_below_drewN | apply below_drew1 | refine below_set ?_ GE150.out) | exact HB.out)⟩
end Go.Proofs.YtlgfinnldhjgeaaDoor.Q
end

section
namespace Go.Proofs.YtlgfinnldhjgeaaDoor.Q
open Go.RowKit Go.Proofs.YtlgfinnldhjgeaaDoorW.PrintWords Go.Proofs.YtlgfinnldhjgeaaDoorW.PrintLast Go.Proofs.YtlgfinnldhjgeaaDoorW.PrintMore
attribute [local go_sem] max2_int min2_int max_two min_two max_three min_three max_four min_four
set_option linter.unusedVariables false
set_option linter.unusedSimpArgs false
def address_Valid.f (a0_0 : Bool) (a0_1 : Int) (a0_2 : Int) : Option (Bool) := if a0_0 = true then (some true) else (if a0_1 = 0 then (some (decide (a0_2 ≤ 4294967295))) else (some false))
set_option maxHeartbeats 8000000 in
set_option maxRecDepth 100000 in
theorem address_Valid.calls (a0_0 : Bool) (a0_1 : Int) (a0_2 : Int) (r : Bool) (w : World) (h : address_Valid.f a0_0 a0_1 a0_2 = some r) :
 Calls Tryd.prog 25 #[.agg #[.bool a0_0, .int .u64 a0_1, .int .u64 a0_2]] w fun e w' => e = .returned (.bool r) ∧ Below w.heap.size w w' := by
 have hu25 := Tryd.underlying25
 have HB := Aside0.mk (Below.refl w.heap.size w)
 unfold address_Valid.f at h; have H := h
 clear h
 by_cases c2 : a0_0 = true
 · subst c2
   rw [if_pos rfl] at H
   obtain rfl := Option.some.inj H
   go_enter Tryd.func25, Tryd.ntmps25
   go_wp2_with (first | ((with_reducible refine gate_dst (N := 1) rfl ?_); refine zx 1 #[.bool true, .int .u64 a0_1, .int .u64 a0_2] 25 ?_; intro gb149 hg w3 hbox hb; have BK149 := Aside0.mk (hbox); have GW149 := Aside0.mk ((by rw [hg]; exact (below_size (zB HB)) : w.heap.size ≤ gb149)); have GE149 := Aside0.mk ((by rw [hg]; exact (below_size (zB HB)) : w.heap.size ≤ gb149)); replace HB := Aside0.mk (below_step (zB HB) hb); clear hb hbox hg; obtain ⟨hcz4_0, hcz4_1, hcz4_2⟩ := zc3 BK149; obtain ⟨hfz4_0, hfz4_1, hfz4_2⟩ := zf3 BK149))
   go_ret
   exact ⟨by first | rfl | (simp [errW_none, errW_some] <;> rfl) | (simp [*, errW_none, errW_some] <;> rfl), by repeat (first | (with_reducible first | exact HB.out | apply below_alloc | apply pw_below_drewN | apply below_drew1 | refine below_set ?_ GE149.out) | exact HB.out)⟩
 · replace c2 := Bool.eq_false_iff.mpr c2
   subst c2
   rw [if_neg zF] at H
   by_cases c5 : a0_1 = 0
   · rw [if_pos c5] at H
     have c5b0 : (a0_1 == 0) = true := beq_iff_eq.mpr c5
     have c5b1 : (a0_1 != 0) = false := bne_eq_false_iff_eq.mpr c5
     clear c5
     obtain rfl := Option.some.inj H
     go_enter Tryd.func25, Tryd.ntmps25
     go_wp2_with (first | ((with_reducible refine gate_dst (N := 1) rfl ?_); refine zx 1 #[.bool false, .int .u64 a0_1, .int .u64 a0_2] 25 ?_; intro gb149 hg w6 hbox hb; have BK149 := Aside0.mk (hbox); have GW149 := Aside0.mk ((by rw [hg]; exact (below_size (zB HB)) : w.heap.size ≤ gb149)); have GE149 := Aside0.mk ((by rw [hg]; exact (below_size (zB HB)) : w.heap.size ≤ gb149)); replace HB := Aside0.mk (below_step (zB HB) hb); clear hb hbox hg; obtain ⟨hcz7_0, hcz7_1, hcz7_2⟩ := zc3 BK149; obtain ⟨hfz7_0, hfz7_1, hfz7_2⟩ := zf3 BK149))
     go_ret
     exact ⟨by first | rfl | (simp [errW_none, errW_some] <;> rfl) | (simp [*, errW_none, errW_some] <;> rfl), by repeat (first | (with_reducible first | exact HB.out | apply below_alloc | apply pw_below_drewN | apply below_drew1 | refine below_set ?_ GE149.out) | exact HB.out)⟩
   · rw [if_neg c5] at H
     have c5b0 : (a0_1 == 0) = false := beq_eq_false_iff_ne.mpr c5
     have c5b1 : (a0_1 != 0) = true := bne_iff_ne.mpr c5
     obtain rfl := Option.some.inj H
     go_enter Tryd.func25, Tryd.ntmps25
     go_wp2_with (first | ((with_reducible refine gate_dst (N := 1) rfl ?_); refine zx 1 #[.bool false, .int .u64 a0_1, .int .u64 a0_2] 25 ?_; intro gb149 hg w8 hbox hb; have BK149 := Aside0.mk (hbox); have GW149 := Aside0.mk ((by rw [hg]; exact (below_size (zB HB)) : w.heap.size ≤ gb149)); have GE149 := Aside0.mk ((by rw [hg]; exact (below_size (zB HB)) : w.heap.size ≤ gb149)); replace HB := Aside0.mk (below_step (zB HB) hb); clear hb hbox hg; obtain ⟨hcz9_0, hcz9_1, hcz9_2⟩ := zc3 BK149; obtain ⟨hfz9_0, hfz9_1, hfz9_2⟩ := zf3 BK149))
     go_ret
     exact ⟨by first | rfl | (simp [errW_none, errW_some] <;> rfl) | (simp [*, errW_none, errW_some] <;> rfl), by repeat (first | (with_reducible first | exact HB.out | apply below_alloc | apply pw_below_drewN | apply below_drew1 | refine below_set ?_ GE149.out) | exact HB.out)⟩
end Go.Proofs.YtlgfinnldhjgeaaDoor.Q
end

section
namespace Go.Proofs.YtlgfinnldhjgeaaDoor.Q
open Go.RowKit Go.Proofs.YtlgfinnldhjgeaaDoorW.PrintWords Go.Proofs.YtlgfinnldhjgeaaDoorW.PrintLast Go.Proofs.YtlgfinnldhjgeaaDoorW.PrintMore
attribute [local go_sem] max2_int min2_int max_two min_two max_three min_three max_four min_four
set_option linter.unusedVariables false
set_option linter.unusedSimpArgs false
def address_low.f (a0 : Int) : Option (Int) := if a0 ≥ 64 then (some 18446744073709551615) else (if a0 ≤ 0 then (some 0) else (if 0 ≤ a0 then (some (IntKind.u64.wrap ((shl .u64 1 a0) - 1))) else (none)))
set_option maxHeartbeats 8000000 in
set_option maxRecDepth 100000 in
theorem address_low.calls (a0 : Int) (r : Int) (w : World) (h : address_low.f a0 = some r) :
 Calls Tryd.prog 70 #[.int .i64 a0] w fun e w' => e = .returned (.int .u64 r) ∧ Drawn0 w w' := by
 unfold address_low.f at h; have H := h
 clear h
 by_cases c2 : a0 ≥ 64
 · rw [if_pos c2] at H
   have c2b0 : decide (64 ≤ a0) = true := decide_eq_true c2
   clear c2
   obtain rfl := Option.some.inj H
   go_enter Tryd.func70, Tryd.ntmps70
   go_wp2
   go_ret
   exact ⟨by first | rfl | (simp; done) | (simp [*]; done), by repeat (first | exact Drawn0.refl _ | apply Drawn0.step)⟩
 · rw [if_neg c2] at H
   have c2b0 : decide (64 ≤ a0) = false := decide_eq_false c2
   clear c2
   by_cases c3 : a0 ≤ 0
   · rw [if_pos c3] at H
     have c3b0 : decide (a0 ≤ 0) = true := decide_eq_true c3
     clear c3
     obtain rfl := Option.some.inj H
     go_enter Tryd.func70, Tryd.ntmps70
     go_wp2
     go_ret
     exact ⟨by first | rfl | (simp; done) | (simp [*]; done), by repeat (first | exact Drawn0.refl _ | apply Drawn0.step)⟩
   · rw [if_neg c3] at H
     have c3b0 : decide (a0 ≤ 0) = false := decide_eq_false c3
     clear c3
     by_cases c4 : 0 ≤ a0
     · rw [if_pos c4] at H
       have c4b0 := eq_true c4
       have c4b1 : decide (0 ≤ a0) = true := decide_eq_true c4
       clear c4
       obtain ⟨ji5, hji5⟩ : ∃ j_ : Int, (shl .u64 1 a0) = j_ := ⟨_, rfl⟩
       replace H : (some (IntKind.u64.wrap ((ji5) - 1))) = some r := by first | (rw [hji5] at H; exact H) | (simp only [hji5] at H ⊢; exact H)
       have hji5_ : (IntKind.u64.wrap (1 * 2 ^ min a0.toNat 64)) = ji5 := hji5
       have hji5z : a0 ≤ 64 → (IntKind.u64.wrap (1 * 2 ^ a0.toNat)) = ji5 := shl_small hji5
       have hji5u : (IntKind.u64.wrap (2 ^ min a0.toNat 64)) = ji5 := by have h_ := hji5_; rw [Int.one_mul] at h_; exact h_
       have hji5v : a0 ≤ 64 → (IntKind.u64.wrap (2 ^ a0.toNat)) = ji5 := fun hle_ => by have h_ := hji5z hle_; rw [Int.one_mul] at h_; exact h_
       obtain rfl := Option.some.inj H
       go_enter Tryd.func70, Tryd.ntmps70
       go_wp2
       go_ret
       exact ⟨by first | rfl | (simp; done) | (simp only [← hji5] <;> (first | rfl | simp)) | (simp [*]; done), by repeat (first | exact Drawn0.refl _ | apply Drawn0.step)⟩
     · rw [if_neg c4] at H
       exact absurd H (by simp)
end Go.Proofs.YtlgfinnldhjgeaaDoor.Q
end

section
namespace Go.Proofs.YtlgfinnldhjgeaaDoor.Q
open Go.RowKit Go.Proofs.YtlgfinnldhjgeaaDoorW.PrintWords Go.Proofs.YtlgfinnldhjgeaaDoorW.PrintLast Go.Proofs.YtlgfinnldhjgeaaDoorW.PrintMore
attribute [local go_sem] max2_int min2_int max_two min_two max_three min_three max_four min_four
set_option linter.unusedVariables false
set_option linter.unusedSimpArgs false
def address_mask.f (a0_0 : Bool) (a0_1 : Int) (a0_2 : Int) (a1 : Int) : Option (Int × Int) := (address_size.f a0_0 a0_1 a0_2).bind fun t152 => ((address_low.f (wrap64 ((wrap64 (t152 - a1)) - 64))).bind fun t153 => ((address_low.f (wrap64 (t152 - a1))).bind fun t154 => (some (t153, t154))))
set_option maxHeartbeats 8000000 in
set_option maxRecDepth 100000 in
theorem address_mask.calls (a0_0 : Bool) (a0_1 : Int) (a0_2 : Int) (a1 : Int) (r1 : Int) (r2 : Int) (w : World) (h : address_mask.f a0_0 a0_1 a0_2 a1 = some (r1, r2)) :
 Calls Tryd.prog 51 #[.agg #[.bool a0_0, .int .u64 a0_1, .int .u64 a0_2], .int .i64 a1] w fun e w' => e = .returned (.tuple #[.int .u64 r1, .int .u64 r2]) ∧ Below w.heap.size w w' := by
 have hu25 := Tryd.underlying25
 have HB := Aside0.mk (Below.refl w.heap.size w)
 unfold address_mask.f at h; have H := h
 clear h
 replace H := Option.bind_eq_some_iff.mp H
 obtain ⟨t152, A30, H⟩ := H
 replace H : ((address_low.f (wrap64 ((wrap64 (t152 - a1)) - 64))).bind fun t153 => ((address_low.f (wrap64 (t152 - a1))).bind fun t154 => (some (t153, t154)))) = some (r1, r2) := H
 have A3 := Aside0.mk A30
 clear A30
 replace H := Option.bind_eq_some_iff.mp H
 obtain ⟨t153, A40, H⟩ := H
 replace H : ((address_low.f (wrap64 (t152 - a1))).bind fun t154 => (some (t153, t154))) = some (r1, r2) := H
 have A4 := Aside0.mk A40
 clear A40
 replace H := Option.bind_eq_some_iff.mp H
 obtain ⟨t154, A50, H⟩ := H
 replace H : (some (t153, t154)) = some (r1, r2) := H
 have A5 := Aside0.mk A50
 clear A50
 simp only [Option.some.injEq, Prod.mk.injEq] at H
 obtain ⟨rfl, rfl⟩ := H
 go_enter Tryd.func51, Tryd.ntmps51
 go_wp2_with (first | ((with_reducible refine gate_dst (N := 2) rfl ?_); refine zx 2 #[.bool a0_0, .int .u64 a0_1, .int .u64 a0_2] 25 ?_; intro gb151 hg w6 hbox hb; have BK151 := Aside0.mk (hbox); have GW151 := Aside0.mk ((by rw [hg]; exact (below_size (zB HB)) : w.heap.size ≤ gb151)); have GE151 := Aside0.mk ((by rw [hg]; exact (below_size (zB HB)) : w.heap.size ≤ gb151)); replace HB := Aside0.mk (below_step (zB HB) hb); clear hb hbox hg; obtain ⟨hcz7_0, hcz7_1, hcz7_2⟩ := zc3 BK151; obtain ⟨hfz7_0, hfz7_1, hfz7_2⟩ := zf3 BK151) | ((with_reducible refine gate_callee (f := 44) rfl ?_); refine goesL_ (some 8) rfl rfl Tryd.func44 (by kernel_rfl) rfl #[.agg #[.bool a0_0, .int .u64 a0_1, .int .u64 a0_2]] rfl (by (try simp only [List.map_toArray, List.map_cons, List.map_nil]); first | done | rfl | (simp only [List.length_drop, List.length_take]; rfl)) ?_; (with_reducible refine (address_size.calls a0_0 a0_1 a0_2 t152 _ A3.out).mono ?_); rintro e w8 ⟨rfl, hb⟩; refine ⟨_, rfl, ?_⟩; replace BK151 := Aside0.mk (blk_below (g := gb151) (o := .cells #[.bool a0_0, .int .u64 a0_1, .int .u64 a0_2] 25 (0, 0)) (zK BK151) hb); replace HB := Aside0.mk (below_step (zB HB) hb); (try clear hb)) | ((with_reducible refine gate_callee (f := 70) rfl ?_); refine goesL_ (some 13) rfl rfl Tryd.func70 (by kernel_rfl) rfl #[.int .i64 (wrap64 ((wrap64 (t152 - a1)) - 64))] rfl (by (try simp only [List.map_toArray, List.map_cons, List.map_nil]); first | done | rfl | (simp only [List.length_drop, List.length_take]; rfl)) ?_; (with_reducible refine (address_low.calls (wrap64 ((wrap64 (t152 - a1)) - 64)) t153 _ A4.out).mono ?_); rintro e w' ⟨rfl, ⟨nd, rfl⟩⟩; refine ⟨_, rfl, ?_⟩) | ((with_reducible refine gate_callee (f := 70) rfl ?_); refine goesL_ (some 15) rfl rfl Tryd.func70 (by kernel_rfl) rfl #[.int .i64 (wrap64 (t152 - a1))] rfl (by (try simp only [List.map_toArray, List.map_cons, List.map_nil]); first | done | rfl | (simp only [List.length_drop, List.length_take]; rfl)) ?_; (with_reducible refine (address_low.calls (wrap64 (t152 - a1)) t154 _ A5.out).mono ?_); rintro e w' ⟨rfl, ⟨nd, rfl⟩⟩; refine ⟨_, rfl, ?_⟩))
 go_ret2
 exact ⟨by first | rfl | (simp [errW_none, errW_some] <;> rfl) | (simp [*, errW_none, errW_some] <;> rfl), by repeat (first | (with_reducible first | exact HB.out | apply below_alloc | apply pw_below_drewN | apply below_drew1 | refine below_set ?_ GE151.out) | exact HB.out)⟩
end Go.Proofs.YtlgfinnldhjgeaaDoor.Q
end

section
namespace Go.Proofs.YtlgfinnldhjgeaaDoor.Q
open Go.RowKit Go.Proofs.YtlgfinnldhjgeaaDoorW.PrintWords Go.Proofs.YtlgfinnldhjgeaaDoorW.PrintLast Go.Proofs.YtlgfinnldhjgeaaDoorW.PrintMore
attribute [local go_sem] max2_int min2_int max_two min_two max_three min_three max_four min_four
set_option linter.unusedVariables false
set_option linter.unusedSimpArgs false
def address_ValidPrefix.f (a0_0 : Bool) (a0_1 : Int) (a0_2 : Int) (a0_3 : Int) : Option (Bool) := (address_Valid.f a0_0 a0_1 a0_2).bind fun t156 => (if t156 = true then (if a0_3 < 0 then (some false) else ((address_size.f a0_0 a0_1 a0_2).bind fun t157 => (if a0_3 > t157 then (some false) else ((address_mask.f a0_0 a0_1 a0_2 a0_3).bind fun bt158 => (if (Go.bits .and .u64 a0_1 bt158.1) = 0 then (some ((Go.bits .and .u64 a0_2 bt158.2) == 0)) else (some false)))))) else (some false))
def address_ValidPrefix.T1 : Bool × List (List Nat × List Nat) := (true, [([], []), ([0], [0]), ([1], [1]), ([2], [2]), ([3, 2], [3]), ([4], [4]), ([5, 4], [4, 5]), ([6, 4], [4, 6]), ([4, 7], [4, 7]), ([8, 4], [8]), ([9], [9]), ([10, 9], [9, 10]), ([9], [9]), ([12, 9], [9, 12]), ([13, 9, 9], [9, 13]), ([11, 14, 9], [9, 11, 14]), ([9, 15], [9, 15])])
def address_ValidPrefix.B1 : List Nat := [0, 1, 3, 7, 15, 31, 63, 127, 255, 511, 1023, 2047, 1023, 5119, 13311, 32767, 65535]
theorem address_ValidPrefix.tab1 : rtab .any (opsOf Tryd.f31 1) = address_ValidPrefix.T1 := by kernel_rfl
theorem address_ValidPrefix.bits1 : waitsOk address_ValidPrefix.T1.2 address_ValidPrefix.B1 = true := by kernel_rfl
set_option maxHeartbeats 8000000 in
set_option maxRecDepth 100000 in
theorem address_ValidPrefix.calls (a0_0 : Bool) (a0_1 : Int) (a0_2 : Int) (a0_3 : Int) (r : Bool) (w : World) (h : address_ValidPrefix.f a0_0 a0_1 a0_2 a0_3 = some r) :
 Calls Tryd.prog 31 #[.agg #[.bool a0_0, .int .u64 a0_1, .int .u64 a0_2, .int .i64 a0_3]] w fun e w' => e = .returned (.bool r) ∧ Below w.heap.size w w' := by
 have hu30 := Tryd.underlying30
 have hu25 := Tryd.underlying25
 have HB := Aside0.mk (Below.refl w.heap.size w)
 unfold address_ValidPrefix.f at h; have H := h
 clear h
 replace H := Option.bind_eq_some_iff.mp H
 obtain ⟨t156, A20, H⟩ := H
 try dsimp only at H
 have A2 := Aside0.mk A20
 clear A20
 by_cases c3 : t156 = true
 · subst c3
   rw [if_pos rfl] at H
   by_cases c4 : a0_3 < 0
   · rw [if_pos c4] at H
     have c4b0 : decide (a0_3 < 0) = true := decide_eq_true c4
     clear c4
     obtain rfl := Option.some.inj H
     go_enter Tryd.func31, Tryd.ntmps31
     try go_wp2_with (first | ((with_reducible refine gate_dst (N := 1) rfl ?_); refine zx 1 #[.bool a0_0, .int .u64 a0_1, .int .u64 a0_2, .int .i64 a0_3] 30 ?_; intro gb155 hg w5 hbox hb; have BK155 := Aside0.mk (hbox); have GW155 := Aside0.mk ((by rw [hg]; exact (below_size (zB HB)) : w.heap.size ≤ gb155)); have GE155 := Aside0.mk ((by rw [hg]; exact (below_size (zB HB)) : w.heap.size ≤ gb155)); replace HB := Aside0.mk (below_step (zB HB) hb); clear hb hbox hg))
     replace BK155 := Aside0.mk (blk_drew BK155.out)
     replace HB := Aside0.mk (below_drew1 HB.out)
     refine start_ (n := 17) (S := fun w' => w'.cell? ⟨gb155, 0, none⟩ = some (.bool a0_0) ∧ w'.cell? ⟨gb155, 1, none⟩ = some (.int .u64 a0_1) ∧ w'.cell? ⟨gb155, 2, none⟩ = some (.int .u64 a0_2) ∧ w'.cell? ⟨gb155, 3, none⟩ = some (.int .i64 a0_3)) (ds := []) #[false, false, false, false, false, false, false, false, false, false, false, false, false, false, false, false, false] (by kernel_rfl) rfl rfl ⟨zc BK155 0, zc BK155 1, zc BK155 2, zc BK155 3⟩ (fun hHeld => ?_); refine with_tabW address_ValidPrefix.tab1 address_ValidPrefix.bits1 (fun HT_ HW_ => ?_)
     generalize w5.drew = w6 at BK155 HB hHeld ⊢
     refine zp 0 5 HT_ ?_; refine zt 1 6 HT_ HW_ hHeld ?_; refine zo 2 7 HT_ (fun K hK => ?_)
     refine zg Tryd.func25 #[.agg #[.bool a0_0, .int .u64 a0_1, .int .u64 a0_2]] ?_
     with_reducible refine (address_Valid.calls a0_0 a0_1 a0_2 true _ A2.out).mono ?_
     rintro e w7 ⟨rfl, hb⟩
     refine ⟨_, rfl, ?_⟩
     replace BK155 := Aside0.mk (blk_below (g := gb155) (o := .cells #[.bool a0_0, .int .u64 a0_1, .int .u64 a0_2, .int .i64 a0_3] 30 (0, 0)) (zK BK155) hb)
     replace HB := Aside0.mk (below_step (zB HB) hb)
     (try clear hb)
     refine hK.out _ _ ⟨zc BK155 0, zc BK155 1, zc BK155 2, zc BK155 3⟩ (fun hHeld => ?_)
     clear hK K
     refine zn 7 ?_; refine zp 3 8 HT_ ?_; refine zp 4 9 HT_ ?_; refine zp 5 10 HT_ ?_; refine zt 6 11 HT_ HW_ hHeld ?_; refine zp 7 12 HT_ ?_; refine zp 8 13 HT_ ?_; refine zp 9 14 HT_ ?_; refine zu 10 15 HT_ ?_; refine zu 11 16 HT_ ?_; refine zu 12 17 HT_ ?_; refine zu 13 18 HT_ ?_; refine zu 14 19 HT_ ?_; refine zu 15 20 HT_ ?_; refine zp 16 21 HT_ ?_; refine zd HT_ ?_
     try go_wp2
     go_ret
     exact ⟨by first | rfl | (simp [errW_none, errW_some] <;> rfl) | (simp [*, errW_none, errW_some] <;> rfl), by repeat (first | (with_reducible first | exact HB.out | apply below_alloc | apply pw_below_drewN | apply below_drew1 | refine below_set ?_ GE155.out) | exact HB.out)⟩
   · rw [if_neg c4] at H
     have c4b0 : decide (a0_3 < 0) = false := decide_eq_false c4
     clear c4
     replace H := Option.bind_eq_some_iff.mp H
     obtain ⟨t157, A80, H⟩ := H
     try dsimp only at H
     have A8 := Aside0.mk A80
     clear A80
     by_cases c9 : a0_3 > t157
     · rw [if_pos c9] at H
       have c9b0 : decide (t157 < a0_3) = true := decide_eq_true c9
       clear c9
       obtain rfl := Option.some.inj H
       go_enter Tryd.func31, Tryd.ntmps31
       try go_wp2_with (first | ((with_reducible refine gate_dst (N := 1) rfl ?_); refine zx 1 #[.bool a0_0, .int .u64 a0_1, .int .u64 a0_2, .int .i64 a0_3] 30 ?_; intro gb155 hg w10 hbox hb; have BK155 := Aside0.mk (hbox); have GW155 := Aside0.mk ((by rw [hg]; exact (below_size (zB HB)) : w.heap.size ≤ gb155)); have GE155 := Aside0.mk ((by rw [hg]; exact (below_size (zB HB)) : w.heap.size ≤ gb155)); replace HB := Aside0.mk (below_step (zB HB) hb); clear hb hbox hg))
       replace BK155 := Aside0.mk (blk_drew BK155.out)
       replace HB := Aside0.mk (below_drew1 HB.out)
       refine start_ (n := 17) (S := fun w' => w'.cell? ⟨gb155, 0, none⟩ = some (.bool a0_0) ∧ w'.cell? ⟨gb155, 1, none⟩ = some (.int .u64 a0_1) ∧ w'.cell? ⟨gb155, 2, none⟩ = some (.int .u64 a0_2) ∧ w'.cell? ⟨gb155, 3, none⟩ = some (.int .i64 a0_3)) (ds := []) #[false, false, false, false, false, false, false, false, false, false, false, false, false, false, false, false, false] (by kernel_rfl) rfl rfl ⟨zc BK155 0, zc BK155 1, zc BK155 2, zc BK155 3⟩ (fun hHeld => ?_); refine with_tabW address_ValidPrefix.tab1 address_ValidPrefix.bits1 (fun HT_ HW_ => ?_)
       generalize w10.drew = w11 at BK155 HB hHeld ⊢
       refine zp 0 5 HT_ ?_; refine zt 1 6 HT_ HW_ hHeld ?_; refine zo 2 7 HT_ (fun K hK => ?_)
       refine zg Tryd.func25 #[.agg #[.bool a0_0, .int .u64 a0_1, .int .u64 a0_2]] ?_
       with_reducible refine (address_Valid.calls a0_0 a0_1 a0_2 true _ A2.out).mono ?_
       rintro e w12 ⟨rfl, hb⟩
       refine ⟨_, rfl, ?_⟩
       replace BK155 := Aside0.mk (blk_below (g := gb155) (o := .cells #[.bool a0_0, .int .u64 a0_1, .int .u64 a0_2, .int .i64 a0_3] 30 (0, 0)) (zK BK155) hb)
       replace HB := Aside0.mk (below_step (zB HB) hb)
       (try clear hb)
       refine hK.out _ _ ⟨zc BK155 0, zc BK155 1, zc BK155 2, zc BK155 3⟩ (fun hHeld => ?_)
       clear hK K
       refine zn 7 ?_; refine zp 3 8 HT_ ?_; refine zp 4 9 HT_ ?_; refine zp 5 10 HT_ ?_; refine zt 6 11 HT_ HW_ hHeld ?_; refine zp 7 12 HT_ ?_; refine zp 8 13 HT_ ?_; refine zp 9 14 HT_ ?_; refine zp 10 15 HT_ ?_; refine zp 12 17 HT_ ?_; refine zt 11 16 HT_ HW_ hHeld ?_; refine zt 13 18 HT_ HW_ hHeld ?_; refine zo 14 19 HT_ (fun K hK => ?_)
       refine zg Tryd.func44 #[.agg #[.bool a0_0, .int .u64 a0_1, .int .u64 a0_2]] ?_
       with_reducible refine (address_size.calls a0_0 a0_1 a0_2 t157 _ A8.out).mono ?_
       rintro e w13 ⟨rfl, hb⟩
       refine ⟨_, rfl, ?_⟩
       replace BK155 := Aside0.mk (blk_below (g := gb155) (o := .cells #[.bool a0_0, .int .u64 a0_1, .int .u64 a0_2, .int .i64 a0_3] 30 (0, 0)) (zK BK155) hb)
       replace HB := Aside0.mk (below_step (zB HB) hb)
       (try clear hb)
       refine hK.out _ _ ⟨zc BK155 0, zc BK155 1, zc BK155 2, zc BK155 3⟩ (fun hHeld => ?_)
       clear hK K
       refine zn 19 ?_; refine zp 15 20 HT_ ?_; refine zp 16 21 HT_ ?_; refine zd HT_ ?_
       try go_wp2
       go_ret
       exact ⟨by first | rfl | (simp [errW_none, errW_some] <;> rfl) | (simp [*, errW_none, errW_some] <;> rfl), by repeat (first | (with_reducible first | exact HB.out | apply below_alloc | apply pw_below_drewN | apply below_drew1 | refine below_set ?_ GE155.out) | exact HB.out)⟩
     · rw [if_neg c9] at H
       have c9b0 : decide (t157 < a0_3) = false := decide_eq_false c9
       clear c9
       replace H := Option.bind_eq_some_iff.mp H
       obtain ⟨⟨t158, t159⟩, A140, H⟩ := H
       try dsimp only at H
       have A14 := Aside0.mk A140
       clear A140
       by_cases c15 : (Go.bits .and .u64 a0_1 t158) = 0
       · rw [if_pos c15] at H
         have c15b0 : ((Go.bits .and .u64 a0_1 t158) == 0) = true := beq_iff_eq.mpr c15
         have c15b1 : ((Go.bits .and .u64 a0_1 t158) != 0) = false := bne_eq_false_iff_eq.mpr c15
         clear c15
         obtain rfl := Option.some.inj H
         go_enter Tryd.func31, Tryd.ntmps31
         try go_wp2_with (first | ((with_reducible refine gate_dst (N := 1) rfl ?_); refine zx 1 #[.bool a0_0, .int .u64 a0_1, .int .u64 a0_2, .int .i64 a0_3] 30 ?_; intro gb155 hg w16 hbox hb; have BK155 := Aside0.mk (hbox); have GW155 := Aside0.mk ((by rw [hg]; exact (below_size (zB HB)) : w.heap.size ≤ gb155)); have GE155 := Aside0.mk ((by rw [hg]; exact (below_size (zB HB)) : w.heap.size ≤ gb155)); replace HB := Aside0.mk (below_step (zB HB) hb); clear hb hbox hg))
         replace BK155 := Aside0.mk (blk_drew BK155.out)
         replace HB := Aside0.mk (below_drew1 HB.out)
         refine start_ (n := 17) (S := fun w' => w'.cell? ⟨gb155, 0, none⟩ = some (.bool a0_0) ∧ w'.cell? ⟨gb155, 1, none⟩ = some (.int .u64 a0_1) ∧ w'.cell? ⟨gb155, 2, none⟩ = some (.int .u64 a0_2) ∧ w'.cell? ⟨gb155, 3, none⟩ = some (.int .i64 a0_3)) (ds := []) #[false, false, false, false, false, false, false, false, false, false, false, false, false, false, false, false, false] (by kernel_rfl) rfl rfl ⟨zc BK155 0, zc BK155 1, zc BK155 2, zc BK155 3⟩ (fun hHeld => ?_); refine with_tabW address_ValidPrefix.tab1 address_ValidPrefix.bits1 (fun HT_ HW_ => ?_)
         generalize w16.drew = w17 at BK155 HB hHeld ⊢
         refine zp 0 5 HT_ ?_; refine zt 1 6 HT_ HW_ hHeld ?_; refine zo 2 7 HT_ (fun K hK => ?_)
         refine zg Tryd.func25 #[.agg #[.bool a0_0, .int .u64 a0_1, .int .u64 a0_2]] ?_
         with_reducible refine (address_Valid.calls a0_0 a0_1 a0_2 true _ A2.out).mono ?_
         rintro e w18 ⟨rfl, hb⟩
         refine ⟨_, rfl, ?_⟩
         replace BK155 := Aside0.mk (blk_below (g := gb155) (o := .cells #[.bool a0_0, .int .u64 a0_1, .int .u64 a0_2, .int .i64 a0_3] 30 (0, 0)) (zK BK155) hb)
         replace HB := Aside0.mk (below_step (zB HB) hb)
         (try clear hb)
         refine hK.out _ _ ⟨zc BK155 0, zc BK155 1, zc BK155 2, zc BK155 3⟩ (fun hHeld => ?_)
         clear hK K
         refine zn 7 ?_; refine zp 3 8 HT_ ?_; refine zp 4 9 HT_ ?_; refine zp 5 10 HT_ ?_; refine zt 6 11 HT_ HW_ hHeld ?_; refine zp 7 12 HT_ ?_; refine zp 8 13 HT_ ?_; refine zp 9 14 HT_ ?_; refine zp 10 15 HT_ ?_; refine zp 12 17 HT_ ?_; refine zt 11 16 HT_ HW_ hHeld ?_; refine zt 13 18 HT_ HW_ hHeld ?_; refine zo 14 19 HT_ (fun K hK => ?_)
         refine zg Tryd.func44 #[.agg #[.bool a0_0, .int .u64 a0_1, .int .u64 a0_2]] ?_
         with_reducible refine (address_size.calls a0_0 a0_1 a0_2 t157 _ A8.out).mono ?_
         rintro e w19 ⟨rfl, hb⟩
         refine ⟨_, rfl, ?_⟩
         replace BK155 := Aside0.mk (blk_below (g := gb155) (o := .cells #[.bool a0_0, .int .u64 a0_1, .int .u64 a0_2, .int .i64 a0_3] 30 (0, 0)) (zK BK155) hb)
         replace HB := Aside0.mk (below_step (zB HB) hb)
         (try clear hb)
         refine hK.out _ _ ⟨zc BK155 0, zc BK155 1, zc BK155 2, zc BK155 3⟩ (fun hHeld => ?_)
         clear hK K
         refine zn 19 ?_; refine zp 15 20 HT_ ?_; refine zp 16 21 HT_ ?_; refine zd HT_ ?_
         obtain ⟨hcz20_0, hcz20_1, hcz20_2, hcz20_3⟩ := zc4 BK155
         obtain ⟨hfz20_0, hfz20_1, hfz20_2, hfz20_3⟩ := zf4 BK155
         try go_wp2_with (first | ((with_reducible refine gate_callee (f := 51) rfl ?_); refine goesL_ (some 27) rfl rfl Tryd.func51 (by kernel_rfl) rfl #[.agg #[.bool a0_0, .int .u64 a0_1, .int .u64 a0_2], .int .i64 a0_3] rfl (by (try simp only [List.map_toArray, List.map_cons, List.map_nil]); first | done | rfl | (simp only [List.length_drop, List.length_take]; rfl)) ?_; (with_reducible refine (address_mask.calls a0_0 a0_1 a0_2 a0_3 t158 t159 _ A14.out).mono ?_); rintro e w21 ⟨rfl, hb⟩; refine ⟨_, rfl, ?_⟩; replace BK155 := Aside0.mk (blk_below (g := gb155) (o := .cells #[.bool a0_0, .int .u64 a0_1, .int .u64 a0_2, .int .i64 a0_3] 30 (0, 0)) (zK BK155) hb); replace HB := Aside0.mk (below_step (zB HB) hb); (try clear hb); obtain ⟨hcz22_0, hcz22_1, hcz22_2, hcz22_3⟩ := zc4 BK155; obtain ⟨hfz22_0, hfz22_1, hfz22_2, hfz22_3⟩ := zf4 BK155))
         go_ret
         exact ⟨by first | rfl | (simp [errW_none, errW_some] <;> rfl) | (simp [*, errW_none, errW_some] <;> rfl), by repeat (first | (with_reducible first | exact HB.out | apply below_alloc | apply pw_below_drewN | apply below_drew1 | refine below_set ?_ GE155.out) | exact HB.out)⟩
       · rw [if_neg c15] at H
         have c15b0 : ((Go.bits .and .u64 a0_1 t158) == 0) = false := beq_eq_false_iff_ne.mpr c15
         have c15b1 : ((Go.bits .and .u64 a0_1 t158) != 0) = true := bne_iff_ne.mpr c15
         obtain rfl := Option.some.inj H
         go_enter Tryd.func31, Tryd.ntmps31
         try go_wp2_with (first | ((with_reducible refine gate_dst (N := 1) rfl ?_); refine zx 1 #[.bool a0_0, .int .u64 a0_1, .int .u64 a0_2, .int .i64 a0_3] 30 ?_; intro gb155 hg w23 hbox hb; have BK155 := Aside0.mk (hbox); have GW155 := Aside0.mk ((by rw [hg]; exact (below_size (zB HB)) : w.heap.size ≤ gb155)); have GE155 := Aside0.mk ((by rw [hg]; exact (below_size (zB HB)) : w.heap.size ≤ gb155)); replace HB := Aside0.mk (below_step (zB HB) hb); clear hb hbox hg))
         replace BK155 := Aside0.mk (blk_drew BK155.out)
         replace HB := Aside0.mk (below_drew1 HB.out)
         refine start_ (n := 17) (S := fun w' => w'.cell? ⟨gb155, 0, none⟩ = some (.bool a0_0) ∧ w'.cell? ⟨gb155, 1, none⟩ = some (.int .u64 a0_1) ∧ w'.cell? ⟨gb155, 2, none⟩ = some (.int .u64 a0_2) ∧ w'.cell? ⟨gb155, 3, none⟩ = some (.int .i64 a0_3)) (ds := []) #[false, false, false, false, false, false, false, false, false, false, false, false, false, false, false, false, false] (by kernel_rfl) rfl rfl ⟨zc BK155 0, zc BK155 1, zc BK155 2, zc BK155 3⟩ (fun hHeld => ?_); refine with_tabW address_ValidPrefix.tab1 address_ValidPrefix.bits1 (fun HT_ HW_ => ?_)
         generalize w23.drew = w24 at BK155 HB hHeld ⊢
         refine zp 0 5 HT_ ?_; refine zt 1 6 HT_ HW_ hHeld ?_; refine zo 2 7 HT_ (fun K hK => ?_)
         refine zg Tryd.func25 #[.agg #[.bool a0_0, .int .u64 a0_1, .int .u64 a0_2]] ?_
         with_reducible refine (address_Valid.calls a0_0 a0_1 a0_2 true _ A2.out).mono ?_
         rintro e w25 ⟨rfl, hb⟩
         refine ⟨_, rfl, ?_⟩
         replace BK155 := Aside0.mk (blk_below (g := gb155) (o := .cells #[.bool a0_0, .int .u64 a0_1, .int .u64 a0_2, .int .i64 a0_3] 30 (0, 0)) (zK BK155) hb)
         replace HB := Aside0.mk (below_step (zB HB) hb)
         (try clear hb)
         refine hK.out _ _ ⟨zc BK155 0, zc BK155 1, zc BK155 2, zc BK155 3⟩ (fun hHeld => ?_)
         clear hK K
         refine zn 7 ?_; refine zp 3 8 HT_ ?_; refine zp 4 9 HT_ ?_; refine zp 5 10 HT_ ?_; refine zt 6 11 HT_ HW_ hHeld ?_; refine zp 7 12 HT_ ?_; refine zp 8 13 HT_ ?_; refine zp 9 14 HT_ ?_; refine zp 10 15 HT_ ?_; refine zp 12 17 HT_ ?_; refine zt 11 16 HT_ HW_ hHeld ?_; refine zt 13 18 HT_ HW_ hHeld ?_; refine zo 14 19 HT_ (fun K hK => ?_)
         refine zg Tryd.func44 #[.agg #[.bool a0_0, .int .u64 a0_1, .int .u64 a0_2]] ?_
         with_reducible refine (address_size.calls a0_0 a0_1 a0_2 t157 _ A8.out).mono ?_
         rintro e w26 ⟨rfl, hb⟩
         refine ⟨_, rfl, ?_⟩
         replace BK155 := Aside0.mk (blk_below (g := gb155) (o := .cells #[.bool a0_0, .int .u64 a0_1, .int .u64 a0_2, .int .i64 a0_3] 30 (0, 0)) (zK BK155) hb)
         replace HB := Aside0.mk (below_step (zB HB) hb)
         (try clear hb)
         refine hK.out _ _ ⟨zc BK155 0, zc BK155 1, zc BK155 2, zc BK155 3⟩ (fun hHeld => ?_)
         clear hK K
         refine zn 19 ?_; refine zp 15 20 HT_ ?_; refine zp 16 21 HT_ ?_; refine zd HT_ ?_
         obtain ⟨hcz27_0, hcz27_1, hcz27_2, hcz27_3⟩ := zc4 BK155
         obtain ⟨hfz27_0, hfz27_1, hfz27_2, hfz27_3⟩ := zf4 BK155
         try go_wp2_with (first | ((with_reducible refine gate_callee (f := 51) rfl ?_); refine goesL_ (some 27) rfl rfl Tryd.func51 (by kernel_rfl) rfl #[.agg #[.bool a0_0, .int .u64 a0_1, .int .u64 a0_2], .int .i64 a0_3] rfl (by (try simp only [List.map_toArray, List.map_cons, List.map_nil]); first | done | rfl | (simp only [List.length_drop, List.length_take]; rfl)) ?_; (with_reducible refine (address_mask.calls a0_0 a0_1 a0_2 a0_3 t158 t159 _ A14.out).mono ?_); rintro e w28 ⟨rfl, hb⟩; refine ⟨_, rfl, ?_⟩; replace BK155 := Aside0.mk (blk_below (g := gb155) (o := .cells #[.bool a0_0, .int .u64 a0_1, .int .u64 a0_2, .int .i64 a0_3] 30 (0, 0)) (zK BK155) hb); replace HB := Aside0.mk (below_step (zB HB) hb); (try clear hb); obtain ⟨hcz29_0, hcz29_1, hcz29_2, hcz29_3⟩ := zc4 BK155; obtain ⟨hfz29_0, hfz29_1, hfz29_2, hfz29_3⟩ := zf4 BK155))
         go_ret
         exact ⟨by first | rfl | (simp [errW_none, errW_some] <;> rfl) | (simp [*, errW_none, errW_some] <;> rfl), by repeat (first | (with_reducible first | exact HB.out | apply below_alloc | apply pw_below_drewN | apply below_drew1 | refine below_set ?_ GE155.out) | exact HB.out)⟩
 · replace c3 := Bool.eq_false_iff.mpr c3
   subst c3
   rw [if_neg zF] at H
   obtain rfl := Option.some.inj H
   go_enter Tryd.func31, Tryd.ntmps31
   try go_wp2_with (first | ((with_reducible refine gate_dst (N := 1) rfl ?_); refine zx 1 #[.bool a0_0, .int .u64 a0_1, .int .u64 a0_2, .int .i64 a0_3] 30 ?_; intro gb155 hg w30 hbox hb; have BK155 := Aside0.mk (hbox); have GW155 := Aside0.mk ((by rw [hg]; exact (below_size (zB HB)) : w.heap.size ≤ gb155)); have GE155 := Aside0.mk ((by rw [hg]; exact (below_size (zB HB)) : w.heap.size ≤ gb155)); replace HB := Aside0.mk (below_step (zB HB) hb); clear hb hbox hg))
   replace BK155 := Aside0.mk (blk_drew BK155.out)
   replace HB := Aside0.mk (below_drew1 HB.out)
   refine start_ (n := 17) (S := fun w' => w'.cell? ⟨gb155, 0, none⟩ = some (.bool a0_0) ∧ w'.cell? ⟨gb155, 1, none⟩ = some (.int .u64 a0_1) ∧ w'.cell? ⟨gb155, 2, none⟩ = some (.int .u64 a0_2) ∧ w'.cell? ⟨gb155, 3, none⟩ = some (.int .i64 a0_3)) (ds := []) #[false, false, false, false, false, false, false, false, false, false, false, false, false, false, false, false, false] (by kernel_rfl) rfl rfl ⟨zc BK155 0, zc BK155 1, zc BK155 2, zc BK155 3⟩ (fun hHeld => ?_); refine with_tabW address_ValidPrefix.tab1 address_ValidPrefix.bits1 (fun HT_ HW_ => ?_)
   generalize w30.drew = w31 at BK155 HB hHeld ⊢
   refine zp 0 5 HT_ ?_; refine zt 1 6 HT_ HW_ hHeld ?_; refine zo 2 7 HT_ (fun K hK => ?_)
   refine zg Tryd.func25 #[.agg #[.bool a0_0, .int .u64 a0_1, .int .u64 a0_2]] ?_
   with_reducible refine (address_Valid.calls a0_0 a0_1 a0_2 false _ A2.out).mono ?_
   rintro e w32 ⟨rfl, hb⟩
   refine ⟨_, rfl, ?_⟩
   replace BK155 := Aside0.mk (blk_below (g := gb155) (o := .cells #[.bool a0_0, .int .u64 a0_1, .int .u64 a0_2, .int .i64 a0_3] 30 (0, 0)) (zK BK155) hb)
   replace HB := Aside0.mk (below_step (zB HB) hb)
   (try clear hb)
   refine hK.out _ _ ⟨zc BK155 0, zc BK155 1, zc BK155 2, zc BK155 3⟩ (fun hHeld => ?_)
   clear hK K
   refine zn 7 ?_; refine zp 3 8 HT_ ?_; refine zp 4 9 HT_ ?_; refine zu 5 10 HT_ ?_; refine zu 6 11 HT_ ?_; refine zu 7 12 HT_ ?_; refine zp 8 13 HT_ ?_; refine zp 9 14 HT_ ?_; refine zu 10 15 HT_ ?_; refine zu 11 16 HT_ ?_; refine zu 12 17 HT_ ?_; refine zu 13 18 HT_ ?_; refine zu 14 19 HT_ ?_; refine zu 15 20 HT_ ?_; refine zp 16 21 HT_ ?_; refine zd HT_ ?_
   try go_wp2
   go_ret
   exact ⟨by first | rfl | (simp [errW_none, errW_some] <;> rfl) | (simp [*, errW_none, errW_some] <;> rfl), by repeat (first | (with_reducible first | exact HB.out | apply below_alloc | apply pw_below_drewN | apply below_drew1 | refine below_set ?_ GE155.out) | exact HB.out)⟩
end Go.Proofs.YtlgfinnldhjgeaaDoor.Q
end

section
namespace Go.Proofs.YtlgfinnldhjgeaaDoor.Q
open Go.RowKit Go.Proofs.YtlgfinnldhjgeaaDoorW.PrintWords Go.Proofs.YtlgfinnldhjgeaaDoorW.PrintLast Go.Proofs.YtlgfinnldhjgeaaDoorW.PrintMore
attribute [local go_sem] max2_int min2_int max_two min_two max_three min_three max_four min_four
set_option linter.unusedVariables false
set_option linter.unusedSimpArgs false
mutual
def address_digits.j0 : Nat → ByteArray → Bool → Option (Int × Bool)
  | 0, _, _ => none
  | k + 1, x0, x17 => if x17 = true then (some (0, false)) else (address_digits.l0 k x0 0 (x0.size : Int) 0)
def address_digits.l0 : Nat → ByteArray → Int → Int → Int → Option (Int × Bool)
  | 0, _, _, _, _ => none
  | k + 1, x0, x4, x19, x20 => if x20 < x19 then (if 0 ≤ x20 then (if x20 < (x0.size : Int) then (if (bt x0 x20) < 48 then (some (0, false)) else (if (bt x0 x20) > 57 then (some (0, false)) else (address_digits.l0 k x0 (mn 1000 (wrap64 ((wrap64 (x4 * 10)) + (((bt x0 x20) - 48) % 256)))) x19 (wrap64 (x20 + 1))))) else (none)) else (none)) else (some (x4, true))
end
def address_digits.f (k : Nat) (a0 : ByteArray) : Option (Int × Bool) := if a0.toList = ([] : List UInt8) then (address_digits.j0 k a0 true) else (if 0 < (a0.size : Int) then (if (bt a0 0) = 48 then (address_digits.j0 k a0 (decide ((a0.size : Int) > 1))) else (address_digits.j0 k a0 false)) else (none))
theorem address_digits.mono_l : ∀ k, (∀ y0 y1, LeO (address_digits.j0 k y0 y1) (address_digits.j0 (k + 1) y0 y1)) ∧ (∀ y0 y1 y2 y3, LeO (address_digits.l0 k y0 y1 y2 y3) (address_digits.l0 (k + 1) y0 y1 y2 y3))
  | 0 => ⟨fun _ _ r h => by simp [address_digits.j0] at h, fun _ _ _ _ r h => by simp [address_digits.l0] at h⟩
  | k + 1 => by
    obtain ⟨ih0, ih1⟩ := address_digits.mono_l k
    refine ⟨?_, ?_⟩
    · intro y0 y1
      unfold address_digits.j0
      repeat' first
      | (with_reducible exact ih0 _ _)
      | (with_reducible exact ih1 _ _ _ _)
      | (with_reducible exact LeO.refl _)
      | (with_reducible exact LeO.none _)
      | (with_reducible refine LeO.ite ?_ ?_)
      | (with_reducible refine LeO.bind ?_ (fun _ => ?_))
      | exact ih0 _ _
      | exact ih1 _ _ _ _
      | exact LeO.none _
      | refine LeO.ite ?_ ?_
      | refine LeO.bind ?_ (fun _ => ?_)
    · intro y0 y1 y2 y3
      unfold address_digits.l0
      repeat' first
      | (with_reducible exact ih0 _ _)
      | (with_reducible exact ih1 _ _ _ _)
      | (with_reducible exact LeO.refl _)
      | (with_reducible exact LeO.none _)
      | (with_reducible refine LeO.ite ?_ ?_)
      | (with_reducible refine LeO.bind ?_ (fun _ => ?_))
      | exact ih0 _ _
      | exact ih1 _ _ _ _
      | exact LeO.none _
      | refine LeO.ite ?_ ?_
      | refine LeO.bind ?_ (fun _ => ?_)
theorem address_digits.mono : ∀ a0 k, LeO (address_digits.f k a0) (address_digits.f (k + 1) a0) := by
  intro a0 k
  obtain ⟨ih0, ih1⟩ := address_digits.mono_l k
  unfold address_digits.f
  repeat' first
      | (with_reducible exact ih0 _ _)
      | (with_reducible exact ih1 _ _ _ _)
      | (with_reducible exact LeO.refl _)
      | (with_reducible exact LeO.none _)
      | (with_reducible refine LeO.ite ?_ ?_)
      | (with_reducible refine LeO.bind ?_ (fun _ => ?_))
      | exact ih0 _ _
      | exact ih1 _ _ _ _
      | exact LeO.none _
      | refine LeO.ite ?_ ?_
      | refine LeO.bind ?_ (fun _ => ?_)
set_option maxHeartbeats 8000000 in
set_option maxRecDepth 100000 in
theorem address_digits.calls (k : Nat) (a0 : ByteArray) (r1 : Int) (r2 : Bool) (w : World) (h : address_digits.f k a0 = some (r1, r2)) :
 Calls Tryd.prog 45 #[.string a0] w fun e w' => e = .returned (.tuple #[.int .i64 r1, .bool r2]) ∧ Below w.heap.size w w' := by
 have HB := Aside0.mk (Below.refl w.heap.size w)
 unfold address_digits.f at h; have H := h
 clear h
 have HC2 := Aside0.mk H
 clear H
 go_enter Tryd.func45, Tryd.ntmps45
 go_upto_region 1 with (fail)
 go_cut [17] (fun v17 wc => ∃ (kq : Nat) (x17_1 : Bool), v17 = .bool x17_1 ∧ Aside0 (address_digits.j0 kq a0 x17_1 = some (r1, r2)) ∧ Aside0 (kq ≤ k) ∧ Aside0 (Below w.heap.size w wc))
 case first =>
  have H := HC2.out
  clear HC2
  by_cases c3 : a0.toList = ([] : List UInt8)
  · rw [if_pos c3] at H
    have c3b0 : (a0.toList == ([] : List UInt8)) = true := beq_iff_eq.mpr c3
    have c3b1 : (a0.toList != ([] : List UInt8)) = false := bne_eq_false_iff_eq.mpr c3
    clear c3
    (first | rw [c3b0] | (simp only [i64_w, i32_w]; rw [c3b0]) | skip)
    have H' := Aside0.mk H
    clear H
    go_wp2
    go_meet
    case rel => exact ⟨_, (true), (by first | rfl | (simp; done) | (simp [*]; done)), H', ⟨by first | omega | exact Nat.le_refl _⟩, ⟨zB HB⟩⟩
  · rw [if_neg c3] at H
    have c3b0 : (a0.toList == ([] : List UInt8)) = false := beq_eq_false_iff_ne.mpr c3
    have c3b1 : (a0.toList != ([] : List UInt8)) = true := bne_iff_ne.mpr c3
    (first | rw [c3b0] | (simp only [i64_w, i32_w]; rw [c3b0]) | skip)
    by_cases c4 : 0 < (a0.size : Int)
    · rw [if_pos c4] at H
      have c4b0 : decide (0 < (a0.size : Int)) = true := decide_eq_true c4
      have c4b1 : decide (0 < a0.size) = true := decide_eq_true (by omega)
      clear c4
      by_cases c6 : (bt a0 0) = 48
      · rw [if_pos c6] at H
        have c6b0 : ((bt a0 0) == 48) = true := beq_iff_eq.mpr c6
        have c6b1 : ((bt a0 0) != 48) = false := bne_eq_false_iff_eq.mpr c6
        clear c6
        have H' := Aside0.mk H
        clear H
        have p5 : 0 ≤ (0 : Int) := (by omega)
        have q5 : 0 < a0.size := (by have : (0 : Int) < (a0.size : Int) := za; omega)
        have hx5 : ∀ h : 0 < a0.size, ((a0[0]'h).toNat : Int) = bt a0 0 := bt_at a0 0
        clear p5
        have qi5 : (0 < (a0.size : Int)) = True := eq_true (of_decide_eq_true (by first | (with_reducible assumption) | assumption))
        replace q5 := eq_true q5
        go_wp2
        go_meet
        case rel => exact ⟨_, (decide ((a0.size : Int) > 1)), (by first | rfl | (simp; done) | (simp [*]; done)), H', ⟨by first | omega | exact Nat.le_refl _⟩, ⟨zB HB⟩⟩
      · rw [if_neg c6] at H
        have c6b0 : ((bt a0 0) == 48) = false := beq_eq_false_iff_ne.mpr c6
        have c6b1 : ((bt a0 0) != 48) = true := bne_iff_ne.mpr c6
        have H' := Aside0.mk H
        clear H
        have p5 : 0 ≤ (0 : Int) := (by omega)
        have q5 : 0 < a0.size := (by have : (0 : Int) < (a0.size : Int) := za; omega)
        have hx5 : ∀ h : 0 < a0.size, ((a0[0]'h).toNat : Int) = bt a0 0 := bt_at a0 0
        clear p5
        have qi5 : (0 < (a0.size : Int)) = True := eq_true (of_decide_eq_true (by first | (with_reducible assumption) | assumption))
        replace q5 := eq_true q5
        go_wp2
        go_meet
        case rel => exact ⟨_, (false), (by first | rfl | (simp; done) | (simp [*]; done)), H', ⟨by first | omega | exact Nat.le_refl _⟩, ⟨zB HB⟩⟩
    · rw [if_neg c4] at H
      exact absurd H (by simp)
 case rest =>
  clear HC2
  try clear p2
  try clear c3
  try clear c3b0
  try clear c3b1
  try clear c4
  try clear c4b0
  try clear c4b1
  try clear p5
  try clear q5
  try clear hx5
  try clear qi5
  try clear c6
  try clear c6b0
  try clear c6b1
  try clear p5
  try clear q5
  obtain ⟨kq, x17_1, rfl, HA, HJ1, HB⟩ := hcut
  cases kq with
  | zero => exact absurd HA.out (by simp [address_digits.j0])
  | succ kj1 =>
   have H := HA.out
   clear HA
   simp only [address_digits.j0] at H
   by_cases c7 : x17_1 = true
   · subst c7
     rw [if_pos rfl] at H
     simp only [Option.some.injEq, Prod.mk.injEq] at H
     obtain ⟨rfl, rfl⟩ := H
     go_wp2
     go_ret2
     exact ⟨by first | rfl | (simp [errW_none, errW_some] <;> rfl) | (simp [*, errW_none, errW_some] <;> rfl), by repeat (first | (with_reducible first | exact HB.out | apply below_alloc | apply pw_below_drewN | apply below_drew1) | exact HB.out)⟩
   · replace c7 := Bool.eq_false_iff.mpr c7
     subst c7
     rw [if_neg zF] at H
     have H' := Aside0.mk H
     clear H
     go_wp2
     go_loopg [4, 20] kj1 (fun kq v4 v20 w' => ∃ (x4_2 : Int) (x20_2 : Int), v4 = .int .i64 x4_2 ∧ v20 = .int .i64 x20_2 ∧ Aside0 (address_digits.l0 kq a0 x4_2 (a0.size : Int) x20_2 = some (r1, r2)) ∧ Aside0 (kq ≤ kj1) ∧ Aside0 (Below w.heap.size w w'))
     case atStart => exact ⟨(0), (0), (by first | rfl | (simp; done) | (simp [*]; done)), (by first | rfl | (simp; done) | (simp [*]; done)), H', ⟨Nat.le_refl _⟩, ⟨zB HB⟩⟩
     case round =>
      clear H'
      try clear p2
      try clear c3
      try clear c3b0
      try clear c3b1
      try clear c4
      try clear c4b0
      try clear c4b1
      try clear p5
      try clear q5
      try clear hx5
      try clear qi5
      try clear c6
      try clear c6b0
      try clear c6b1
      try clear c7
      try clear p2
      try clear p5
      try clear q5
      obtain ⟨x4_2, x20_2, rfl, rfl, HA, HK2, HB⟩ := hrel
      cases gk with
      | zero => exact absurd HA.out (by simp [address_digits.l0])
      | succ k2 =>
       have H := HA.out
       clear HA
       simp only [address_digits.l0] at H
       by_cases c8 : x20_2 < (a0.size : Int)
       · rw [if_pos c8] at H
         have c8b0 : decide (x20_2 < (a0.size : Int)) = true := decide_eq_true c8
         clear c8
         by_cases c9 : 0 ≤ x20_2
         · rw [if_pos c9] at H
           have c9b0 : decide (0 ≤ x20_2) = true := decide_eq_true c9
           clear c9
           by_cases c10 : x20_2 < (a0.size : Int)
           · rw [if_pos c10] at H
             have c10b0 : decide (x20_2 < (a0.size : Int)) = true := decide_eq_true c10
             clear c10
             by_cases c12 : (bt a0 x20_2) < 48
             · rw [if_pos c12] at H
               have c12b0 : decide ((bt a0 x20_2) < 48) = true := decide_eq_true c12
               clear c12
               simp only [Option.some.injEq, Prod.mk.injEq] at H
               obtain ⟨rfl, rfl⟩ := H
               have p11 : 0 ≤ (x20_2 : Int) := za
               have q11 : x20_2 < (a0.size : Int) := za
               have hx11 := bt_at a0 x20_2
               replace p11 := eq_true p11
               replace q11 := eq_true q11
               go_wp2
               go_ret2
               exact ⟨by first | rfl | (simp [errW_none, errW_some] <;> rfl) | (simp [*, errW_none, errW_some] <;> rfl), by repeat (first | (with_reducible first | exact HB.out | apply below_alloc | apply pw_below_drewN | apply below_drew1) | exact HB.out)⟩
             · rw [if_neg c12] at H
               have c12b0 : decide ((bt a0 x20_2) < 48) = false := decide_eq_false c12
               clear c12
               by_cases c14 : (bt a0 x20_2) > 57
               · rw [if_pos c14] at H
                 have c14b0 : decide (57 < (bt a0 x20_2)) = true := decide_eq_true c14
                 clear c14
                 simp only [Option.some.injEq, Prod.mk.injEq] at H
                 obtain ⟨rfl, rfl⟩ := H
                 have p11 : 0 ≤ (x20_2 : Int) := za
                 have q11 : x20_2 < (a0.size : Int) := za
                 have hx11 := bt_at a0 x20_2
                 replace p11 := eq_true p11
                 replace q11 := eq_true q11
                 have p13 : 0 ≤ (x20_2 : Int) := za
                 have q13 : x20_2 < (a0.size : Int) := za
                 have hx13 := bt_at a0 x20_2
                 replace p13 := eq_true p13
                 replace q13 := eq_true q13
                 go_wp2
                 go_ret2
                 exact ⟨by first | rfl | (simp [errW_none, errW_some] <;> rfl) | (simp [*, errW_none, errW_some] <;> rfl), by repeat (first | (with_reducible first | exact HB.out | apply below_alloc | apply pw_below_drewN | apply below_drew1) | exact HB.out)⟩
               · rw [if_neg c14] at H
                 have c14b0 : decide (57 < (bt a0 x20_2)) = false := decide_eq_false c14
                 clear c14
                 obtain ⟨ji16, hji16⟩ : ∃ j_ : Int, (mn 1000 (wrap64 ((wrap64 (x4_2 * 10)) + (((bt a0 x20_2) - 48) % 256)))) = j_ := ⟨_, rfl⟩
                 replace H : (address_digits.l0 k2 a0 ji16 (a0.size : Int) (wrap64 (x20_2 + 1))) = some (r1, r2) := by first | (rw [hji16] at H; exact H) | (simp only [hji16] at H ⊢; exact H)
                 have hji16_ : (if (wrap64 ((wrap64 (x4_2 * 10)) + (((bt a0 x20_2) - 48) % 256))) < 1000 then (wrap64 ((wrap64 (x4_2 * 10)) + (((bt a0 x20_2) - 48) % 256))) else 1000) = ji16 := hji16
                 have H' := Aside0.mk H
                 clear H
                 have p11 : 0 ≤ (x20_2 : Int) := za
                 have q11 : x20_2 < (a0.size : Int) := za
                 have hx11 := bt_at a0 x20_2
                 replace p11 := eq_true p11
                 replace q11 := eq_true q11
                 have p13 : 0 ≤ (x20_2 : Int) := za
                 have q13 : x20_2 < (a0.size : Int) := za
                 have hx13 := bt_at a0 x20_2
                 replace p13 := eq_true p13
                 replace q13 := eq_true q13
                 have p15 : 0 ≤ (x20_2 : Int) := za
                 have q15 : x20_2 < (a0.size : Int) := za
                 have hx15 := bt_at a0 x20_2
                 replace p15 := eq_true p15
                 replace q15 := eq_true q15
                 go_wp2
                 go_roundg k2
                 case measure => have := HJ1.out; have := HK2.out; omega
                 case rel => exact ⟨(ji16), (wrap64 (x20_2 + 1)), (by first | rfl | (simp; done) | (simp only [← hji16] <;> (first | rfl | simp)) | (simp [*]; done)), (by first | rfl | (simp; done) | (simp [*]; done)), H', ⟨by have := HJ1.out; have := HK2.out; omega⟩, ⟨zB HB⟩⟩
           · rw [if_neg c10] at H
             exact absurd H (by simp)
         · rw [if_neg c9] at H
           exact absurd H (by simp)
       · rw [if_neg c8] at H
         have c8b0 : decide (x20_2 < (a0.size : Int)) = false := decide_eq_false c8
         clear c8
         simp only [Option.some.injEq, Prod.mk.injEq] at H
         obtain ⟨rfl, rfl⟩ := H
         go_wp2
         go_ret2
         exact ⟨by first | rfl | (simp [errW_none, errW_some] <;> rfl) | (simp [*, errW_none, errW_some] <;> rfl), by repeat (first | (with_reducible first | exact HB.out | apply below_alloc | apply pw_below_drewN | apply below_drew1) | exact HB.out)⟩
end Go.Proofs.YtlgfinnldhjgeaaDoor.Q
end

section
namespace Go.Proofs.YtlgfinnldhjgeaaDoor.Q
open Go.RowKit Go.Proofs.YtlgfinnldhjgeaaDoorW.PrintWords Go.Proofs.YtlgfinnldhjgeaaDoorW.PrintLast Go.Proofs.YtlgfinnldhjgeaaDoorW.PrintMore
attribute [local go_sem] max2_int min2_int max_two min_two max_three min_three max_four min_four
set_option linter.unusedVariables false
set_option linter.unusedSimpArgs false
def address_ParsePrefix.f (k : Nat) (a0 : ByteArray) : Option (Bool × Int × Int × Int × Int) := if (a0.size : Int) > 64 then (some (false, 0, 0, 0, 3)) else ((strings_Cut.f a0 (⟨#[47]⟩ : ByteArray)).bind fun bt161 => ((address_Parse.f k bt161.1).bind fun bt164 => (if bt164.2.2.2 = 0 then ((address_size.f bt164.1 bt164.2.1 bt164.2.2.1).bind fun t169 => (if bt161.2.2 = true then ((address_digits.f k bt161.2.1).bind fun bt171 => (if bt171.2 = true then ((address_size.f bt164.1 bt164.2.1 bt164.2.2.1).bind fun t173 => (if bt171.1 > t173 then (some (false, 0, 0, 0, 4)) else ((address_ValidPrefix.f bt164.1 bt164.2.1 bt164.2.2.1 bt171.1).bind fun t174 => (if t174 = true then (some (bt164.1, bt164.2.1, bt164.2.2.1, bt171.1, 0)) else (some (false, 0, 0, 0, 2)))))) else (some (false, 0, 0, 0, 2)))) else ((address_ValidPrefix.f bt164.1 bt164.2.1 bt164.2.2.1 t169).bind fun t175 => (if t175 = true then (some (bt164.1, bt164.2.1, bt164.2.2.1, t169, 0)) else (some (false, 0, 0, 0, 2)))))) else (some (false, 0, 0, 0, 2)))))
theorem address_ParsePrefix.mono : ∀ a0 k, LeO (address_ParsePrefix.f k a0) (address_ParsePrefix.f (k + 1) a0) := by
  intro a0 k
  unfold address_ParsePrefix.f
  repeat' first
      | (with_reducible exact address_Parse.mono _ _)
      | (with_reducible exact address_digits.mono _ _)
      | (with_reducible exact LeO.refl _)
      | (with_reducible exact LeO.none _)
      | (with_reducible refine LeO.ite ?_ ?_)
      | (with_reducible refine LeO.bind ?_ (fun _ => ?_))
      | exact address_Parse.mono _ _
      | exact address_digits.mono _ _
      | exact LeO.none _
      | refine LeO.ite ?_ ?_
      | refine LeO.bind ?_ (fun _ => ?_)
set_option maxHeartbeats 8000000 in
set_option maxRecDepth 100000 in
theorem address_ParsePrefix.calls (k : Nat) (a0 : ByteArray) (r1 : Bool) (r2 : Int) (r3 : Int) (r4 : Int) (r5 : Int) (w : World) (h : address_ParsePrefix.f k a0 = some (r1, r2, r3, r4, r5)) (hW_ : WOK w) :
 Calls Tryd.prog 13 #[.string a0] w fun e w' => e = .returned (.tuple #[.agg #[.bool r1, .int .u64 r2, .int .u64 r3, .int .i64 r4], .int .i64 r5]) ∧ Below w.heap.size w w' := by
 have hu30 := Tryd.underlying30
 have hu25 := Tryd.underlying25
 have HB := Aside0.mk (Below.refl w.heap.size w)
 unfold address_ParsePrefix.f at h; have H := h
 clear h
 by_cases c2 : (a0.size : Int) > 64
 · rw [if_pos c2] at H
   have c2b0 : decide (64 < (a0.size : Int)) = true := decide_eq_true c2
   have c2b1 : decide (64 < a0.size) = true := decide_eq_true (by omega)
   clear c2
   simp only [Option.some.injEq, Prod.mk.injEq] at H
   obtain ⟨rfl, rfl, rfl, rfl, rfl⟩ := H
   go_enter Tryd.func13, Tryd.ntmps13
   go_wp2_with (first | ((with_reducible refine gate_dst (N := 2) rfl ?_); refine zx 2 #[.bool false, .int .u64 0, .int .u64 0, .int .i64 0] 30 ?_; intro gb160 hg w3 hbox hb; have BK160 := Aside0.mk (hbox); have GW160 := Aside0.mk ((by rw [hg]; exact (below_size (zB HB)) : w.heap.size ≤ gb160)); have GE160 := Aside0.mk ((by rw [hg]; exact (below_size (zB HB)) : w.heap.size ≤ gb160)); replace HB := Aside0.mk (below_step (zB HB) hb); clear hb hbox hg; obtain ⟨hcz4_0, hcz4_1, hcz4_2, hcz4_3⟩ := zc4 BK160; obtain ⟨hfz4_0, hfz4_1, hfz4_2, hfz4_3⟩ := zf4 BK160))
   refine bodyPost_ret (results_ct rfl _ _ gb160 30 #[.bool false, .int .u64 0, .int .u64 0, .int .i64 0] (0, 0) _ rfl (by refine zL ?_; refine blk_put (cs := #[.bool false, .int .u64 0, .int .u64 0, .int .i64 0]) ?_ 3 _ rfl; refine zL ?_; refine blk_put (cs := #[.bool false, .int .u64 0, .int .u64 0, .int .i64 0]) ?_ 2 _ rfl; refine zL ?_; refine blk_put (cs := #[.bool false, .int .u64 0, .int .u64 0, .int .i64 0]) ?_ 1 _ rfl; refine zL ?_; refine blk_put (cs := #[.bool false, .int .u64 0, .int .u64 0, .int .i64 0]) ?_ 0 _ rfl; refine zL ?_; exact BK160.out) Tryd.underlying30 rfl (by kernel_rfl)) rfl ?_
   exact ⟨by first | rfl | (simp [errW_none, errW_some] <;> rfl) | (simp [*, errW_none, errW_some] <;> rfl), by repeat (first | (with_reducible first | exact HB.out | apply below_alloc | apply pw_below_drewN | apply below_drew1 | refine below_set ?_ GE160.out) | exact HB.out)⟩
 · rw [if_neg c2] at H
   have c2b0 : decide (64 < (a0.size : Int)) = false := decide_eq_false c2
   have c2b1 : decide (64 < a0.size) = false := decide_eq_false (by omega)
   clear c2
   replace H := Option.bind_eq_some_iff.mp H
   obtain ⟨⟨t161, t162, t163⟩, A50, H⟩ := H
   replace H : ((address_Parse.f k t161).bind fun bt164 => (if bt164.2.2.2 = 0 then ((address_size.f bt164.1 bt164.2.1 bt164.2.2.1).bind fun t169 => (if t163 = true then ((address_digits.f k t162).bind fun bt171 => (if bt171.2 = true then ((address_size.f bt164.1 bt164.2.1 bt164.2.2.1).bind fun t173 => (if bt171.1 > t173 then (some (false, 0, 0, 0, 4)) else ((address_ValidPrefix.f bt164.1 bt164.2.1 bt164.2.2.1 bt171.1).bind fun t174 => (if t174 = true then (some (bt164.1, bt164.2.1, bt164.2.2.1, bt171.1, 0)) else (some (false, 0, 0, 0, 2)))))) else (some (false, 0, 0, 0, 2)))) else ((address_ValidPrefix.f bt164.1 bt164.2.1 bt164.2.2.1 t169).bind fun t175 => (if t175 = true then (some (bt164.1, bt164.2.1, bt164.2.2.1, t169, 0)) else (some (false, 0, 0, 0, 2)))))) else (some (false, 0, 0, 0, 2)))) = some (r1, r2, r3, r4, r5) := H
   have A5 := Aside0.mk A50
   clear A50
   replace H := Option.bind_eq_some_iff.mp H
   obtain ⟨⟨t164, t165, t166, t167⟩, A60, H⟩ := H
   replace H : (if t167 = 0 then ((address_size.f t164 t165 t166).bind fun t169 => (if t163 = true then ((address_digits.f k t162).bind fun bt171 => (if bt171.2 = true then ((address_size.f t164 t165 t166).bind fun t173 => (if bt171.1 > t173 then (some (false, 0, 0, 0, 4)) else ((address_ValidPrefix.f t164 t165 t166 bt171.1).bind fun t174 => (if t174 = true then (some (t164, t165, t166, bt171.1, 0)) else (some (false, 0, 0, 0, 2)))))) else (some (false, 0, 0, 0, 2)))) else ((address_ValidPrefix.f t164 t165 t166 t169).bind fun t175 => (if t175 = true then (some (t164, t165, t166, t169, 0)) else (some (false, 0, 0, 0, 2)))))) else (some (false, 0, 0, 0, 2))) = some (r1, r2, r3, r4, r5) := H
   have A6 := Aside0.mk A60
   clear A60
   by_cases c7 : t167 = 0
   · rw [if_pos c7] at H
     have c7b0 : (t167 == 0) = true := beq_iff_eq.mpr c7
     have c7b1 : (t167 != 0) = false := bne_eq_false_iff_eq.mpr c7
     clear c7
     replace H := Option.bind_eq_some_iff.mp H
     obtain ⟨t169, A80, H⟩ := H
     replace H : (if t163 = true then ((address_digits.f k t162).bind fun bt171 => (if bt171.2 = true then ((address_size.f t164 t165 t166).bind fun t173 => (if bt171.1 > t173 then (some (false, 0, 0, 0, 4)) else ((address_ValidPrefix.f t164 t165 t166 bt171.1).bind fun t174 => (if t174 = true then (some (t164, t165, t166, bt171.1, 0)) else (some (false, 0, 0, 0, 2)))))) else (some (false, 0, 0, 0, 2)))) else ((address_ValidPrefix.f t164 t165 t166 t169).bind fun t175 => (if t175 = true then (some (t164, t165, t166, t169, 0)) else (some (false, 0, 0, 0, 2))))) = some (r1, r2, r3, r4, r5) := H
     have A8 := Aside0.mk A80
     clear A80
     by_cases c9 : t163 = true
     · subst c9
       rw [if_pos rfl] at H
       replace H := Option.bind_eq_some_iff.mp H
       obtain ⟨⟨t171, t172⟩, A100, H⟩ := H
       replace H : (if t172 = true then ((address_size.f t164 t165 t166).bind fun t173 => (if t171 > t173 then (some (false, 0, 0, 0, 4)) else ((address_ValidPrefix.f t164 t165 t166 t171).bind fun t174 => (if t174 = true then (some (t164, t165, t166, t171, 0)) else (some (false, 0, 0, 0, 2)))))) else (some (false, 0, 0, 0, 2))) = some (r1, r2, r3, r4, r5) := H
       have A10 := Aside0.mk A100
       clear A100
       by_cases c11 : t172 = true
       · subst c11
         rw [if_pos rfl] at H
         replace H := Option.bind_eq_some_iff.mp H
         obtain ⟨t173, A120, H⟩ := H
         replace H : (if t171 > t173 then (some (false, 0, 0, 0, 4)) else ((address_ValidPrefix.f t164 t165 t166 t171).bind fun t174 => (if t174 = true then (some (t164, t165, t166, t171, 0)) else (some (false, 0, 0, 0, 2))))) = some (r1, r2, r3, r4, r5) := H
         have A12 := Aside0.mk A120
         clear A120
         by_cases c13 : t171 > t173
         · rw [if_pos c13] at H
           have c13b0 : decide (t173 < t171) = true := decide_eq_true c13
           clear c13
           simp only [Option.some.injEq, Prod.mk.injEq] at H
           obtain ⟨rfl, rfl, rfl, rfl, rfl⟩ := H
           go_enter Tryd.func13, Tryd.ntmps13
           try go_wp2_with (first | ((with_reducible refine gate_dst (N := 2) rfl ?_); refine zx 2 #[.bool false, .int .u64 0, .int .u64 0, .int .i64 0] 30 ?_; intro gb160 hg w14 hbox hb; have BK160 := Aside0.mk (hbox); have GW160 := Aside0.mk ((by rw [hg]; exact (below_size (zB HB)) : w.heap.size ≤ gb160)); have GE160 := Aside0.mk ((by rw [hg]; exact (below_size (zB HB)) : w.heap.size ≤ gb160)); replace HB := Aside0.mk (below_step (zB HB) hb); clear hb hbox hg) | ((with_reducible refine gate_callee (f := 43) rfl ?_); refine goesL_ (some 18) rfl rfl Tryd.func43 (by kernel_rfl) rfl #[.string a0, .string (⟨#[47]⟩ : ByteArray)] rfl (by (try simp only [List.map_toArray, List.map_cons, List.map_nil]); first | done | rfl | (simp only [List.length_drop, List.length_take]; rfl)) ?_; (with_reducible refine (strings_Cut.calls a0 (⟨#[47]⟩ : ByteArray) t161 t162 true _ A5.out (WOK.below hW_ (zB HB))).mono ?_); rintro e w15 ⟨rfl, hb⟩; refine ⟨_, rfl, ?_⟩; replace BK160 := Aside0.mk (blk_below (g := gb160) (o := .cells #[.bool false, .int .u64 0, .int .u64 0, .int .i64 0] 30 (0, 0)) (zK BK160) hb); replace HB := Aside0.mk (below_step (zB HB) hb); (try clear hb)) | ((with_reducible refine gate_callee (f := 11) rfl ?_); refine goesL_ (some 24) rfl rfl Tryd.func11 (by kernel_rfl) rfl #[.string t161] rfl (by (try simp only [List.map_toArray, List.map_cons, List.map_nil]); first | done | rfl | (simp only [List.length_drop, List.length_take]; rfl)) ?_; (with_reducible refine (address_Parse.calls k t161 t164 t165 t166 t167 _ A6.out (WOK.below hW_ (zB HB))).mono ?_); rintro e w16 ⟨rfl, hb⟩; refine ⟨_, rfl, ?_⟩; replace BK160 := Aside0.mk (blk_below (g := gb160) (o := .cells #[.bool false, .int .u64 0, .int .u64 0, .int .i64 0] 30 (0, 0)) (zK BK160) hb); replace HB := Aside0.mk (below_step (zB HB) hb); (try clear hb)) | ((with_reducible refine gate_dst (N := 7) rfl ?_); refine zx 7 #[.bool false, .int .u64 0, .int .u64 0] 25 ?_; intro gb168 hg w17 hbox hb; have BK168 := Aside0.mk (hbox); have GW168 := Aside0.mk ((by rw [hg]; exact (below_size (zB HB)) : w.heap.size ≤ gb168)); have GE168 := Aside0.mk ((by rw [hg]; exact (below_size (zB HB)) : w.heap.size ≤ gb168)); replace HB := Aside0.mk (below_step (zB HB) hb); have NB160_168 := Aside0.mk ((by rw [hg]; exact Nat.ne_of_lt (blk_lt (g := gb160) (o := .cells #[.bool false, .int .u64 0, .int .u64 0, .int .i64 0] 30 (0, 0)) (zK BK160)) : gb160 ≠ gb168)); have NB168_160 := Aside0.mk ((by rw [hg]; exact Nat.ne_of_gt (blk_lt (g := gb160) (o := .cells #[.bool false, .int .u64 0, .int .u64 0, .int .i64 0] 30 (0, 0)) (zK BK160)) : gb168 ≠ gb160)); replace BK160 := Aside0.mk (blk_below (g := gb160) (o := .cells #[.bool false, .int .u64 0, .int .u64 0, .int .i64 0] 30 (0, 0)) (zK BK160) hb); clear hb hbox hg; have hnb18 := NB168_160.out; have hnc18 := NB160_168.out; obtain ⟨hcz19_0, hcz19_1, hcz19_2⟩ := zc3 BK168; obtain ⟨hfz19_0, hfz19_1, hfz19_2⟩ := zf3 BK168))
           have n0_ : Aside0 ((((w17.setCell ⟨gb168, 0, none⟩ (.bool t164)).setCell ⟨gb168, 1, none⟩ (.int .u64 t165)).setCell ⟨gb168, 2, none⟩ (.int .u64 t166)).heap[gb160]? = some (.cells #[.bool false, .int .u64 0, .int .u64 0, .int .i64 0] 30 (0, 0))) := ⟨by refine zL ?_; refine blk_far ?_ NB160_168.out _; refine zL ?_; refine blk_far ?_ NB160_168.out _; refine zL ?_; refine blk_far ?_ NB160_168.out _; refine zL ?_; exact BK160.out⟩
           have n1_ : Aside0 ((((w17.setCell ⟨gb168, 0, none⟩ (.bool t164)).setCell ⟨gb168, 1, none⟩ (.int .u64 t165)).setCell ⟨gb168, 2, none⟩ (.int .u64 t166)).heap[gb168]? = some (.cells #[.bool t164, .int .u64 t165, .int .u64 t166] 25 (0, 0))) := ⟨by refine zL ?_; refine blk_put (cs := #[.bool t164, .int .u64 t165, .int .u64 0]) ?_ 2 _ rfl; refine zL ?_; refine blk_put (cs := #[.bool t164, .int .u64 0, .int .u64 0]) ?_ 1 _ rfl; refine zL ?_; refine blk_put (cs := #[.bool false, .int .u64 0, .int .u64 0]) ?_ 0 _ rfl; refine zL ?_; exact BK168.out⟩
           have n2_ : Aside0 (Below w.heap.size w (((w17.setCell ⟨gb168, 0, none⟩ (.bool t164)).setCell ⟨gb168, 1, none⟩ (.int .u64 t165)).setCell ⟨gb168, 2, none⟩ (.int .u64 t166))) := ⟨zB HB⟩
           (try clear BK160)
           (try clear BK168)
           (try clear HB)
           generalize (((w17.setCell ⟨gb168, 0, none⟩ (.bool t164)).setCell ⟨gb168, 1, none⟩ (.int .u64 t165)).setCell ⟨gb168, 2, none⟩ (.int .u64 t166)) = w20 at n0_ n1_ n2_ ⊢
           have BK160 := n0_
           have BK168 := n1_
           have HB := n2_
           clear n0_ n1_ n2_
           replace BK160 := Aside0.mk (blk_drew BK160.out)
           replace BK168 := Aside0.mk (blk_drew BK168.out)
           replace HB := Aside0.mk (below_drew1 HB.out)
           refine start_ (n := 6) (S := fun w' => w'.cell? ⟨gb168, 0, none⟩ = some (.bool t164) ∧ w'.cell? ⟨gb168, 1, none⟩ = some (.int .u64 t165) ∧ w'.cell? ⟨gb168, 2, none⟩ = some (.int .u64 t166)) (ds := []) #[false, false, false, false, false, false] (by kernel_rfl) rfl rfl ⟨zc BK168 0, zc BK168 1, zc BK168 2⟩ (fun hHeld => ?_)
           generalize w20.drew = w21 at BK160 BK168 HB hHeld ⊢
           refine zt0 0 30 hHeld ?_; refine zt0 1 31 hHeld ?_
           refine join_ (σ := Nat) 1 #[true, true, true, true, true, false] (fun s_ => [(32, .int .i64 t169), (9, .pointer (some ⟨s_, 0, none⟩)), (33, .agg #[.bool t164, .int .u64 t165, .int .u64 t166, .int .i64 t169])]) (fun s_ w' => (w'.cell? ⟨gb168, 0, none⟩ = some (.bool t164) ∧ w'.cell? ⟨gb168, 1, none⟩ = some (.int .u64 t165) ∧ w'.cell? ⟨gb168, 2, none⟩ = some (.int .u64 t166)) ∧ (w'.heap[gb160]? = some (.cells #[.bool false, .int .u64 0, .int .u64 0, .int .i64 0] 30 (0, 0))) ∧ (w'.heap[gb168]? = some (.cells #[.bool t164, .int .u64 t165, .int .u64 t166] 25 (0, 0))) ∧ (w'.heap[s_]? = some (.cells #[.bool false, .int .u64 0, .int .u64 0, .int .i64 0] 30 (0, 0))) ∧ (w.heap.size ≤ s_) ∧ (w.heap.size ≤ s_) ∧ (gb160 ≠ s_) ∧ (s_ ≠ gb160) ∧ (gb168 ≠ s_) ∧ (s_ ≠ gb168) ∧ (Below w.heap.size w w')) ?_ ?_
           rotate_left
           · intro hCont
             refine two_ (i := 2) (j := 4) (Ni := some 32) (Nj := some 9) #[true, true, true, false, false, false] #[true, true, false, false, true, false] rfl rfl rfl rfl (by kernel_rfl) (by decide) (by decide) (fun K hK => ?_) (fun K hK => ?_)
             · skip
               refine zg Tryd.func44 #[.agg #[.bool t164, .int .u64 t165, .int .u64 t166]] ?_
               with_reducible refine (address_size.calls t164 t165 t166 t169 _ A8.out).mono ?_
               rintro e w22 ⟨rfl, hb⟩
               refine ⟨_, rfl, ?_⟩
               replace BK160 := Aside0.mk (blk_below (g := gb160) (o := .cells #[.bool false, .int .u64 0, .int .u64 0, .int .i64 0] 30 (0, 0)) (zK BK160) hb)
               replace BK168 := Aside0.mk (blk_below (g := gb168) (o := .cells #[.bool t164, .int .u64 t165, .int .u64 t166] 25 (0, 0)) (zK BK168) hb)
               replace HB := Aside0.mk (below_step (zB HB) hb)
               (try clear hb)
               refine hK.out _ _ ⟨zc BK168 0, zc BK168 1, zc BK168 2⟩ (fun hHeld => ?_)
               clear hK K
               refine zn 32 ?_; refine zp0 3 33 ?_; refine zo0 4 9 (fun K hK => ?_)
               refine box_step ?hg (N := 9) ?hd (cs := #[.bool false, .int .u64 0, .int .u64 0, .int .i64 0]) (t := 30) ?hr ?_; (case hd => rfl); (case hg => rfl); (case hr => first | (go_simp; done) | (go_simp; rfl))
               intro gb170 hg w23 hbox hb
               have BK170 := Aside0.mk (hbox)
               have GW170 := Aside0.mk ((by rw [hg]; exact (below_size (zB HB)) : w.heap.size ≤ gb170))
               have GE170 := Aside0.mk ((by rw [hg]; exact (below_size (zB HB)) : w.heap.size ≤ gb170))
               replace HB := Aside0.mk (below_step (zB HB) hb)
               have NB160_170 := Aside0.mk ((by rw [hg]; exact Nat.ne_of_lt (blk_lt (g := gb160) (o := .cells #[.bool false, .int .u64 0, .int .u64 0, .int .i64 0] 30 (0, 0)) (zK BK160)) : gb160 ≠ gb170))
               have NB170_160 := Aside0.mk ((by rw [hg]; exact Nat.ne_of_gt (blk_lt (g := gb160) (o := .cells #[.bool false, .int .u64 0, .int .u64 0, .int .i64 0] 30 (0, 0)) (zK BK160)) : gb170 ≠ gb160))
               replace BK160 := Aside0.mk (blk_below (g := gb160) (o := .cells #[.bool false, .int .u64 0, .int .u64 0, .int .i64 0] 30 (0, 0)) (zK BK160) hb)
               have NB168_170 := Aside0.mk ((by rw [hg]; exact Nat.ne_of_lt (blk_lt (g := gb168) (o := .cells #[.bool t164, .int .u64 t165, .int .u64 t166] 25 (0, 0)) (zK BK168)) : gb168 ≠ gb170))
               have NB170_168 := Aside0.mk ((by rw [hg]; exact Nat.ne_of_gt (blk_lt (g := gb168) (o := .cells #[.bool t164, .int .u64 t165, .int .u64 t166] 25 (0, 0)) (zK BK168)) : gb170 ≠ gb168))
               replace BK168 := Aside0.mk (blk_below (g := gb168) (o := .cells #[.bool t164, .int .u64 t165, .int .u64 t166] 25 (0, 0)) (zK BK168) hb)
               clear hb hbox hg
               refine hK.out _ _ ⟨zc BK168 0, zc BK168 1, zc BK168 2⟩ (fun hHeld => ?_)
               clear hK K
               refine zn 9 ?_
               exact norm_ (by simp only [putAll, Act.put, List.setIfInBounds_toArray, List.set_cons_zero, List.set_cons_succ]) (hCont (gb170) _ ⟨hHeld, (zK BK160), (zK BK168), (zK BK170), GW170.out, GE170.out, NB160_170.out, NB170_160.out, NB168_170.out, NB170_168.out, (zB HB)⟩)
             · skip
               refine box_step ?hg (N := 9) ?hd (cs := #[.bool false, .int .u64 0, .int .u64 0, .int .i64 0]) (t := 30) ?hr ?_; (case hd => rfl); (case hg => rfl); (case hr => first | (go_simp; done) | (go_simp; rfl))
               intro gb170 hg w22 hbox hb
               have BK170 := Aside0.mk (hbox)
               have GW170 := Aside0.mk ((by rw [hg]; exact (below_size (zB HB)) : w.heap.size ≤ gb170))
               have GE170 := Aside0.mk ((by rw [hg]; exact (below_size (zB HB)) : w.heap.size ≤ gb170))
               replace HB := Aside0.mk (below_step (zB HB) hb)
               have NB160_170 := Aside0.mk ((by rw [hg]; exact Nat.ne_of_lt (blk_lt (g := gb160) (o := .cells #[.bool false, .int .u64 0, .int .u64 0, .int .i64 0] 30 (0, 0)) (zK BK160)) : gb160 ≠ gb170))
               have NB170_160 := Aside0.mk ((by rw [hg]; exact Nat.ne_of_gt (blk_lt (g := gb160) (o := .cells #[.bool false, .int .u64 0, .int .u64 0, .int .i64 0] 30 (0, 0)) (zK BK160)) : gb170 ≠ gb160))
               replace BK160 := Aside0.mk (blk_below (g := gb160) (o := .cells #[.bool false, .int .u64 0, .int .u64 0, .int .i64 0] 30 (0, 0)) (zK BK160) hb)
               have NB168_170 := Aside0.mk ((by rw [hg]; exact Nat.ne_of_lt (blk_lt (g := gb168) (o := .cells #[.bool t164, .int .u64 t165, .int .u64 t166] 25 (0, 0)) (zK BK168)) : gb168 ≠ gb170))
               have NB170_168 := Aside0.mk ((by rw [hg]; exact Nat.ne_of_gt (blk_lt (g := gb168) (o := .cells #[.bool t164, .int .u64 t165, .int .u64 t166] 25 (0, 0)) (zK BK168)) : gb170 ≠ gb168))
               replace BK168 := Aside0.mk (blk_below (g := gb168) (o := .cells #[.bool t164, .int .u64 t165, .int .u64 t166] 25 (0, 0)) (zK BK168) hb)
               clear hb hbox hg
               refine hK.out _ _ ⟨zc BK168 0, zc BK168 1, zc BK168 2⟩ (fun hHeld => ?_)
               clear hK K
               refine zn 9 ?_; refine zo0 2 32 (fun K hK => ?_)
               refine zg Tryd.func44 #[.agg #[.bool t164, .int .u64 t165, .int .u64 t166]] ?_
               with_reducible refine (address_size.calls t164 t165 t166 t169 _ A8.out).mono ?_
               rintro e w23 ⟨rfl, hb⟩
               refine ⟨_, rfl, ?_⟩
               replace BK160 := Aside0.mk (blk_below (g := gb160) (o := .cells #[.bool false, .int .u64 0, .int .u64 0, .int .i64 0] 30 (0, 0)) (zK BK160) hb)
               replace BK168 := Aside0.mk (blk_below (g := gb168) (o := .cells #[.bool t164, .int .u64 t165, .int .u64 t166] 25 (0, 0)) (zK BK168) hb)
               replace BK170 := Aside0.mk (blk_below (g := gb170) (o := .cells #[.bool false, .int .u64 0, .int .u64 0, .int .i64 0] 30 (0, 0)) (zK BK170) hb)
               replace HB := Aside0.mk (below_step (zB HB) hb)
               (try clear hb)
               refine hK.out _ _ ⟨zc BK168 0, zc BK168 1, zc BK168 2⟩ (fun hHeld => ?_)
               clear hK K
               refine zn 32 ?_; refine zp0 3 33 ?_
               exact norm_ (by simp only [putAll, Act.put, List.setIfInBounds_toArray, List.set_cons_zero, List.set_cons_succ]) (hCont (gb170) _ ⟨hHeld, (zK BK160), (zK BK168), (zK BK170), GW170.out, GE170.out, NB160_170.out, NB170_160.out, NB168_170.out, NB170_168.out, (zB HB)⟩)
           rintro gb170 w24 ⟨hS_, h0_, h1_, h2_, h3_, h4_, h5_, h6_, h7_, h8_, h9_⟩
           have n0_ : Aside0 (w24.heap[gb160]? = some (.cells #[.bool false, .int .u64 0, .int .u64 0, .int .i64 0] 30 (0, 0))) := ⟨h0_⟩
           have n1_ : Aside0 (w24.heap[gb168]? = some (.cells #[.bool t164, .int .u64 t165, .int .u64 t166] 25 (0, 0))) := ⟨h1_⟩
           have n2_ : Aside0 (w24.heap[gb170]? = some (.cells #[.bool false, .int .u64 0, .int .u64 0, .int .i64 0] 30 (0, 0))) := ⟨h2_⟩
           have n3_ : Aside0 (w.heap.size ≤ gb170) := ⟨h3_⟩
           have n4_ : Aside0 (w.heap.size ≤ gb170) := ⟨h4_⟩
           have n5_ : Aside0 (gb160 ≠ gb170) := ⟨h5_⟩
           have n6_ : Aside0 (gb170 ≠ gb160) := ⟨h6_⟩
           have n7_ : Aside0 (gb168 ≠ gb170) := ⟨h7_⟩
           have n8_ : Aside0 (gb170 ≠ gb168) := ⟨h8_⟩
           have n9_ : Aside0 (Below w.heap.size w w24) := ⟨h9_⟩
           clear BK160
           clear BK168
           clear HB
           clear h0_ h1_ h2_ h3_ h4_ h5_ h6_ h7_ h8_ h9_
           have BK160 := n0_
           have BK168 := n1_
           have BK170 := n2_
           have GW170 := n3_
           have GE170 := n4_
           have NB160_170 := n5_
           have NB170_160 := n6_
           have NB168_170 := n7_
           have NB170_168 := n8_
           have HB := n9_
           clear n0_ n1_ n2_ n3_ n4_ n5_ n6_ n7_ n8_ n9_
           have hHeld : w24.cell? ⟨gb168, 0, none⟩ = some (.bool t164) ∧ w24.cell? ⟨gb168, 1, none⟩ = some (.int .u64 t165) ∧ w24.cell? ⟨gb168, 2, none⟩ = some (.int .u64 t166) := hS_
           refine norm_ (a' := ?_) ?_ ?_
           rotate_left
           · simp only [putAll, Act.put, List.setIfInBounds_toArray, List.set_cons_zero, List.set_cons_succ]
             rfl
           refine one_ (i := 5) (N := none) #[true, true, true, true, true, true] rfl rfl (by kernel_rfl) (by decide) (fun K hK => ?_)
           have hs25 : w24.cell? ⟨gb170, 0, none⟩ = some (.bool false) := zc BK170 0
           have hfs25 := blk_frozen BK170.out 0
           have hns25_0 := NB160_170.out
           have hns25_1 := NB168_170.out
           have hms25_0 := NB170_160.out
           have hms25_1 := NB170_168.out
           have hs26 : w24.cell? ⟨gb170, 1, none⟩ = some (.int .u64 0) := zc BK170 1
           have hfs26 := blk_frozen BK170.out 1
           have hns26_0 := NB160_170.out
           have hns26_1 := NB168_170.out
           have hms26_0 := NB170_160.out
           have hms26_1 := NB170_168.out
           have hs27 : w24.cell? ⟨gb170, 2, none⟩ = some (.int .u64 0) := zc BK170 2
           have hfs27 := blk_frozen BK170.out 2
           have hns27_0 := NB160_170.out
           have hns27_1 := NB168_170.out
           have hms27_0 := NB170_160.out
           have hms27_1 := NB170_168.out
           have hs28 : w24.cell? ⟨gb170, 3, none⟩ = some (.int .i64 0) := zc BK170 3
           have hfs28 := blk_frozen BK170.out 3
           have hns28_0 := NB160_170.out
           have hns28_1 := NB168_170.out
           have hms28_0 := NB170_160.out
           have hms28_1 := NB170_168.out
           refine skip_ (w1 := ?_) (by rfl) rfl ?_ ?_
           rotate_left
           · go_simp
             rfl
           refine hK.out _ _ ⟨((cell_far (p := ⟨gb170, _, none⟩) NB168_170.out _).trans (((cell_far (p := ⟨gb170, _, none⟩) NB168_170.out _).trans (((cell_far (p := ⟨gb170, _, none⟩) NB168_170.out _).trans (((cell_far (p := ⟨gb170, _, none⟩) NB168_170.out _).trans (hHeld.1)))))))), ((cell_far (p := ⟨gb170, _, none⟩) NB168_170.out _).trans (((cell_far (p := ⟨gb170, _, none⟩) NB168_170.out _).trans (((cell_far (p := ⟨gb170, _, none⟩) NB168_170.out _).trans (((cell_far (p := ⟨gb170, _, none⟩) NB168_170.out _).trans (hHeld.2.1)))))))), ((cell_far (p := ⟨gb170, _, none⟩) NB168_170.out _).trans (((cell_far (p := ⟨gb170, _, none⟩) NB168_170.out _).trans (((cell_far (p := ⟨gb170, _, none⟩) NB168_170.out _).trans (((cell_far (p := ⟨gb170, _, none⟩) NB168_170.out _).trans (hHeld.2.2))))))))⟩ (fun hHeld => ?_)
           clear hK K
           refine zd0 ?_
           try go_wp2_with (first | ((with_reducible refine gate_callee (f := 45) rfl ?_); refine goesL_ (some 37) rfl rfl Tryd.func45 (by kernel_rfl) rfl #[.string t162] rfl (by (try simp only [List.map_toArray, List.map_cons, List.map_nil]); first | done | rfl | (simp only [List.length_drop, List.length_take]; rfl)) ?_; (with_reducible refine (address_digits.calls k t162 t171 true _ A10.out).mono ?_); rintro e w29 ⟨rfl, hb⟩; refine ⟨_, rfl, ?_⟩; replace BK160 := Aside0.mk (blk_below (g := gb160) (o := .cells #[.bool false, .int .u64 0, .int .u64 0, .int .i64 0] 30 (0, 0)) (by refine zL ?_; refine blk_far ?_ NB160_170.out _; refine zL ?_; refine blk_far ?_ NB160_170.out _; refine zL ?_; refine blk_far ?_ NB160_170.out _; refine zL ?_; refine blk_far ?_ NB160_170.out _; refine zL ?_; exact BK160.out) hb); replace BK168 := Aside0.mk (blk_below (g := gb168) (o := .cells #[.bool t164, .int .u64 t165, .int .u64 t166] 25 (0, 0)) (by refine zL ?_; refine blk_far ?_ NB168_170.out _; refine zL ?_; refine blk_far ?_ NB168_170.out _; refine zL ?_; refine blk_far ?_ NB168_170.out _; refine zL ?_; refine blk_far ?_ NB168_170.out _; refine zL ?_; exact BK168.out) hb); replace BK170 := Aside0.mk (blk_below (g := gb170) (o := .cells #[.bool t164, .int .u64 t165, .int .u64 t166, .int .i64 t169] 30 (0, 0)) (by refine zL ?_; refine blk_put (cs := #[.bool t164, .int .u64 t165, .int .u64 t166, .int .i64 0]) ?_ 3 _ rfl; refine zL ?_; refine blk_put (cs := #[.bool t164, .int .u64 t165, .int .u64 0, .int .i64 0]) ?_ 2 _ rfl; refine zL ?_; refine blk_put (cs := #[.bool t164, .int .u64 0, .int .u64 0, .int .i64 0]) ?_ 1 _ rfl; refine zL ?_; refine blk_put (cs := #[.bool false, .int .u64 0, .int .u64 0, .int .i64 0]) ?_ 0 _ rfl; refine zL ?_; exact BK170.out) hb); replace HB := Aside0.mk (below_step (zB HB) hb); (try clear hb); have hnb30 := NB168_170.out; have hnc30 := NB170_168.out; obtain ⟨hcz31_0, hcz31_1, hcz31_2⟩ := zc3 BK168; obtain ⟨hfz31_0, hfz31_1, hfz31_2⟩ := zf3 BK168) | ((with_reducible refine gate_callee (f := 44) rfl ?_); refine goesL_ (some 47) rfl rfl Tryd.func44 (by kernel_rfl) rfl #[.agg #[.bool t164, .int .u64 t165, .int .u64 t166]] rfl (by (try simp only [List.map_toArray, List.map_cons, List.map_nil]); first | done | rfl | (simp only [List.length_drop, List.length_take]; rfl)) ?_; (with_reducible refine (address_size.calls t164 t165 t166 t173 _ A12.out).mono ?_); rintro e w32 ⟨rfl, hb⟩; refine ⟨_, rfl, ?_⟩; replace BK160 := Aside0.mk (blk_below (g := gb160) (o := .cells #[.bool false, .int .u64 0, .int .u64 0, .int .i64 0] 30 (0, 0)) (zK BK160) hb); replace BK168 := Aside0.mk (blk_below (g := gb168) (o := .cells #[.bool t164, .int .u64 t165, .int .u64 t166] 25 (0, 0)) (zK BK168) hb); replace BK170 := Aside0.mk (blk_below (g := gb170) (o := .cells #[.bool t164, .int .u64 t165, .int .u64 t166, .int .i64 t169] 30 (0, 0)) (zK BK170) hb); replace HB := Aside0.mk (below_step (zB HB) hb); (try clear hb); have hnb33 := NB160_170.out; have hnc33 := NB170_160.out; obtain ⟨hcz34_0, hcz34_1, hcz34_2, hcz34_3⟩ := zc4 BK160; obtain ⟨hfz34_0, hfz34_1, hfz34_2, hfz34_3⟩ := zf4 BK160))
           refine bodyPost_ret (results_ct rfl _ _ gb160 30 #[.bool false, .int .u64 0, .int .u64 0, .int .i64 0] (0, 0) _ rfl (by refine zL ?_; refine blk_put (cs := #[.bool false, .int .u64 0, .int .u64 0, .int .i64 0]) ?_ 3 _ rfl; refine zL ?_; refine blk_put (cs := #[.bool false, .int .u64 0, .int .u64 0, .int .i64 0]) ?_ 2 _ rfl; refine zL ?_; refine blk_put (cs := #[.bool false, .int .u64 0, .int .u64 0, .int .i64 0]) ?_ 1 _ rfl; refine zL ?_; refine blk_put (cs := #[.bool false, .int .u64 0, .int .u64 0, .int .i64 0]) ?_ 0 _ rfl; refine zL ?_; exact BK160.out) Tryd.underlying30 rfl (by kernel_rfl)) rfl ?_
           exact ⟨by first | rfl | (simp [errW_none, errW_some] <;> rfl) | (simp [*, errW_none, errW_some] <;> rfl), by repeat (first | (with_reducible first | exact HB.out | apply below_alloc | apply pw_below_drewN | apply below_drew1 | refine below_set ?_ GE160.out | refine below_set ?_ GE168.out | refine below_set ?_ GE170.out) | exact HB.out)⟩
         · rw [if_neg c13] at H
           have c13b0 : decide (t173 < t171) = false := decide_eq_false c13
           clear c13
           replace H := Option.bind_eq_some_iff.mp H
           obtain ⟨t174, A350, H⟩ := H
           replace H : (if t174 = true then (some (t164, t165, t166, t171, 0)) else (some (false, 0, 0, 0, 2))) = some (r1, r2, r3, r4, r5) := H
           have A35 := Aside0.mk A350
           clear A350
           by_cases c36 : t174 = true
           · subst c36
             rw [if_pos rfl] at H
             simp only [Option.some.injEq, Prod.mk.injEq] at H
             obtain ⟨rfl, rfl, rfl, rfl, rfl⟩ := H
             go_enter Tryd.func13, Tryd.ntmps13
             try go_wp2_with (first | ((with_reducible refine gate_dst (N := 2) rfl ?_); refine zx 2 #[.bool false, .int .u64 0, .int .u64 0, .int .i64 0] 30 ?_; intro gb160 hg w37 hbox hb; have BK160 := Aside0.mk (hbox); have GW160 := Aside0.mk ((by rw [hg]; exact (below_size (zB HB)) : w.heap.size ≤ gb160)); have GE160 := Aside0.mk ((by rw [hg]; exact (below_size (zB HB)) : w.heap.size ≤ gb160)); replace HB := Aside0.mk (below_step (zB HB) hb); clear hb hbox hg) | ((with_reducible refine gate_callee (f := 43) rfl ?_); refine goesL_ (some 18) rfl rfl Tryd.func43 (by kernel_rfl) rfl #[.string a0, .string (⟨#[47]⟩ : ByteArray)] rfl (by (try simp only [List.map_toArray, List.map_cons, List.map_nil]); first | done | rfl | (simp only [List.length_drop, List.length_take]; rfl)) ?_; (with_reducible refine (strings_Cut.calls a0 (⟨#[47]⟩ : ByteArray) t161 t162 true _ A5.out (WOK.below hW_ (zB HB))).mono ?_); rintro e w38 ⟨rfl, hb⟩; refine ⟨_, rfl, ?_⟩; replace BK160 := Aside0.mk (blk_below (g := gb160) (o := .cells #[.bool false, .int .u64 0, .int .u64 0, .int .i64 0] 30 (0, 0)) (zK BK160) hb); replace HB := Aside0.mk (below_step (zB HB) hb); (try clear hb)) | ((with_reducible refine gate_callee (f := 11) rfl ?_); refine goesL_ (some 24) rfl rfl Tryd.func11 (by kernel_rfl) rfl #[.string t161] rfl (by (try simp only [List.map_toArray, List.map_cons, List.map_nil]); first | done | rfl | (simp only [List.length_drop, List.length_take]; rfl)) ?_; (with_reducible refine (address_Parse.calls k t161 t164 t165 t166 t167 _ A6.out (WOK.below hW_ (zB HB))).mono ?_); rintro e w39 ⟨rfl, hb⟩; refine ⟨_, rfl, ?_⟩; replace BK160 := Aside0.mk (blk_below (g := gb160) (o := .cells #[.bool false, .int .u64 0, .int .u64 0, .int .i64 0] 30 (0, 0)) (zK BK160) hb); replace HB := Aside0.mk (below_step (zB HB) hb); (try clear hb)) | ((with_reducible refine gate_dst (N := 7) rfl ?_); refine zx 7 #[.bool false, .int .u64 0, .int .u64 0] 25 ?_; intro gb168 hg w40 hbox hb; have BK168 := Aside0.mk (hbox); have GW168 := Aside0.mk ((by rw [hg]; exact (below_size (zB HB)) : w.heap.size ≤ gb168)); have GE168 := Aside0.mk ((by rw [hg]; exact (below_size (zB HB)) : w.heap.size ≤ gb168)); replace HB := Aside0.mk (below_step (zB HB) hb); have NB160_168 := Aside0.mk ((by rw [hg]; exact Nat.ne_of_lt (blk_lt (g := gb160) (o := .cells #[.bool false, .int .u64 0, .int .u64 0, .int .i64 0] 30 (0, 0)) (zK BK160)) : gb160 ≠ gb168)); have NB168_160 := Aside0.mk ((by rw [hg]; exact Nat.ne_of_gt (blk_lt (g := gb160) (o := .cells #[.bool false, .int .u64 0, .int .u64 0, .int .i64 0] 30 (0, 0)) (zK BK160)) : gb168 ≠ gb160)); replace BK160 := Aside0.mk (blk_below (g := gb160) (o := .cells #[.bool false, .int .u64 0, .int .u64 0, .int .i64 0] 30 (0, 0)) (zK BK160) hb); clear hb hbox hg; have hnb41 := NB168_160.out; have hnc41 := NB160_168.out; obtain ⟨hcz42_0, hcz42_1, hcz42_2⟩ := zc3 BK168; obtain ⟨hfz42_0, hfz42_1, hfz42_2⟩ := zf3 BK168))
             have n0_ : Aside0 ((((w40.setCell ⟨gb168, 0, none⟩ (.bool t164)).setCell ⟨gb168, 1, none⟩ (.int .u64 t165)).setCell ⟨gb168, 2, none⟩ (.int .u64 t166)).heap[gb160]? = some (.cells #[.bool false, .int .u64 0, .int .u64 0, .int .i64 0] 30 (0, 0))) := ⟨by refine zL ?_; refine blk_far ?_ NB160_168.out _; refine zL ?_; refine blk_far ?_ NB160_168.out _; refine zL ?_; refine blk_far ?_ NB160_168.out _; refine zL ?_; exact BK160.out⟩
             have n1_ : Aside0 ((((w40.setCell ⟨gb168, 0, none⟩ (.bool t164)).setCell ⟨gb168, 1, none⟩ (.int .u64 t165)).setCell ⟨gb168, 2, none⟩ (.int .u64 t166)).heap[gb168]? = some (.cells #[.bool t164, .int .u64 t165, .int .u64 t166] 25 (0, 0))) := ⟨by refine zL ?_; refine blk_put (cs := #[.bool t164, .int .u64 t165, .int .u64 0]) ?_ 2 _ rfl; refine zL ?_; refine blk_put (cs := #[.bool t164, .int .u64 0, .int .u64 0]) ?_ 1 _ rfl; refine zL ?_; refine blk_put (cs := #[.bool false, .int .u64 0, .int .u64 0]) ?_ 0 _ rfl; refine zL ?_; exact BK168.out⟩
             have n2_ : Aside0 (Below w.heap.size w (((w40.setCell ⟨gb168, 0, none⟩ (.bool t164)).setCell ⟨gb168, 1, none⟩ (.int .u64 t165)).setCell ⟨gb168, 2, none⟩ (.int .u64 t166))) := ⟨zB HB⟩
             (try clear BK160)
             (try clear BK168)
             (try clear HB)
             generalize (((w40.setCell ⟨gb168, 0, none⟩ (.bool t164)).setCell ⟨gb168, 1, none⟩ (.int .u64 t165)).setCell ⟨gb168, 2, none⟩ (.int .u64 t166)) = w43 at n0_ n1_ n2_ ⊢
             have BK160 := n0_
             have BK168 := n1_
             have HB := n2_
             clear n0_ n1_ n2_
             replace BK160 := Aside0.mk (blk_drew BK160.out)
             replace BK168 := Aside0.mk (blk_drew BK168.out)
             replace HB := Aside0.mk (below_drew1 HB.out)
             refine start_ (n := 6) (S := fun w' => w'.cell? ⟨gb168, 0, none⟩ = some (.bool t164) ∧ w'.cell? ⟨gb168, 1, none⟩ = some (.int .u64 t165) ∧ w'.cell? ⟨gb168, 2, none⟩ = some (.int .u64 t166)) (ds := []) #[false, false, false, false, false, false] (by kernel_rfl) rfl rfl ⟨zc BK168 0, zc BK168 1, zc BK168 2⟩ (fun hHeld => ?_)
             generalize w43.drew = w44 at BK160 BK168 HB hHeld ⊢
             refine zt0 0 30 hHeld ?_; refine zt0 1 31 hHeld ?_
             refine join_ (σ := Nat) 1 #[true, true, true, true, true, false] (fun s_ => [(32, .int .i64 t169), (9, .pointer (some ⟨s_, 0, none⟩)), (33, .agg #[.bool t164, .int .u64 t165, .int .u64 t166, .int .i64 t169])]) (fun s_ w' => (w'.cell? ⟨gb168, 0, none⟩ = some (.bool t164) ∧ w'.cell? ⟨gb168, 1, none⟩ = some (.int .u64 t165) ∧ w'.cell? ⟨gb168, 2, none⟩ = some (.int .u64 t166)) ∧ (w'.heap[gb160]? = some (.cells #[.bool false, .int .u64 0, .int .u64 0, .int .i64 0] 30 (0, 0))) ∧ (w'.heap[gb168]? = some (.cells #[.bool t164, .int .u64 t165, .int .u64 t166] 25 (0, 0))) ∧ (w'.heap[s_]? = some (.cells #[.bool false, .int .u64 0, .int .u64 0, .int .i64 0] 30 (0, 0))) ∧ (w.heap.size ≤ s_) ∧ (w.heap.size ≤ s_) ∧ (gb160 ≠ s_) ∧ (s_ ≠ gb160) ∧ (gb168 ≠ s_) ∧ (s_ ≠ gb168) ∧ (Below w.heap.size w w')) ?_ ?_
             rotate_left
             · intro hCont
               refine two_ (i := 2) (j := 4) (Ni := some 32) (Nj := some 9) #[true, true, true, false, false, false] #[true, true, false, false, true, false] rfl rfl rfl rfl (by kernel_rfl) (by decide) (by decide) (fun K hK => ?_) (fun K hK => ?_)
               · skip
                 refine zg Tryd.func44 #[.agg #[.bool t164, .int .u64 t165, .int .u64 t166]] ?_
                 with_reducible refine (address_size.calls t164 t165 t166 t169 _ A8.out).mono ?_
                 rintro e w45 ⟨rfl, hb⟩
                 refine ⟨_, rfl, ?_⟩
                 replace BK160 := Aside0.mk (blk_below (g := gb160) (o := .cells #[.bool false, .int .u64 0, .int .u64 0, .int .i64 0] 30 (0, 0)) (zK BK160) hb)
                 replace BK168 := Aside0.mk (blk_below (g := gb168) (o := .cells #[.bool t164, .int .u64 t165, .int .u64 t166] 25 (0, 0)) (zK BK168) hb)
                 replace HB := Aside0.mk (below_step (zB HB) hb)
                 (try clear hb)
                 refine hK.out _ _ ⟨zc BK168 0, zc BK168 1, zc BK168 2⟩ (fun hHeld => ?_)
                 clear hK K
                 refine zn 32 ?_; refine zp0 3 33 ?_; refine zo0 4 9 (fun K hK => ?_)
                 refine box_step ?hg (N := 9) ?hd (cs := #[.bool false, .int .u64 0, .int .u64 0, .int .i64 0]) (t := 30) ?hr ?_; (case hd => rfl); (case hg => rfl); (case hr => first | (go_simp; done) | (go_simp; rfl))
                 intro gb170 hg w46 hbox hb
                 have BK170 := Aside0.mk (hbox)
                 have GW170 := Aside0.mk ((by rw [hg]; exact (below_size (zB HB)) : w.heap.size ≤ gb170))
                 have GE170 := Aside0.mk ((by rw [hg]; exact (below_size (zB HB)) : w.heap.size ≤ gb170))
                 replace HB := Aside0.mk (below_step (zB HB) hb)
                 have NB160_170 := Aside0.mk ((by rw [hg]; exact Nat.ne_of_lt (blk_lt (g := gb160) (o := .cells #[.bool false, .int .u64 0, .int .u64 0, .int .i64 0] 30 (0, 0)) (zK BK160)) : gb160 ≠ gb170))
                 have NB170_160 := Aside0.mk ((by rw [hg]; exact Nat.ne_of_gt (blk_lt (g := gb160) (o := .cells #[.bool false, .int .u64 0, .int .u64 0, .int .i64 0] 30 (0, 0)) (zK BK160)) : gb170 ≠ gb160))
                 replace BK160 := Aside0.mk (blk_below (g := gb160) (o := .cells #[.bool false, .int .u64 0, .int .u64 0, .int .i64 0] 30 (0, 0)) (zK BK160) hb)
                 have NB168_170 := Aside0.mk ((by rw [hg]; exact Nat.ne_of_lt (blk_lt (g := gb168) (o := .cells #[.bool t164, .int .u64 t165, .int .u64 t166] 25 (0, 0)) (zK BK168)) : gb168 ≠ gb170))
                 have NB170_168 := Aside0.mk ((by rw [hg]; exact Nat.ne_of_gt (blk_lt (g := gb168) (o := .cells #[.bool t164, .int .u64 t165, .int .u64 t166] 25 (0, 0)) (zK BK168)) : gb170 ≠ gb168))
                 replace BK168 := Aside0.mk (blk_below (g := gb168) (o := .cells #[.bool t164, .int .u64 t165, .int .u64 t166] 25 (0, 0)) (zK BK168) hb)
                 clear hb hbox hg
                 refine hK.out _ _ ⟨zc BK168 0, zc BK168 1, zc BK168 2⟩ (fun hHeld => ?_)
                 clear hK K
                 refine zn 9 ?_
                 exact norm_ (by simp only [putAll, Act.put, List.setIfInBounds_toArray, List.set_cons_zero, List.set_cons_succ]) (hCont (gb170) _ ⟨hHeld, (zK BK160), (zK BK168), (zK BK170), GW170.out, GE170.out, NB160_170.out, NB170_160.out, NB168_170.out, NB170_168.out, (zB HB)⟩)
               · skip
                 refine box_step ?hg (N := 9) ?hd (cs := #[.bool false, .int .u64 0, .int .u64 0, .int .i64 0]) (t := 30) ?hr ?_; (case hd => rfl); (case hg => rfl); (case hr => first | (go_simp; done) | (go_simp; rfl))
                 intro gb170 hg w45 hbox hb
                 have BK170 := Aside0.mk (hbox)
                 have GW170 := Aside0.mk ((by rw [hg]; exact (below_size (zB HB)) : w.heap.size ≤ gb170))
                 have GE170 := Aside0.mk ((by rw [hg]; exact (below_size (zB HB)) : w.heap.size ≤ gb170))
                 replace HB := Aside0.mk (below_step (zB HB) hb)
                 have NB160_170 := Aside0.mk ((by rw [hg]; exact Nat.ne_of_lt (blk_lt (g := gb160) (o := .cells #[.bool false, .int .u64 0, .int .u64 0, .int .i64 0] 30 (0, 0)) (zK BK160)) : gb160 ≠ gb170))
                 have NB170_160 := Aside0.mk ((by rw [hg]; exact Nat.ne_of_gt (blk_lt (g := gb160) (o := .cells #[.bool false, .int .u64 0, .int .u64 0, .int .i64 0] 30 (0, 0)) (zK BK160)) : gb170 ≠ gb160))
                 replace BK160 := Aside0.mk (blk_below (g := gb160) (o := .cells #[.bool false, .int .u64 0, .int .u64 0, .int .i64 0] 30 (0, 0)) (zK BK160) hb)
                 have NB168_170 := Aside0.mk ((by rw [hg]; exact Nat.ne_of_lt (blk_lt (g := gb168) (o := .cells #[.bool t164, .int .u64 t165, .int .u64 t166] 25 (0, 0)) (zK BK168)) : gb168 ≠ gb170))
                 have NB170_168 := Aside0.mk ((by rw [hg]; exact Nat.ne_of_gt (blk_lt (g := gb168) (o := .cells #[.bool t164, .int .u64 t165, .int .u64 t166] 25 (0, 0)) (zK BK168)) : gb170 ≠ gb168))
                 replace BK168 := Aside0.mk (blk_below (g := gb168) (o := .cells #[.bool t164, .int .u64 t165, .int .u64 t166] 25 (0, 0)) (zK BK168) hb)
                 clear hb hbox hg
                 refine hK.out _ _ ⟨zc BK168 0, zc BK168 1, zc BK168 2⟩ (fun hHeld => ?_)
                 clear hK K
                 refine zn 9 ?_; refine zo0 2 32 (fun K hK => ?_)
                 refine zg Tryd.func44 #[.agg #[.bool t164, .int .u64 t165, .int .u64 t166]] ?_
                 with_reducible refine (address_size.calls t164 t165 t166 t169 _ A8.out).mono ?_
                 rintro e w46 ⟨rfl, hb⟩
                 refine ⟨_, rfl, ?_⟩
                 replace BK160 := Aside0.mk (blk_below (g := gb160) (o := .cells #[.bool false, .int .u64 0, .int .u64 0, .int .i64 0] 30 (0, 0)) (zK BK160) hb)
                 replace BK168 := Aside0.mk (blk_below (g := gb168) (o := .cells #[.bool t164, .int .u64 t165, .int .u64 t166] 25 (0, 0)) (zK BK168) hb)
                 replace BK170 := Aside0.mk (blk_below (g := gb170) (o := .cells #[.bool false, .int .u64 0, .int .u64 0, .int .i64 0] 30 (0, 0)) (zK BK170) hb)
                 replace HB := Aside0.mk (below_step (zB HB) hb)
                 (try clear hb)
                 refine hK.out _ _ ⟨zc BK168 0, zc BK168 1, zc BK168 2⟩ (fun hHeld => ?_)
                 clear hK K
                 refine zn 32 ?_; refine zp0 3 33 ?_
                 exact norm_ (by simp only [putAll, Act.put, List.setIfInBounds_toArray, List.set_cons_zero, List.set_cons_succ]) (hCont (gb170) _ ⟨hHeld, (zK BK160), (zK BK168), (zK BK170), GW170.out, GE170.out, NB160_170.out, NB170_160.out, NB168_170.out, NB170_168.out, (zB HB)⟩)
             rintro gb170 w47 ⟨hS_, h0_, h1_, h2_, h3_, h4_, h5_, h6_, h7_, h8_, h9_⟩
             have n0_ : Aside0 (w47.heap[gb160]? = some (.cells #[.bool false, .int .u64 0, .int .u64 0, .int .i64 0] 30 (0, 0))) := ⟨h0_⟩
             have n1_ : Aside0 (w47.heap[gb168]? = some (.cells #[.bool t164, .int .u64 t165, .int .u64 t166] 25 (0, 0))) := ⟨h1_⟩
             have n2_ : Aside0 (w47.heap[gb170]? = some (.cells #[.bool false, .int .u64 0, .int .u64 0, .int .i64 0] 30 (0, 0))) := ⟨h2_⟩
             have n3_ : Aside0 (w.heap.size ≤ gb170) := ⟨h3_⟩
             have n4_ : Aside0 (w.heap.size ≤ gb170) := ⟨h4_⟩
             have n5_ : Aside0 (gb160 ≠ gb170) := ⟨h5_⟩
             have n6_ : Aside0 (gb170 ≠ gb160) := ⟨h6_⟩
             have n7_ : Aside0 (gb168 ≠ gb170) := ⟨h7_⟩
             have n8_ : Aside0 (gb170 ≠ gb168) := ⟨h8_⟩
             have n9_ : Aside0 (Below w.heap.size w w47) := ⟨h9_⟩
             clear BK160
             clear BK168
             clear HB
             clear h0_ h1_ h2_ h3_ h4_ h5_ h6_ h7_ h8_ h9_
             have BK160 := n0_
             have BK168 := n1_
             have BK170 := n2_
             have GW170 := n3_
             have GE170 := n4_
             have NB160_170 := n5_
             have NB170_160 := n6_
             have NB168_170 := n7_
             have NB170_168 := n8_
             have HB := n9_
             clear n0_ n1_ n2_ n3_ n4_ n5_ n6_ n7_ n8_ n9_
             have hHeld : w47.cell? ⟨gb168, 0, none⟩ = some (.bool t164) ∧ w47.cell? ⟨gb168, 1, none⟩ = some (.int .u64 t165) ∧ w47.cell? ⟨gb168, 2, none⟩ = some (.int .u64 t166) := hS_
             refine norm_ (a' := ?_) ?_ ?_
             rotate_left
             · simp only [putAll, Act.put, List.setIfInBounds_toArray, List.set_cons_zero, List.set_cons_succ]
               rfl
             refine one_ (i := 5) (N := none) #[true, true, true, true, true, true] rfl rfl (by kernel_rfl) (by decide) (fun K hK => ?_)
             have hs48 : w47.cell? ⟨gb170, 0, none⟩ = some (.bool false) := zc BK170 0
             have hfs48 := blk_frozen BK170.out 0
             have hns48_0 := NB160_170.out
             have hns48_1 := NB168_170.out
             have hms48_0 := NB170_160.out
             have hms48_1 := NB170_168.out
             have hs49 : w47.cell? ⟨gb170, 1, none⟩ = some (.int .u64 0) := zc BK170 1
             have hfs49 := blk_frozen BK170.out 1
             have hns49_0 := NB160_170.out
             have hns49_1 := NB168_170.out
             have hms49_0 := NB170_160.out
             have hms49_1 := NB170_168.out
             have hs50 : w47.cell? ⟨gb170, 2, none⟩ = some (.int .u64 0) := zc BK170 2
             have hfs50 := blk_frozen BK170.out 2
             have hns50_0 := NB160_170.out
             have hns50_1 := NB168_170.out
             have hms50_0 := NB170_160.out
             have hms50_1 := NB170_168.out
             have hs51 : w47.cell? ⟨gb170, 3, none⟩ = some (.int .i64 0) := zc BK170 3
             have hfs51 := blk_frozen BK170.out 3
             have hns51_0 := NB160_170.out
             have hns51_1 := NB168_170.out
             have hms51_0 := NB170_160.out
             have hms51_1 := NB170_168.out
             refine skip_ (w1 := ?_) (by rfl) rfl ?_ ?_
             rotate_left
             · go_simp
               rfl
             refine hK.out _ _ ⟨((cell_far (p := ⟨gb170, _, none⟩) NB168_170.out _).trans (((cell_far (p := ⟨gb170, _, none⟩) NB168_170.out _).trans (((cell_far (p := ⟨gb170, _, none⟩) NB168_170.out _).trans (((cell_far (p := ⟨gb170, _, none⟩) NB168_170.out _).trans (hHeld.1)))))))), ((cell_far (p := ⟨gb170, _, none⟩) NB168_170.out _).trans (((cell_far (p := ⟨gb170, _, none⟩) NB168_170.out _).trans (((cell_far (p := ⟨gb170, _, none⟩) NB168_170.out _).trans (((cell_far (p := ⟨gb170, _, none⟩) NB168_170.out _).trans (hHeld.2.1)))))))), ((cell_far (p := ⟨gb170, _, none⟩) NB168_170.out _).trans (((cell_far (p := ⟨gb170, _, none⟩) NB168_170.out _).trans (((cell_far (p := ⟨gb170, _, none⟩) NB168_170.out _).trans (((cell_far (p := ⟨gb170, _, none⟩) NB168_170.out _).trans (hHeld.2.2))))))))⟩ (fun hHeld => ?_)
             clear hK K
             refine zd0 ?_
             try go_wp2_with (first | ((with_reducible refine gate_callee (f := 45) rfl ?_); refine goesL_ (some 37) rfl rfl Tryd.func45 (by kernel_rfl) rfl #[.string t162] rfl (by (try simp only [List.map_toArray, List.map_cons, List.map_nil]); first | done | rfl | (simp only [List.length_drop, List.length_take]; rfl)) ?_; (with_reducible refine (address_digits.calls k t162 t171 true _ A10.out).mono ?_); rintro e w52 ⟨rfl, hb⟩; refine ⟨_, rfl, ?_⟩; replace BK160 := Aside0.mk (blk_below (g := gb160) (o := .cells #[.bool false, .int .u64 0, .int .u64 0, .int .i64 0] 30 (0, 0)) (by refine zL ?_; refine blk_far ?_ NB160_170.out _; refine zL ?_; refine blk_far ?_ NB160_170.out _; refine zL ?_; refine blk_far ?_ NB160_170.out _; refine zL ?_; refine blk_far ?_ NB160_170.out _; refine zL ?_; exact BK160.out) hb); replace BK168 := Aside0.mk (blk_below (g := gb168) (o := .cells #[.bool t164, .int .u64 t165, .int .u64 t166] 25 (0, 0)) (by refine zL ?_; refine blk_far ?_ NB168_170.out _; refine zL ?_; refine blk_far ?_ NB168_170.out _; refine zL ?_; refine blk_far ?_ NB168_170.out _; refine zL ?_; refine blk_far ?_ NB168_170.out _; refine zL ?_; exact BK168.out) hb); replace BK170 := Aside0.mk (blk_below (g := gb170) (o := .cells #[.bool t164, .int .u64 t165, .int .u64 t166, .int .i64 t169] 30 (0, 0)) (by refine zL ?_; refine blk_put (cs := #[.bool t164, .int .u64 t165, .int .u64 t166, .int .i64 0]) ?_ 3 _ rfl; refine zL ?_; refine blk_put (cs := #[.bool t164, .int .u64 t165, .int .u64 0, .int .i64 0]) ?_ 2 _ rfl; refine zL ?_; refine blk_put (cs := #[.bool t164, .int .u64 0, .int .u64 0, .int .i64 0]) ?_ 1 _ rfl; refine zL ?_; refine blk_put (cs := #[.bool false, .int .u64 0, .int .u64 0, .int .i64 0]) ?_ 0 _ rfl; refine zL ?_; exact BK170.out) hb); replace HB := Aside0.mk (below_step (zB HB) hb); (try clear hb); have hnb53 := NB168_170.out; have hnc53 := NB170_168.out; obtain ⟨hcz54_0, hcz54_1, hcz54_2⟩ := zc3 BK168; obtain ⟨hfz54_0, hfz54_1, hfz54_2⟩ := zf3 BK168) | ((with_reducible refine gate_callee (f := 44) rfl ?_); refine goesL_ (some 47) rfl rfl Tryd.func44 (by kernel_rfl) rfl #[.agg #[.bool t164, .int .u64 t165, .int .u64 t166]] rfl (by (try simp only [List.map_toArray, List.map_cons, List.map_nil]); first | done | rfl | (simp only [List.length_drop, List.length_take]; rfl)) ?_; (with_reducible refine (address_size.calls t164 t165 t166 t173 _ A12.out).mono ?_); rintro e w55 ⟨rfl, hb⟩; refine ⟨_, rfl, ?_⟩; replace BK160 := Aside0.mk (blk_below (g := gb160) (o := .cells #[.bool false, .int .u64 0, .int .u64 0, .int .i64 0] 30 (0, 0)) (zK BK160) hb); replace BK168 := Aside0.mk (blk_below (g := gb168) (o := .cells #[.bool t164, .int .u64 t165, .int .u64 t166] 25 (0, 0)) (zK BK168) hb); replace BK170 := Aside0.mk (blk_below (g := gb170) (o := .cells #[.bool t164, .int .u64 t165, .int .u64 t166, .int .i64 t169] 30 (0, 0)) (zK BK170) hb); replace HB := Aside0.mk (below_step (zB HB) hb); (try clear hb); have hnb56 := NB170_160.out; have hnc56 := NB160_170.out; obtain ⟨hcz57_0, hcz57_1, hcz57_2, hcz57_3⟩ := zc4 BK170; obtain ⟨hfz57_0, hfz57_1, hfz57_2, hfz57_3⟩ := zf4 BK170) | ((with_reducible refine gate_callee (f := 31) rfl ?_); refine goesL_ (some 53) rfl rfl Tryd.func31 (by kernel_rfl) rfl #[.agg #[.bool t164, .int .u64 t165, .int .u64 t166, .int .i64 t171]] rfl (by (try simp only [List.map_toArray, List.map_cons, List.map_nil]); first | done | rfl | (simp only [List.length_drop, List.length_take]; rfl)) ?_; (with_reducible refine (address_ValidPrefix.calls t164 t165 t166 t171 true _ A35.out).mono ?_); rintro e w58 ⟨rfl, hb⟩; refine ⟨_, rfl, ?_⟩; replace BK160 := Aside0.mk (blk_below (g := gb160) (o := .cells #[.bool false, .int .u64 0, .int .u64 0, .int .i64 0] 30 (0, 0)) (by refine zL ?_; refine blk_far ?_ NB160_170.out _; refine zL ?_; exact BK160.out) hb); replace BK168 := Aside0.mk (blk_below (g := gb168) (o := .cells #[.bool t164, .int .u64 t165, .int .u64 t166] 25 (0, 0)) (by refine zL ?_; refine blk_far ?_ NB168_170.out _; refine zL ?_; exact BK168.out) hb); replace BK170 := Aside0.mk (blk_below (g := gb170) (o := .cells #[.bool t164, .int .u64 t165, .int .u64 t166, .int .i64 t171] 30 (0, 0)) (by refine zL ?_; refine blk_put (cs := #[.bool t164, .int .u64 t165, .int .u64 t166, .int .i64 t169]) ?_ 3 _ rfl; refine zL ?_; exact BK170.out) hb); replace HB := Aside0.mk (below_step (zB HB) hb); (try clear hb); obtain ⟨hcz59_0, hcz59_1, hcz59_2, hcz59_3⟩ := zc4 BK170; obtain ⟨hfz59_0, hfz59_1, hfz59_2, hfz59_3⟩ := zf4 BK170; obtain ⟨hcz60_0, hcz60_1, hcz60_2, hcz60_3⟩ := zc4 BK160; obtain ⟨hfz60_0, hfz60_1, hfz60_2, hfz60_3⟩ := zf4 BK160))
             refine bodyPost_ret (results_ct rfl _ _ gb160 30 #[.bool t164, .int .u64 t165, .int .u64 t166, .int .i64 t171] (0, 0) _ rfl (by refine zL ?_; refine blk_put (cs := #[.bool t164, .int .u64 t165, .int .u64 t166, .int .i64 0]) ?_ 3 _ rfl; refine zL ?_; refine blk_put (cs := #[.bool t164, .int .u64 t165, .int .u64 0, .int .i64 0]) ?_ 2 _ rfl; refine zL ?_; refine blk_put (cs := #[.bool t164, .int .u64 0, .int .u64 0, .int .i64 0]) ?_ 1 _ rfl; refine zL ?_; refine blk_put (cs := #[.bool false, .int .u64 0, .int .u64 0, .int .i64 0]) ?_ 0 _ rfl; refine zL ?_; exact BK160.out) Tryd.underlying30 rfl (by kernel_rfl)) rfl ?_
             exact ⟨by first | rfl | (simp [errW_none, errW_some] <;> rfl) | (simp [*, errW_none, errW_some] <;> rfl), by repeat (first | (with_reducible first | exact HB.out | apply below_alloc | apply pw_below_drewN | apply below_drew1 | refine below_set ?_ GE160.out | refine below_set ?_ GE168.out | refine below_set ?_ GE170.out) | exact HB.out)⟩
           · replace c36 := Bool.eq_false_iff.mpr c36
             subst c36
             rw [if_neg zF] at H
             simp only [Option.some.injEq, Prod.mk.injEq] at H
             obtain ⟨rfl, rfl, rfl, rfl, rfl⟩ := H
             go_enter Tryd.func13, Tryd.ntmps13
             try go_wp2_with (first | ((with_reducible refine gate_dst (N := 2) rfl ?_); refine zx 2 #[.bool false, .int .u64 0, .int .u64 0, .int .i64 0] 30 ?_; intro gb160 hg w61 hbox hb; have BK160 := Aside0.mk (hbox); have GW160 := Aside0.mk ((by rw [hg]; exact (below_size (zB HB)) : w.heap.size ≤ gb160)); have GE160 := Aside0.mk ((by rw [hg]; exact (below_size (zB HB)) : w.heap.size ≤ gb160)); replace HB := Aside0.mk (below_step (zB HB) hb); clear hb hbox hg) | ((with_reducible refine gate_callee (f := 43) rfl ?_); refine goesL_ (some 18) rfl rfl Tryd.func43 (by kernel_rfl) rfl #[.string a0, .string (⟨#[47]⟩ : ByteArray)] rfl (by (try simp only [List.map_toArray, List.map_cons, List.map_nil]); first | done | rfl | (simp only [List.length_drop, List.length_take]; rfl)) ?_; (with_reducible refine (strings_Cut.calls a0 (⟨#[47]⟩ : ByteArray) t161 t162 true _ A5.out (WOK.below hW_ (zB HB))).mono ?_); rintro e w62 ⟨rfl, hb⟩; refine ⟨_, rfl, ?_⟩; replace BK160 := Aside0.mk (blk_below (g := gb160) (o := .cells #[.bool false, .int .u64 0, .int .u64 0, .int .i64 0] 30 (0, 0)) (zK BK160) hb); replace HB := Aside0.mk (below_step (zB HB) hb); (try clear hb)) | ((with_reducible refine gate_callee (f := 11) rfl ?_); refine goesL_ (some 24) rfl rfl Tryd.func11 (by kernel_rfl) rfl #[.string t161] rfl (by (try simp only [List.map_toArray, List.map_cons, List.map_nil]); first | done | rfl | (simp only [List.length_drop, List.length_take]; rfl)) ?_; (with_reducible refine (address_Parse.calls k t161 t164 t165 t166 t167 _ A6.out (WOK.below hW_ (zB HB))).mono ?_); rintro e w63 ⟨rfl, hb⟩; refine ⟨_, rfl, ?_⟩; replace BK160 := Aside0.mk (blk_below (g := gb160) (o := .cells #[.bool false, .int .u64 0, .int .u64 0, .int .i64 0] 30 (0, 0)) (zK BK160) hb); replace HB := Aside0.mk (below_step (zB HB) hb); (try clear hb)) | ((with_reducible refine gate_dst (N := 7) rfl ?_); refine zx 7 #[.bool false, .int .u64 0, .int .u64 0] 25 ?_; intro gb168 hg w64 hbox hb; have BK168 := Aside0.mk (hbox); have GW168 := Aside0.mk ((by rw [hg]; exact (below_size (zB HB)) : w.heap.size ≤ gb168)); have GE168 := Aside0.mk ((by rw [hg]; exact (below_size (zB HB)) : w.heap.size ≤ gb168)); replace HB := Aside0.mk (below_step (zB HB) hb); have NB160_168 := Aside0.mk ((by rw [hg]; exact Nat.ne_of_lt (blk_lt (g := gb160) (o := .cells #[.bool false, .int .u64 0, .int .u64 0, .int .i64 0] 30 (0, 0)) (zK BK160)) : gb160 ≠ gb168)); have NB168_160 := Aside0.mk ((by rw [hg]; exact Nat.ne_of_gt (blk_lt (g := gb160) (o := .cells #[.bool false, .int .u64 0, .int .u64 0, .int .i64 0] 30 (0, 0)) (zK BK160)) : gb168 ≠ gb160)); replace BK160 := Aside0.mk (blk_below (g := gb160) (o := .cells #[.bool false, .int .u64 0, .int .u64 0, .int .i64 0] 30 (0, 0)) (zK BK160) hb); clear hb hbox hg; have hnb65 := NB168_160.out; have hnc65 := NB160_168.out; obtain ⟨hcz66_0, hcz66_1, hcz66_2⟩ := zc3 BK168; obtain ⟨hfz66_0, hfz66_1, hfz66_2⟩ := zf3 BK168))
             have n0_ : Aside0 ((((w64.setCell ⟨gb168, 0, none⟩ (.bool t164)).setCell ⟨gb168, 1, none⟩ (.int .u64 t165)).setCell ⟨gb168, 2, none⟩ (.int .u64 t166)).heap[gb160]? = some (.cells #[.bool false, .int .u64 0, .int .u64 0, .int .i64 0] 30 (0, 0))) := ⟨by refine zL ?_; refine blk_far ?_ NB160_168.out _; refine zL ?_; refine blk_far ?_ NB160_168.out _; refine zL ?_; refine blk_far ?_ NB160_168.out _; refine zL ?_; exact BK160.out⟩
             have n1_ : Aside0 ((((w64.setCell ⟨gb168, 0, none⟩ (.bool t164)).setCell ⟨gb168, 1, none⟩ (.int .u64 t165)).setCell ⟨gb168, 2, none⟩ (.int .u64 t166)).heap[gb168]? = some (.cells #[.bool t164, .int .u64 t165, .int .u64 t166] 25 (0, 0))) := ⟨by refine zL ?_; refine blk_put (cs := #[.bool t164, .int .u64 t165, .int .u64 0]) ?_ 2 _ rfl; refine zL ?_; refine blk_put (cs := #[.bool t164, .int .u64 0, .int .u64 0]) ?_ 1 _ rfl; refine zL ?_; refine blk_put (cs := #[.bool false, .int .u64 0, .int .u64 0]) ?_ 0 _ rfl; refine zL ?_; exact BK168.out⟩
             have n2_ : Aside0 (Below w.heap.size w (((w64.setCell ⟨gb168, 0, none⟩ (.bool t164)).setCell ⟨gb168, 1, none⟩ (.int .u64 t165)).setCell ⟨gb168, 2, none⟩ (.int .u64 t166))) := ⟨zB HB⟩
             (try clear BK160)
             (try clear BK168)
             (try clear HB)
             generalize (((w64.setCell ⟨gb168, 0, none⟩ (.bool t164)).setCell ⟨gb168, 1, none⟩ (.int .u64 t165)).setCell ⟨gb168, 2, none⟩ (.int .u64 t166)) = w67 at n0_ n1_ n2_ ⊢
             have BK160 := n0_
             have BK168 := n1_
             have HB := n2_
             clear n0_ n1_ n2_
             replace BK160 := Aside0.mk (blk_drew BK160.out)
             replace BK168 := Aside0.mk (blk_drew BK168.out)
             replace HB := Aside0.mk (below_drew1 HB.out)
             refine start_ (n := 6) (S := fun w' => w'.cell? ⟨gb168, 0, none⟩ = some (.bool t164) ∧ w'.cell? ⟨gb168, 1, none⟩ = some (.int .u64 t165) ∧ w'.cell? ⟨gb168, 2, none⟩ = some (.int .u64 t166)) (ds := []) #[false, false, false, false, false, false] (by kernel_rfl) rfl rfl ⟨zc BK168 0, zc BK168 1, zc BK168 2⟩ (fun hHeld => ?_)
             generalize w67.drew = w68 at BK160 BK168 HB hHeld ⊢
             refine zt0 0 30 hHeld ?_; refine zt0 1 31 hHeld ?_
             refine join_ (σ := Nat) 1 #[true, true, true, true, true, false] (fun s_ => [(32, .int .i64 t169), (9, .pointer (some ⟨s_, 0, none⟩)), (33, .agg #[.bool t164, .int .u64 t165, .int .u64 t166, .int .i64 t169])]) (fun s_ w' => (w'.cell? ⟨gb168, 0, none⟩ = some (.bool t164) ∧ w'.cell? ⟨gb168, 1, none⟩ = some (.int .u64 t165) ∧ w'.cell? ⟨gb168, 2, none⟩ = some (.int .u64 t166)) ∧ (w'.heap[gb160]? = some (.cells #[.bool false, .int .u64 0, .int .u64 0, .int .i64 0] 30 (0, 0))) ∧ (w'.heap[gb168]? = some (.cells #[.bool t164, .int .u64 t165, .int .u64 t166] 25 (0, 0))) ∧ (w'.heap[s_]? = some (.cells #[.bool false, .int .u64 0, .int .u64 0, .int .i64 0] 30 (0, 0))) ∧ (w.heap.size ≤ s_) ∧ (w.heap.size ≤ s_) ∧ (gb160 ≠ s_) ∧ (s_ ≠ gb160) ∧ (gb168 ≠ s_) ∧ (s_ ≠ gb168) ∧ (Below w.heap.size w w')) ?_ ?_
             rotate_left
             · intro hCont
               refine two_ (i := 2) (j := 4) (Ni := some 32) (Nj := some 9) #[true, true, true, false, false, false] #[true, true, false, false, true, false] rfl rfl rfl rfl (by kernel_rfl) (by decide) (by decide) (fun K hK => ?_) (fun K hK => ?_)
               · skip
                 refine zg Tryd.func44 #[.agg #[.bool t164, .int .u64 t165, .int .u64 t166]] ?_
                 with_reducible refine (address_size.calls t164 t165 t166 t169 _ A8.out).mono ?_
                 rintro e w69 ⟨rfl, hb⟩
                 refine ⟨_, rfl, ?_⟩
                 replace BK160 := Aside0.mk (blk_below (g := gb160) (o := .cells #[.bool false, .int .u64 0, .int .u64 0, .int .i64 0] 30 (0, 0)) (zK BK160) hb)
                 replace BK168 := Aside0.mk (blk_below (g := gb168) (o := .cells #[.bool t164, .int .u64 t165, .int .u64 t166] 25 (0, 0)) (zK BK168) hb)
                 replace HB := Aside0.mk (below_step (zB HB) hb)
                 (try clear hb)
                 refine hK.out _ _ ⟨zc BK168 0, zc BK168 1, zc BK168 2⟩ (fun hHeld => ?_)
                 clear hK K
                 refine zn 32 ?_; refine zp0 3 33 ?_; refine zo0 4 9 (fun K hK => ?_)
                 refine box_step ?hg (N := 9) ?hd (cs := #[.bool false, .int .u64 0, .int .u64 0, .int .i64 0]) (t := 30) ?hr ?_; (case hd => rfl); (case hg => rfl); (case hr => first | (go_simp; done) | (go_simp; rfl))
                 intro gb170 hg w70 hbox hb
                 have BK170 := Aside0.mk (hbox)
                 have GW170 := Aside0.mk ((by rw [hg]; exact (below_size (zB HB)) : w.heap.size ≤ gb170))
                 have GE170 := Aside0.mk ((by rw [hg]; exact (below_size (zB HB)) : w.heap.size ≤ gb170))
                 replace HB := Aside0.mk (below_step (zB HB) hb)
                 have NB160_170 := Aside0.mk ((by rw [hg]; exact Nat.ne_of_lt (blk_lt (g := gb160) (o := .cells #[.bool false, .int .u64 0, .int .u64 0, .int .i64 0] 30 (0, 0)) (zK BK160)) : gb160 ≠ gb170))
                 have NB170_160 := Aside0.mk ((by rw [hg]; exact Nat.ne_of_gt (blk_lt (g := gb160) (o := .cells #[.bool false, .int .u64 0, .int .u64 0, .int .i64 0] 30 (0, 0)) (zK BK160)) : gb170 ≠ gb160))
                 replace BK160 := Aside0.mk (blk_below (g := gb160) (o := .cells #[.bool false, .int .u64 0, .int .u64 0, .int .i64 0] 30 (0, 0)) (zK BK160) hb)
                 have NB168_170 := Aside0.mk ((by rw [hg]; exact Nat.ne_of_lt (blk_lt (g := gb168) (o := .cells #[.bool t164, .int .u64 t165, .int .u64 t166] 25 (0, 0)) (zK BK168)) : gb168 ≠ gb170))
                 have NB170_168 := Aside0.mk ((by rw [hg]; exact Nat.ne_of_gt (blk_lt (g := gb168) (o := .cells #[.bool t164, .int .u64 t165, .int .u64 t166] 25 (0, 0)) (zK BK168)) : gb170 ≠ gb168))
                 replace BK168 := Aside0.mk (blk_below (g := gb168) (o := .cells #[.bool t164, .int .u64 t165, .int .u64 t166] 25 (0, 0)) (zK BK168) hb)
                 clear hb hbox hg
                 refine hK.out _ _ ⟨zc BK168 0, zc BK168 1, zc BK168 2⟩ (fun hHeld => ?_)
                 clear hK K
                 refine zn 9 ?_
                 exact norm_ (by simp only [putAll, Act.put, List.setIfInBounds_toArray, List.set_cons_zero, List.set_cons_succ]) (hCont (gb170) _ ⟨hHeld, (zK BK160), (zK BK168), (zK BK170), GW170.out, GE170.out, NB160_170.out, NB170_160.out, NB168_170.out, NB170_168.out, (zB HB)⟩)
               · skip
                 refine box_step ?hg (N := 9) ?hd (cs := #[.bool false, .int .u64 0, .int .u64 0, .int .i64 0]) (t := 30) ?hr ?_; (case hd => rfl); (case hg => rfl); (case hr => first | (go_simp; done) | (go_simp; rfl))
                 intro gb170 hg w69 hbox hb
                 have BK170 := Aside0.mk (hbox)
                 have GW170 := Aside0.mk ((by rw [hg]; exact (below_size (zB HB)) : w.heap.size ≤ gb170))
                 have GE170 := Aside0.mk ((by rw [hg]; exact (below_size (zB HB)) : w.heap.size ≤ gb170))
                 replace HB := Aside0.mk (below_step (zB HB) hb)
                 have NB160_170 := Aside0.mk ((by rw [hg]; exact Nat.ne_of_lt (blk_lt (g := gb160) (o := .cells #[.bool false, .int .u64 0, .int .u64 0, .int .i64 0] 30 (0, 0)) (zK BK160)) : gb160 ≠ gb170))
                 have NB170_160 := Aside0.mk ((by rw [hg]; exact Nat.ne_of_gt (blk_lt (g := gb160) (o := .cells #[.bool false, .int .u64 0, .int .u64 0, .int .i64 0] 30 (0, 0)) (zK BK160)) : gb170 ≠ gb160))
                 replace BK160 := Aside0.mk (blk_below (g := gb160) (o := .cells #[.bool false, .int .u64 0, .int .u64 0, .int .i64 0] 30 (0, 0)) (zK BK160) hb)
                 have NB168_170 := Aside0.mk ((by rw [hg]; exact Nat.ne_of_lt (blk_lt (g := gb168) (o := .cells #[.bool t164, .int .u64 t165, .int .u64 t166] 25 (0, 0)) (zK BK168)) : gb168 ≠ gb170))
                 have NB170_168 := Aside0.mk ((by rw [hg]; exact Nat.ne_of_gt (blk_lt (g := gb168) (o := .cells #[.bool t164, .int .u64 t165, .int .u64 t166] 25 (0, 0)) (zK BK168)) : gb170 ≠ gb168))
                 replace BK168 := Aside0.mk (blk_below (g := gb168) (o := .cells #[.bool t164, .int .u64 t165, .int .u64 t166] 25 (0, 0)) (zK BK168) hb)
                 clear hb hbox hg
                 refine hK.out _ _ ⟨zc BK168 0, zc BK168 1, zc BK168 2⟩ (fun hHeld => ?_)
                 clear hK K
                 refine zn 9 ?_; refine zo0 2 32 (fun K hK => ?_)
                 refine zg Tryd.func44 #[.agg #[.bool t164, .int .u64 t165, .int .u64 t166]] ?_
                 with_reducible refine (address_size.calls t164 t165 t166 t169 _ A8.out).mono ?_
                 rintro e w70 ⟨rfl, hb⟩
                 refine ⟨_, rfl, ?_⟩
                 replace BK160 := Aside0.mk (blk_below (g := gb160) (o := .cells #[.bool false, .int .u64 0, .int .u64 0, .int .i64 0] 30 (0, 0)) (zK BK160) hb)
                 replace BK168 := Aside0.mk (blk_below (g := gb168) (o := .cells #[.bool t164, .int .u64 t165, .int .u64 t166] 25 (0, 0)) (zK BK168) hb)
                 replace BK170 := Aside0.mk (blk_below (g := gb170) (o := .cells #[.bool false, .int .u64 0, .int .u64 0, .int .i64 0] 30 (0, 0)) (zK BK170) hb)
                 replace HB := Aside0.mk (below_step (zB HB) hb)
                 (try clear hb)
                 refine hK.out _ _ ⟨zc BK168 0, zc BK168 1, zc BK168 2⟩ (fun hHeld => ?_)
                 clear hK K
                 refine zn 32 ?_; refine zp0 3 33 ?_
                 exact norm_ (by simp only [putAll, Act.put, List.setIfInBounds_toArray, List.set_cons_zero, List.set_cons_succ]) (hCont (gb170) _ ⟨hHeld, (zK BK160), (zK BK168), (zK BK170), GW170.out, GE170.out, NB160_170.out, NB170_160.out, NB168_170.out, NB170_168.out, (zB HB)⟩)
             rintro gb170 w71 ⟨hS_, h0_, h1_, h2_, h3_, h4_, h5_, h6_, h7_, h8_, h9_⟩
             have n0_ : Aside0 (w71.heap[gb160]? = some (.cells #[.bool false, .int .u64 0, .int .u64 0, .int .i64 0] 30 (0, 0))) := ⟨h0_⟩
             have n1_ : Aside0 (w71.heap[gb168]? = some (.cells #[.bool t164, .int .u64 t165, .int .u64 t166] 25 (0, 0))) := ⟨h1_⟩
             have n2_ : Aside0 (w71.heap[gb170]? = some (.cells #[.bool false, .int .u64 0, .int .u64 0, .int .i64 0] 30 (0, 0))) := ⟨h2_⟩
             have n3_ : Aside0 (w.heap.size ≤ gb170) := ⟨h3_⟩
             have n4_ : Aside0 (w.heap.size ≤ gb170) := ⟨h4_⟩
             have n5_ : Aside0 (gb160 ≠ gb170) := ⟨h5_⟩
             have n6_ : Aside0 (gb170 ≠ gb160) := ⟨h6_⟩
             have n7_ : Aside0 (gb168 ≠ gb170) := ⟨h7_⟩
             have n8_ : Aside0 (gb170 ≠ gb168) := ⟨h8_⟩
             have n9_ : Aside0 (Below w.heap.size w w71) := ⟨h9_⟩
             clear BK160
             clear BK168
             clear HB
             clear h0_ h1_ h2_ h3_ h4_ h5_ h6_ h7_ h8_ h9_
             have BK160 := n0_
             have BK168 := n1_
             have BK170 := n2_
             have GW170 := n3_
             have GE170 := n4_
             have NB160_170 := n5_
             have NB170_160 := n6_
             have NB168_170 := n7_
             have NB170_168 := n8_
             have HB := n9_
             clear n0_ n1_ n2_ n3_ n4_ n5_ n6_ n7_ n8_ n9_
             have hHeld : w71.cell? ⟨gb168, 0, none⟩ = some (.bool t164) ∧ w71.cell? ⟨gb168, 1, none⟩ = some (.int .u64 t165) ∧ w71.cell? ⟨gb168, 2, none⟩ = some (.int .u64 t166) := hS_
             refine norm_ (a' := ?_) ?_ ?_
             rotate_left
             · simp only [putAll, Act.put, List.setIfInBounds_toArray, List.set_cons_zero, List.set_cons_succ]
               rfl
             refine one_ (i := 5) (N := none) #[true, true, true, true, true, true] rfl rfl (by kernel_rfl) (by decide) (fun K hK => ?_)
             have hs72 : w71.cell? ⟨gb170, 0, none⟩ = some (.bool false) := zc BK170 0
             have hfs72 := blk_frozen BK170.out 0
             have hns72_0 := NB160_170.out
             have hns72_1 := NB168_170.out
             have hms72_0 := NB170_160.out
             have hms72_1 := NB170_168.out
             have hs73 : w71.cell? ⟨gb170, 1, none⟩ = some (.int .u64 0) := zc BK170 1
             have hfs73 := blk_frozen BK170.out 1
             have hns73_0 := NB160_170.out
             have hns73_1 := NB168_170.out
             have hms73_0 := NB170_160.out
             have hms73_1 := NB170_168.out
             have hs74 : w71.cell? ⟨gb170, 2, none⟩ = some (.int .u64 0) := zc BK170 2
             have hfs74 := blk_frozen BK170.out 2
             have hns74_0 := NB160_170.out
             have hns74_1 := NB168_170.out
             have hms74_0 := NB170_160.out
             have hms74_1 := NB170_168.out
             have hs75 : w71.cell? ⟨gb170, 3, none⟩ = some (.int .i64 0) := zc BK170 3
             have hfs75 := blk_frozen BK170.out 3
             have hns75_0 := NB160_170.out
             have hns75_1 := NB168_170.out
             have hms75_0 := NB170_160.out
             have hms75_1 := NB170_168.out
             refine skip_ (w1 := ?_) (by rfl) rfl ?_ ?_
             rotate_left
             · go_simp
               rfl
             refine hK.out _ _ ⟨((cell_far (p := ⟨gb170, _, none⟩) NB168_170.out _).trans (((cell_far (p := ⟨gb170, _, none⟩) NB168_170.out _).trans (((cell_far (p := ⟨gb170, _, none⟩) NB168_170.out _).trans (((cell_far (p := ⟨gb170, _, none⟩) NB168_170.out _).trans (hHeld.1)))))))), ((cell_far (p := ⟨gb170, _, none⟩) NB168_170.out _).trans (((cell_far (p := ⟨gb170, _, none⟩) NB168_170.out _).trans (((cell_far (p := ⟨gb170, _, none⟩) NB168_170.out _).trans (((cell_far (p := ⟨gb170, _, none⟩) NB168_170.out _).trans (hHeld.2.1)))))))), ((cell_far (p := ⟨gb170, _, none⟩) NB168_170.out _).trans (((cell_far (p := ⟨gb170, _, none⟩) NB168_170.out _).trans (((cell_far (p := ⟨gb170, _, none⟩) NB168_170.out _).trans (((cell_far (p := ⟨gb170, _, none⟩) NB168_170.out _).trans (hHeld.2.2))))))))⟩ (fun hHeld => ?_)
             clear hK K
             refine zd0 ?_
             try go_wp2_with (first | ((with_reducible refine gate_callee (f := 45) rfl ?_); refine goesL_ (some 37) rfl rfl Tryd.func45 (by kernel_rfl) rfl #[.string t162] rfl (by (try simp only [List.map_toArray, List.map_cons, List.map_nil]); first | done | rfl | (simp only [List.length_drop, List.length_take]; rfl)) ?_; (with_reducible refine (address_digits.calls k t162 t171 true _ A10.out).mono ?_); rintro e w76 ⟨rfl, hb⟩; refine ⟨_, rfl, ?_⟩; replace BK160 := Aside0.mk (blk_below (g := gb160) (o := .cells #[.bool false, .int .u64 0, .int .u64 0, .int .i64 0] 30 (0, 0)) (by refine zL ?_; refine blk_far ?_ NB160_170.out _; refine zL ?_; refine blk_far ?_ NB160_170.out _; refine zL ?_; refine blk_far ?_ NB160_170.out _; refine zL ?_; refine blk_far ?_ NB160_170.out _; refine zL ?_; exact BK160.out) hb); replace BK168 := Aside0.mk (blk_below (g := gb168) (o := .cells #[.bool t164, .int .u64 t165, .int .u64 t166] 25 (0, 0)) (by refine zL ?_; refine blk_far ?_ NB168_170.out _; refine zL ?_; refine blk_far ?_ NB168_170.out _; refine zL ?_; refine blk_far ?_ NB168_170.out _; refine zL ?_; refine blk_far ?_ NB168_170.out _; refine zL ?_; exact BK168.out) hb); replace BK170 := Aside0.mk (blk_below (g := gb170) (o := .cells #[.bool t164, .int .u64 t165, .int .u64 t166, .int .i64 t169] 30 (0, 0)) (by refine zL ?_; refine blk_put (cs := #[.bool t164, .int .u64 t165, .int .u64 t166, .int .i64 0]) ?_ 3 _ rfl; refine zL ?_; refine blk_put (cs := #[.bool t164, .int .u64 t165, .int .u64 0, .int .i64 0]) ?_ 2 _ rfl; refine zL ?_; refine blk_put (cs := #[.bool t164, .int .u64 0, .int .u64 0, .int .i64 0]) ?_ 1 _ rfl; refine zL ?_; refine blk_put (cs := #[.bool false, .int .u64 0, .int .u64 0, .int .i64 0]) ?_ 0 _ rfl; refine zL ?_; exact BK170.out) hb); replace HB := Aside0.mk (below_step (zB HB) hb); (try clear hb); have hnb77 := NB168_170.out; have hnc77 := NB170_168.out; obtain ⟨hcz78_0, hcz78_1, hcz78_2⟩ := zc3 BK168; obtain ⟨hfz78_0, hfz78_1, hfz78_2⟩ := zf3 BK168) | ((with_reducible refine gate_callee (f := 44) rfl ?_); refine goesL_ (some 47) rfl rfl Tryd.func44 (by kernel_rfl) rfl #[.agg #[.bool t164, .int .u64 t165, .int .u64 t166]] rfl (by (try simp only [List.map_toArray, List.map_cons, List.map_nil]); first | done | rfl | (simp only [List.length_drop, List.length_take]; rfl)) ?_; (with_reducible refine (address_size.calls t164 t165 t166 t173 _ A12.out).mono ?_); rintro e w79 ⟨rfl, hb⟩; refine ⟨_, rfl, ?_⟩; replace BK160 := Aside0.mk (blk_below (g := gb160) (o := .cells #[.bool false, .int .u64 0, .int .u64 0, .int .i64 0] 30 (0, 0)) (zK BK160) hb); replace BK168 := Aside0.mk (blk_below (g := gb168) (o := .cells #[.bool t164, .int .u64 t165, .int .u64 t166] 25 (0, 0)) (zK BK168) hb); replace BK170 := Aside0.mk (blk_below (g := gb170) (o := .cells #[.bool t164, .int .u64 t165, .int .u64 t166, .int .i64 t169] 30 (0, 0)) (zK BK170) hb); replace HB := Aside0.mk (below_step (zB HB) hb); (try clear hb); have hnb80 := NB170_160.out; have hnc80 := NB160_170.out; obtain ⟨hcz81_0, hcz81_1, hcz81_2, hcz81_3⟩ := zc4 BK170; obtain ⟨hfz81_0, hfz81_1, hfz81_2, hfz81_3⟩ := zf4 BK170) | ((with_reducible refine gate_callee (f := 31) rfl ?_); refine goesL_ (some 53) rfl rfl Tryd.func31 (by kernel_rfl) rfl #[.agg #[.bool t164, .int .u64 t165, .int .u64 t166, .int .i64 t171]] rfl (by (try simp only [List.map_toArray, List.map_cons, List.map_nil]); first | done | rfl | (simp only [List.length_drop, List.length_take]; rfl)) ?_; (with_reducible refine (address_ValidPrefix.calls t164 t165 t166 t171 false _ A35.out).mono ?_); rintro e w82 ⟨rfl, hb⟩; refine ⟨_, rfl, ?_⟩; replace BK160 := Aside0.mk (blk_below (g := gb160) (o := .cells #[.bool false, .int .u64 0, .int .u64 0, .int .i64 0] 30 (0, 0)) (by refine zL ?_; refine blk_far ?_ NB160_170.out _; refine zL ?_; exact BK160.out) hb); replace BK168 := Aside0.mk (blk_below (g := gb168) (o := .cells #[.bool t164, .int .u64 t165, .int .u64 t166] 25 (0, 0)) (by refine zL ?_; refine blk_far ?_ NB168_170.out _; refine zL ?_; exact BK168.out) hb); replace BK170 := Aside0.mk (blk_below (g := gb170) (o := .cells #[.bool t164, .int .u64 t165, .int .u64 t166, .int .i64 t171] 30 (0, 0)) (by refine zL ?_; refine blk_put (cs := #[.bool t164, .int .u64 t165, .int .u64 t166, .int .i64 t169]) ?_ 3 _ rfl; refine zL ?_; exact BK170.out) hb); replace HB := Aside0.mk (below_step (zB HB) hb); (try clear hb); obtain ⟨hcz83_0, hcz83_1, hcz83_2, hcz83_3⟩ := zc4 BK160; obtain ⟨hfz83_0, hfz83_1, hfz83_2, hfz83_3⟩ := zf4 BK160))
             refine bodyPost_ret (results_ct rfl _ _ gb160 30 #[.bool false, .int .u64 0, .int .u64 0, .int .i64 0] (0, 0) _ rfl (by refine zL ?_; refine blk_put (cs := #[.bool false, .int .u64 0, .int .u64 0, .int .i64 0]) ?_ 3 _ rfl; refine zL ?_; refine blk_put (cs := #[.bool false, .int .u64 0, .int .u64 0, .int .i64 0]) ?_ 2 _ rfl; refine zL ?_; refine blk_put (cs := #[.bool false, .int .u64 0, .int .u64 0, .int .i64 0]) ?_ 1 _ rfl; refine zL ?_; refine blk_put (cs := #[.bool false, .int .u64 0, .int .u64 0, .int .i64 0]) ?_ 0 _ rfl; refine zL ?_; exact BK160.out) Tryd.underlying30 rfl (by kernel_rfl)) rfl ?_
             exact ⟨by first | rfl | (simp [errW_none, errW_some] <;> rfl) | (simp [*, errW_none, errW_some] <;> rfl), by repeat (first | (with_reducible first | exact HB.out | apply below_alloc | apply pw_below_drewN | apply below_drew1 | refine below_set ?_ GE160.out | refine below_set ?_ GE168.out | refine below_set ?_ GE170.out) | exact HB.out)⟩
       · replace c11 := Bool.eq_false_iff.mpr c11
         subst c11
         rw [if_neg zF] at H
         simp only [Option.some.injEq, Prod.mk.injEq] at H
         obtain ⟨rfl, rfl, rfl, rfl, rfl⟩ := H
         go_enter Tryd.func13, Tryd.ntmps13
         try go_wp2_with (first | ((with_reducible refine gate_dst (N := 2) rfl ?_); refine zx 2 #[.bool false, .int .u64 0, .int .u64 0, .int .i64 0] 30 ?_; intro gb160 hg w84 hbox hb; have BK160 := Aside0.mk (hbox); have GW160 := Aside0.mk ((by rw [hg]; exact (below_size (zB HB)) : w.heap.size ≤ gb160)); have GE160 := Aside0.mk ((by rw [hg]; exact (below_size (zB HB)) : w.heap.size ≤ gb160)); replace HB := Aside0.mk (below_step (zB HB) hb); clear hb hbox hg) | ((with_reducible refine gate_callee (f := 43) rfl ?_); refine goesL_ (some 18) rfl rfl Tryd.func43 (by kernel_rfl) rfl #[.string a0, .string (⟨#[47]⟩ : ByteArray)] rfl (by (try simp only [List.map_toArray, List.map_cons, List.map_nil]); first | done | rfl | (simp only [List.length_drop, List.length_take]; rfl)) ?_; (with_reducible refine (strings_Cut.calls a0 (⟨#[47]⟩ : ByteArray) t161 t162 true _ A5.out (WOK.below hW_ (zB HB))).mono ?_); rintro e w85 ⟨rfl, hb⟩; refine ⟨_, rfl, ?_⟩; replace BK160 := Aside0.mk (blk_below (g := gb160) (o := .cells #[.bool false, .int .u64 0, .int .u64 0, .int .i64 0] 30 (0, 0)) (zK BK160) hb); replace HB := Aside0.mk (below_step (zB HB) hb); (try clear hb)) | ((with_reducible refine gate_callee (f := 11) rfl ?_); refine goesL_ (some 24) rfl rfl Tryd.func11 (by kernel_rfl) rfl #[.string t161] rfl (by (try simp only [List.map_toArray, List.map_cons, List.map_nil]); first | done | rfl | (simp only [List.length_drop, List.length_take]; rfl)) ?_; (with_reducible refine (address_Parse.calls k t161 t164 t165 t166 t167 _ A6.out (WOK.below hW_ (zB HB))).mono ?_); rintro e w86 ⟨rfl, hb⟩; refine ⟨_, rfl, ?_⟩; replace BK160 := Aside0.mk (blk_below (g := gb160) (o := .cells #[.bool false, .int .u64 0, .int .u64 0, .int .i64 0] 30 (0, 0)) (zK BK160) hb); replace HB := Aside0.mk (below_step (zB HB) hb); (try clear hb)) | ((with_reducible refine gate_dst (N := 7) rfl ?_); refine zx 7 #[.bool false, .int .u64 0, .int .u64 0] 25 ?_; intro gb168 hg w87 hbox hb; have BK168 := Aside0.mk (hbox); have GW168 := Aside0.mk ((by rw [hg]; exact (below_size (zB HB)) : w.heap.size ≤ gb168)); have GE168 := Aside0.mk ((by rw [hg]; exact (below_size (zB HB)) : w.heap.size ≤ gb168)); replace HB := Aside0.mk (below_step (zB HB) hb); have NB160_168 := Aside0.mk ((by rw [hg]; exact Nat.ne_of_lt (blk_lt (g := gb160) (o := .cells #[.bool false, .int .u64 0, .int .u64 0, .int .i64 0] 30 (0, 0)) (zK BK160)) : gb160 ≠ gb168)); have NB168_160 := Aside0.mk ((by rw [hg]; exact Nat.ne_of_gt (blk_lt (g := gb160) (o := .cells #[.bool false, .int .u64 0, .int .u64 0, .int .i64 0] 30 (0, 0)) (zK BK160)) : gb168 ≠ gb160)); replace BK160 := Aside0.mk (blk_below (g := gb160) (o := .cells #[.bool false, .int .u64 0, .int .u64 0, .int .i64 0] 30 (0, 0)) (zK BK160) hb); clear hb hbox hg; have hnb88 := NB168_160.out; have hnc88 := NB160_168.out; obtain ⟨hcz89_0, hcz89_1, hcz89_2⟩ := zc3 BK168; obtain ⟨hfz89_0, hfz89_1, hfz89_2⟩ := zf3 BK168))
         have n0_ : Aside0 ((((w87.setCell ⟨gb168, 0, none⟩ (.bool t164)).setCell ⟨gb168, 1, none⟩ (.int .u64 t165)).setCell ⟨gb168, 2, none⟩ (.int .u64 t166)).heap[gb160]? = some (.cells #[.bool false, .int .u64 0, .int .u64 0, .int .i64 0] 30 (0, 0))) := ⟨by refine zL ?_; refine blk_far ?_ NB160_168.out _; refine zL ?_; refine blk_far ?_ NB160_168.out _; refine zL ?_; refine blk_far ?_ NB160_168.out _; refine zL ?_; exact BK160.out⟩
         have n1_ : Aside0 ((((w87.setCell ⟨gb168, 0, none⟩ (.bool t164)).setCell ⟨gb168, 1, none⟩ (.int .u64 t165)).setCell ⟨gb168, 2, none⟩ (.int .u64 t166)).heap[gb168]? = some (.cells #[.bool t164, .int .u64 t165, .int .u64 t166] 25 (0, 0))) := ⟨by refine zL ?_; refine blk_put (cs := #[.bool t164, .int .u64 t165, .int .u64 0]) ?_ 2 _ rfl; refine zL ?_; refine blk_put (cs := #[.bool t164, .int .u64 0, .int .u64 0]) ?_ 1 _ rfl; refine zL ?_; refine blk_put (cs := #[.bool false, .int .u64 0, .int .u64 0]) ?_ 0 _ rfl; refine zL ?_; exact BK168.out⟩
         have n2_ : Aside0 (Below w.heap.size w (((w87.setCell ⟨gb168, 0, none⟩ (.bool t164)).setCell ⟨gb168, 1, none⟩ (.int .u64 t165)).setCell ⟨gb168, 2, none⟩ (.int .u64 t166))) := ⟨zB HB⟩
         (try clear BK160)
         (try clear BK168)
         (try clear HB)
         generalize (((w87.setCell ⟨gb168, 0, none⟩ (.bool t164)).setCell ⟨gb168, 1, none⟩ (.int .u64 t165)).setCell ⟨gb168, 2, none⟩ (.int .u64 t166)) = w90 at n0_ n1_ n2_ ⊢
         have BK160 := n0_
         have BK168 := n1_
         have HB := n2_
         clear n0_ n1_ n2_
         replace BK160 := Aside0.mk (blk_drew BK160.out)
         replace BK168 := Aside0.mk (blk_drew BK168.out)
         replace HB := Aside0.mk (below_drew1 HB.out)
         refine start_ (n := 6) (S := fun w' => w'.cell? ⟨gb168, 0, none⟩ = some (.bool t164) ∧ w'.cell? ⟨gb168, 1, none⟩ = some (.int .u64 t165) ∧ w'.cell? ⟨gb168, 2, none⟩ = some (.int .u64 t166)) (ds := []) #[false, false, false, false, false, false] (by kernel_rfl) rfl rfl ⟨zc BK168 0, zc BK168 1, zc BK168 2⟩ (fun hHeld => ?_)
         generalize w90.drew = w91 at BK160 BK168 HB hHeld ⊢
         refine zt0 0 30 hHeld ?_; refine zt0 1 31 hHeld ?_
         refine join_ (σ := Nat) 1 #[true, true, true, true, true, false] (fun s_ => [(32, .int .i64 t169), (9, .pointer (some ⟨s_, 0, none⟩)), (33, .agg #[.bool t164, .int .u64 t165, .int .u64 t166, .int .i64 t169])]) (fun s_ w' => (w'.cell? ⟨gb168, 0, none⟩ = some (.bool t164) ∧ w'.cell? ⟨gb168, 1, none⟩ = some (.int .u64 t165) ∧ w'.cell? ⟨gb168, 2, none⟩ = some (.int .u64 t166)) ∧ (w'.heap[gb160]? = some (.cells #[.bool false, .int .u64 0, .int .u64 0, .int .i64 0] 30 (0, 0))) ∧ (w'.heap[gb168]? = some (.cells #[.bool t164, .int .u64 t165, .int .u64 t166] 25 (0, 0))) ∧ (w'.heap[s_]? = some (.cells #[.bool false, .int .u64 0, .int .u64 0, .int .i64 0] 30 (0, 0))) ∧ (w.heap.size ≤ s_) ∧ (w.heap.size ≤ s_) ∧ (gb160 ≠ s_) ∧ (s_ ≠ gb160) ∧ (gb168 ≠ s_) ∧ (s_ ≠ gb168) ∧ (Below w.heap.size w w')) ?_ ?_
         rotate_left
         · intro hCont
           refine two_ (i := 2) (j := 4) (Ni := some 32) (Nj := some 9) #[true, true, true, false, false, false] #[true, true, false, false, true, false] rfl rfl rfl rfl (by kernel_rfl) (by decide) (by decide) (fun K hK => ?_) (fun K hK => ?_)
           · skip
             refine zg Tryd.func44 #[.agg #[.bool t164, .int .u64 t165, .int .u64 t166]] ?_
             with_reducible refine (address_size.calls t164 t165 t166 t169 _ A8.out).mono ?_
             rintro e w92 ⟨rfl, hb⟩
             refine ⟨_, rfl, ?_⟩
             replace BK160 := Aside0.mk (blk_below (g := gb160) (o := .cells #[.bool false, .int .u64 0, .int .u64 0, .int .i64 0] 30 (0, 0)) (zK BK160) hb)
             replace BK168 := Aside0.mk (blk_below (g := gb168) (o := .cells #[.bool t164, .int .u64 t165, .int .u64 t166] 25 (0, 0)) (zK BK168) hb)
             replace HB := Aside0.mk (below_step (zB HB) hb)
             (try clear hb)
             refine hK.out _ _ ⟨zc BK168 0, zc BK168 1, zc BK168 2⟩ (fun hHeld => ?_)
             clear hK K
             refine zn 32 ?_; refine zp0 3 33 ?_; refine zo0 4 9 (fun K hK => ?_)
             refine box_step ?hg (N := 9) ?hd (cs := #[.bool false, .int .u64 0, .int .u64 0, .int .i64 0]) (t := 30) ?hr ?_; (case hd => rfl); (case hg => rfl); (case hr => first | (go_simp; done) | (go_simp; rfl))
             intro gb170 hg w93 hbox hb
             have BK170 := Aside0.mk (hbox)
             have GW170 := Aside0.mk ((by rw [hg]; exact (below_size (zB HB)) : w.heap.size ≤ gb170))
             have GE170 := Aside0.mk ((by rw [hg]; exact (below_size (zB HB)) : w.heap.size ≤ gb170))
             replace HB := Aside0.mk (below_step (zB HB) hb)
             have NB160_170 := Aside0.mk ((by rw [hg]; exact Nat.ne_of_lt (blk_lt (g := gb160) (o := .cells #[.bool false, .int .u64 0, .int .u64 0, .int .i64 0] 30 (0, 0)) (zK BK160)) : gb160 ≠ gb170))
             have NB170_160 := Aside0.mk ((by rw [hg]; exact Nat.ne_of_gt (blk_lt (g := gb160) (o := .cells #[.bool false, .int .u64 0, .int .u64 0, .int .i64 0] 30 (0, 0)) (zK BK160)) : gb170 ≠ gb160))
             replace BK160 := Aside0.mk (blk_below (g := gb160) (o := .cells #[.bool false, .int .u64 0, .int .u64 0, .int .i64 0] 30 (0, 0)) (zK BK160) hb)
             have NB168_170 := Aside0.mk ((by rw [hg]; exact Nat.ne_of_lt (blk_lt (g := gb168) (o := .cells #[.bool t164, .int .u64 t165, .int .u64 t166] 25 (0, 0)) (zK BK168)) : gb168 ≠ gb170))
             have NB170_168 := Aside0.mk ((by rw [hg]; exact Nat.ne_of_gt (blk_lt (g := gb168) (o := .cells #[.bool t164, .int .u64 t165, .int .u64 t166] 25 (0, 0)) (zK BK168)) : gb170 ≠ gb168))
             replace BK168 := Aside0.mk (blk_below (g := gb168) (o := .cells #[.bool t164, .int .u64 t165, .int .u64 t166] 25 (0, 0)) (zK BK168) hb)
             clear hb hbox hg
             refine hK.out _ _ ⟨zc BK168 0, zc BK168 1, zc BK168 2⟩ (fun hHeld => ?_)
             clear hK K
             refine zn 9 ?_
             exact norm_ (by simp only [putAll, Act.put, List.setIfInBounds_toArray, List.set_cons_zero, List.set_cons_succ]) (hCont (gb170) _ ⟨hHeld, (zK BK160), (zK BK168), (zK BK170), GW170.out, GE170.out, NB160_170.out, NB170_160.out, NB168_170.out, NB170_168.out, (zB HB)⟩)
           · skip
             refine box_step ?hg (N := 9) ?hd (cs := #[.bool false, .int .u64 0, .int .u64 0, .int .i64 0]) (t := 30) ?hr ?_; (case hd => rfl); (case hg => rfl); (case hr => first | (go_simp; done) | (go_simp; rfl))
             intro gb170 hg w92 hbox hb
             have BK170 := Aside0.mk (hbox)
             have GW170 := Aside0.mk ((by rw [hg]; exact (below_size (zB HB)) : w.heap.size ≤ gb170))
             have GE170 := Aside0.mk ((by rw [hg]; exact (below_size (zB HB)) : w.heap.size ≤ gb170))
             replace HB := Aside0.mk (below_step (zB HB) hb)
             have NB160_170 := Aside0.mk ((by rw [hg]; exact Nat.ne_of_lt (blk_lt (g := gb160) (o := .cells #[.bool false, .int .u64 0, .int .u64 0, .int .i64 0] 30 (0, 0)) (zK BK160)) : gb160 ≠ gb170))
             have NB170_160 := Aside0.mk ((by rw [hg]; exact Nat.ne_of_gt (blk_lt (g := gb160) (o := .cells #[.bool false, .int .u64 0, .int .u64 0, .int .i64 0] 30 (0, 0)) (zK BK160)) : gb170 ≠ gb160))
             replace BK160 := Aside0.mk (blk_below (g := gb160) (o := .cells #[.bool false, .int .u64 0, .int .u64 0, .int .i64 0] 30 (0, 0)) (zK BK160) hb)
             have NB168_170 := Aside0.mk ((by rw [hg]; exact Nat.ne_of_lt (blk_lt (g := gb168) (o := .cells #[.bool t164, .int .u64 t165, .int .u64 t166] 25 (0, 0)) (zK BK168)) : gb168 ≠ gb170))
             have NB170_168 := Aside0.mk ((by rw [hg]; exact Nat.ne_of_gt (blk_lt (g := gb168) (o := .cells #[.bool t164, .int .u64 t165, .int .u64 t166] 25 (0, 0)) (zK BK168)) : gb170 ≠ gb168))
             replace BK168 := Aside0.mk (blk_below (g := gb168) (o := .cells #[.bool t164, .int .u64 t165, .int .u64 t166] 25 (0, 0)) (zK BK168) hb)
             clear hb hbox hg
             refine hK.out _ _ ⟨zc BK168 0, zc BK168 1, zc BK168 2⟩ (fun hHeld => ?_)
             clear hK K
             refine zn 9 ?_; refine zo0 2 32 (fun K hK => ?_)
             refine zg Tryd.func44 #[.agg #[.bool t164, .int .u64 t165, .int .u64 t166]] ?_
             with_reducible refine (address_size.calls t164 t165 t166 t169 _ A8.out).mono ?_
             rintro e w93 ⟨rfl, hb⟩
             refine ⟨_, rfl, ?_⟩
             replace BK160 := Aside0.mk (blk_below (g := gb160) (o := .cells #[.bool false, .int .u64 0, .int .u64 0, .int .i64 0] 30 (0, 0)) (zK BK160) hb)
             replace BK168 := Aside0.mk (blk_below (g := gb168) (o := .cells #[.bool t164, .int .u64 t165, .int .u64 t166] 25 (0, 0)) (zK BK168) hb)
             replace BK170 := Aside0.mk (blk_below (g := gb170) (o := .cells #[.bool false, .int .u64 0, .int .u64 0, .int .i64 0] 30 (0, 0)) (zK BK170) hb)
             replace HB := Aside0.mk (below_step (zB HB) hb)
             (try clear hb)
             refine hK.out _ _ ⟨zc BK168 0, zc BK168 1, zc BK168 2⟩ (fun hHeld => ?_)
             clear hK K
             refine zn 32 ?_; refine zp0 3 33 ?_
             exact norm_ (by simp only [putAll, Act.put, List.setIfInBounds_toArray, List.set_cons_zero, List.set_cons_succ]) (hCont (gb170) _ ⟨hHeld, (zK BK160), (zK BK168), (zK BK170), GW170.out, GE170.out, NB160_170.out, NB170_160.out, NB168_170.out, NB170_168.out, (zB HB)⟩)
         rintro gb170 w94 ⟨hS_, h0_, h1_, h2_, h3_, h4_, h5_, h6_, h7_, h8_, h9_⟩
         have n0_ : Aside0 (w94.heap[gb160]? = some (.cells #[.bool false, .int .u64 0, .int .u64 0, .int .i64 0] 30 (0, 0))) := ⟨h0_⟩
         have n1_ : Aside0 (w94.heap[gb168]? = some (.cells #[.bool t164, .int .u64 t165, .int .u64 t166] 25 (0, 0))) := ⟨h1_⟩
         have n2_ : Aside0 (w94.heap[gb170]? = some (.cells #[.bool false, .int .u64 0, .int .u64 0, .int .i64 0] 30 (0, 0))) := ⟨h2_⟩
         have n3_ : Aside0 (w.heap.size ≤ gb170) := ⟨h3_⟩
         have n4_ : Aside0 (w.heap.size ≤ gb170) := ⟨h4_⟩
         have n5_ : Aside0 (gb160 ≠ gb170) := ⟨h5_⟩
         have n6_ : Aside0 (gb170 ≠ gb160) := ⟨h6_⟩
         have n7_ : Aside0 (gb168 ≠ gb170) := ⟨h7_⟩
         have n8_ : Aside0 (gb170 ≠ gb168) := ⟨h8_⟩
         have n9_ : Aside0 (Below w.heap.size w w94) := ⟨h9_⟩
         clear BK160
         clear BK168
         clear HB
         clear h0_ h1_ h2_ h3_ h4_ h5_ h6_ h7_ h8_ h9_
         have BK160 := n0_
         have BK168 := n1_
         have BK170 := n2_
         have GW170 := n3_
         have GE170 := n4_
         have NB160_170 := n5_
         have NB170_160 := n6_
         have NB168_170 := n7_
         have NB170_168 := n8_
         have HB := n9_
         clear n0_ n1_ n2_ n3_ n4_ n5_ n6_ n7_ n8_ n9_
         have hHeld : w94.cell? ⟨gb168, 0, none⟩ = some (.bool t164) ∧ w94.cell? ⟨gb168, 1, none⟩ = some (.int .u64 t165) ∧ w94.cell? ⟨gb168, 2, none⟩ = some (.int .u64 t166) := hS_
         refine norm_ (a' := ?_) ?_ ?_
         rotate_left
         · simp only [putAll, Act.put, List.setIfInBounds_toArray, List.set_cons_zero, List.set_cons_succ]
           rfl
         refine one_ (i := 5) (N := none) #[true, true, true, true, true, true] rfl rfl (by kernel_rfl) (by decide) (fun K hK => ?_)
         have hs95 : w94.cell? ⟨gb170, 0, none⟩ = some (.bool false) := zc BK170 0
         have hfs95 := blk_frozen BK170.out 0
         have hns95_0 := NB160_170.out
         have hns95_1 := NB168_170.out
         have hms95_0 := NB170_160.out
         have hms95_1 := NB170_168.out
         have hs96 : w94.cell? ⟨gb170, 1, none⟩ = some (.int .u64 0) := zc BK170 1
         have hfs96 := blk_frozen BK170.out 1
         have hns96_0 := NB160_170.out
         have hns96_1 := NB168_170.out
         have hms96_0 := NB170_160.out
         have hms96_1 := NB170_168.out
         have hs97 : w94.cell? ⟨gb170, 2, none⟩ = some (.int .u64 0) := zc BK170 2
         have hfs97 := blk_frozen BK170.out 2
         have hns97_0 := NB160_170.out
         have hns97_1 := NB168_170.out
         have hms97_0 := NB170_160.out
         have hms97_1 := NB170_168.out
         have hs98 : w94.cell? ⟨gb170, 3, none⟩ = some (.int .i64 0) := zc BK170 3
         have hfs98 := blk_frozen BK170.out 3
         have hns98_0 := NB160_170.out
         have hns98_1 := NB168_170.out
         have hms98_0 := NB170_160.out
         have hms98_1 := NB170_168.out
         refine skip_ (w1 := ?_) (by rfl) rfl ?_ ?_
         rotate_left
         · go_simp
           rfl
         refine hK.out _ _ ⟨((cell_far (p := ⟨gb170, _, none⟩) NB168_170.out _).trans (((cell_far (p := ⟨gb170, _, none⟩) NB168_170.out _).trans (((cell_far (p := ⟨gb170, _, none⟩) NB168_170.out _).trans (((cell_far (p := ⟨gb170, _, none⟩) NB168_170.out _).trans (hHeld.1)))))))), ((cell_far (p := ⟨gb170, _, none⟩) NB168_170.out _).trans (((cell_far (p := ⟨gb170, _, none⟩) NB168_170.out _).trans (((cell_far (p := ⟨gb170, _, none⟩) NB168_170.out _).trans (((cell_far (p := ⟨gb170, _, none⟩) NB168_170.out _).trans (hHeld.2.1)))))))), ((cell_far (p := ⟨gb170, _, none⟩) NB168_170.out _).trans (((cell_far (p := ⟨gb170, _, none⟩) NB168_170.out _).trans (((cell_far (p := ⟨gb170, _, none⟩) NB168_170.out _).trans (((cell_far (p := ⟨gb170, _, none⟩) NB168_170.out _).trans (hHeld.2.2))))))))⟩ (fun hHeld => ?_)
         clear hK K
         refine zd0 ?_
         try go_wp2_with (first | ((with_reducible refine gate_callee (f := 45) rfl ?_); refine goesL_ (some 37) rfl rfl Tryd.func45 (by kernel_rfl) rfl #[.string t162] rfl (by (try simp only [List.map_toArray, List.map_cons, List.map_nil]); first | done | rfl | (simp only [List.length_drop, List.length_take]; rfl)) ?_; (with_reducible refine (address_digits.calls k t162 t171 false _ A10.out).mono ?_); rintro e w99 ⟨rfl, hb⟩; refine ⟨_, rfl, ?_⟩; replace BK160 := Aside0.mk (blk_below (g := gb160) (o := .cells #[.bool false, .int .u64 0, .int .u64 0, .int .i64 0] 30 (0, 0)) (by refine zL ?_; refine blk_far ?_ NB160_170.out _; refine zL ?_; refine blk_far ?_ NB160_170.out _; refine zL ?_; refine blk_far ?_ NB160_170.out _; refine zL ?_; refine blk_far ?_ NB160_170.out _; refine zL ?_; exact BK160.out) hb); replace BK168 := Aside0.mk (blk_below (g := gb168) (o := .cells #[.bool t164, .int .u64 t165, .int .u64 t166] 25 (0, 0)) (by refine zL ?_; refine blk_far ?_ NB168_170.out _; refine zL ?_; refine blk_far ?_ NB168_170.out _; refine zL ?_; refine blk_far ?_ NB168_170.out _; refine zL ?_; refine blk_far ?_ NB168_170.out _; refine zL ?_; exact BK168.out) hb); replace BK170 := Aside0.mk (blk_below (g := gb170) (o := .cells #[.bool t164, .int .u64 t165, .int .u64 t166, .int .i64 t169] 30 (0, 0)) (by refine zL ?_; refine blk_put (cs := #[.bool t164, .int .u64 t165, .int .u64 t166, .int .i64 0]) ?_ 3 _ rfl; refine zL ?_; refine blk_put (cs := #[.bool t164, .int .u64 t165, .int .u64 0, .int .i64 0]) ?_ 2 _ rfl; refine zL ?_; refine blk_put (cs := #[.bool t164, .int .u64 0, .int .u64 0, .int .i64 0]) ?_ 1 _ rfl; refine zL ?_; refine blk_put (cs := #[.bool false, .int .u64 0, .int .u64 0, .int .i64 0]) ?_ 0 _ rfl; refine zL ?_; exact BK170.out) hb); replace HB := Aside0.mk (below_step (zB HB) hb); (try clear hb); have hnb100 := NB160_170.out; have hnc100 := NB170_160.out; obtain ⟨hcz101_0, hcz101_1, hcz101_2, hcz101_3⟩ := zc4 BK160; obtain ⟨hfz101_0, hfz101_1, hfz101_2, hfz101_3⟩ := zf4 BK160))
         refine bodyPost_ret (results_ct rfl _ _ gb160 30 #[.bool false, .int .u64 0, .int .u64 0, .int .i64 0] (0, 0) _ rfl (by refine zL ?_; refine blk_put (cs := #[.bool false, .int .u64 0, .int .u64 0, .int .i64 0]) ?_ 3 _ rfl; refine zL ?_; refine blk_put (cs := #[.bool false, .int .u64 0, .int .u64 0, .int .i64 0]) ?_ 2 _ rfl; refine zL ?_; refine blk_put (cs := #[.bool false, .int .u64 0, .int .u64 0, .int .i64 0]) ?_ 1 _ rfl; refine zL ?_; refine blk_put (cs := #[.bool false, .int .u64 0, .int .u64 0, .int .i64 0]) ?_ 0 _ rfl; refine zL ?_; exact BK160.out) Tryd.underlying30 rfl (by kernel_rfl)) rfl ?_
         exact ⟨by first | rfl | (simp [errW_none, errW_some] <;> rfl) | (simp [*, errW_none, errW_some] <;> rfl), by repeat (first | (with_reducible first | exact HB.out | apply below_alloc | apply pw_below_drewN | apply below_drew1 | refine below_set ?_ GE160.out | refine below_set ?_ GE168.out | refine below_set ?_ GE170.out) | exact HB.out)⟩
     · replace c9 := Bool.eq_false_iff.mpr c9
       subst c9
       rw [if_neg zF] at H
       replace H := Option.bind_eq_some_iff.mp H
       obtain ⟨t175, A1020, H⟩ := H
       replace H : (if t175 = true then (some (t164, t165, t166, t169, 0)) else (some (false, 0, 0, 0, 2))) = some (r1, r2, r3, r4, r5) := H
       have A102 := Aside0.mk A1020
       clear A1020
       by_cases c103 : t175 = true
       · subst c103
         rw [if_pos rfl] at H
         simp only [Option.some.injEq, Prod.mk.injEq] at H
         obtain ⟨rfl, rfl, rfl, rfl, rfl⟩ := H
         go_enter Tryd.func13, Tryd.ntmps13
         try go_wp2_with (first | ((with_reducible refine gate_dst (N := 2) rfl ?_); refine zx 2 #[.bool false, .int .u64 0, .int .u64 0, .int .i64 0] 30 ?_; intro gb160 hg w104 hbox hb; have BK160 := Aside0.mk (hbox); have GW160 := Aside0.mk ((by rw [hg]; exact (below_size (zB HB)) : w.heap.size ≤ gb160)); have GE160 := Aside0.mk ((by rw [hg]; exact (below_size (zB HB)) : w.heap.size ≤ gb160)); replace HB := Aside0.mk (below_step (zB HB) hb); clear hb hbox hg) | ((with_reducible refine gate_callee (f := 43) rfl ?_); refine goesL_ (some 18) rfl rfl Tryd.func43 (by kernel_rfl) rfl #[.string a0, .string (⟨#[47]⟩ : ByteArray)] rfl (by (try simp only [List.map_toArray, List.map_cons, List.map_nil]); first | done | rfl | (simp only [List.length_drop, List.length_take]; rfl)) ?_; (with_reducible refine (strings_Cut.calls a0 (⟨#[47]⟩ : ByteArray) t161 t162 false _ A5.out (WOK.below hW_ (zB HB))).mono ?_); rintro e w105 ⟨rfl, hb⟩; refine ⟨_, rfl, ?_⟩; replace BK160 := Aside0.mk (blk_below (g := gb160) (o := .cells #[.bool false, .int .u64 0, .int .u64 0, .int .i64 0] 30 (0, 0)) (zK BK160) hb); replace HB := Aside0.mk (below_step (zB HB) hb); (try clear hb)) | ((with_reducible refine gate_callee (f := 11) rfl ?_); refine goesL_ (some 24) rfl rfl Tryd.func11 (by kernel_rfl) rfl #[.string t161] rfl (by (try simp only [List.map_toArray, List.map_cons, List.map_nil]); first | done | rfl | (simp only [List.length_drop, List.length_take]; rfl)) ?_; (with_reducible refine (address_Parse.calls k t161 t164 t165 t166 t167 _ A6.out (WOK.below hW_ (zB HB))).mono ?_); rintro e w106 ⟨rfl, hb⟩; refine ⟨_, rfl, ?_⟩; replace BK160 := Aside0.mk (blk_below (g := gb160) (o := .cells #[.bool false, .int .u64 0, .int .u64 0, .int .i64 0] 30 (0, 0)) (zK BK160) hb); replace HB := Aside0.mk (below_step (zB HB) hb); (try clear hb)) | ((with_reducible refine gate_dst (N := 7) rfl ?_); refine zx 7 #[.bool false, .int .u64 0, .int .u64 0] 25 ?_; intro gb168 hg w107 hbox hb; have BK168 := Aside0.mk (hbox); have GW168 := Aside0.mk ((by rw [hg]; exact (below_size (zB HB)) : w.heap.size ≤ gb168)); have GE168 := Aside0.mk ((by rw [hg]; exact (below_size (zB HB)) : w.heap.size ≤ gb168)); replace HB := Aside0.mk (below_step (zB HB) hb); have NB160_168 := Aside0.mk ((by rw [hg]; exact Nat.ne_of_lt (blk_lt (g := gb160) (o := .cells #[.bool false, .int .u64 0, .int .u64 0, .int .i64 0] 30 (0, 0)) (zK BK160)) : gb160 ≠ gb168)); have NB168_160 := Aside0.mk ((by rw [hg]; exact Nat.ne_of_gt (blk_lt (g := gb160) (o := .cells #[.bool false, .int .u64 0, .int .u64 0, .int .i64 0] 30 (0, 0)) (zK BK160)) : gb168 ≠ gb160)); replace BK160 := Aside0.mk (blk_below (g := gb160) (o := .cells #[.bool false, .int .u64 0, .int .u64 0, .int .i64 0] 30 (0, 0)) (zK BK160) hb); clear hb hbox hg; have hnb108 := NB168_160.out; have hnc108 := NB160_168.out; obtain ⟨hcz109_0, hcz109_1, hcz109_2⟩ := zc3 BK168; obtain ⟨hfz109_0, hfz109_1, hfz109_2⟩ := zf3 BK168))
         have n0_ : Aside0 ((((w107.setCell ⟨gb168, 0, none⟩ (.bool t164)).setCell ⟨gb168, 1, none⟩ (.int .u64 t165)).setCell ⟨gb168, 2, none⟩ (.int .u64 t166)).heap[gb160]? = some (.cells #[.bool false, .int .u64 0, .int .u64 0, .int .i64 0] 30 (0, 0))) := ⟨by refine zL ?_; refine blk_far ?_ NB160_168.out _; refine zL ?_; refine blk_far ?_ NB160_168.out _; refine zL ?_; refine blk_far ?_ NB160_168.out _; refine zL ?_; exact BK160.out⟩
         have n1_ : Aside0 ((((w107.setCell ⟨gb168, 0, none⟩ (.bool t164)).setCell ⟨gb168, 1, none⟩ (.int .u64 t165)).setCell ⟨gb168, 2, none⟩ (.int .u64 t166)).heap[gb168]? = some (.cells #[.bool t164, .int .u64 t165, .int .u64 t166] 25 (0, 0))) := ⟨by refine zL ?_; refine blk_put (cs := #[.bool t164, .int .u64 t165, .int .u64 0]) ?_ 2 _ rfl; refine zL ?_; refine blk_put (cs := #[.bool t164, .int .u64 0, .int .u64 0]) ?_ 1 _ rfl; refine zL ?_; refine blk_put (cs := #[.bool false, .int .u64 0, .int .u64 0]) ?_ 0 _ rfl; refine zL ?_; exact BK168.out⟩
         have n2_ : Aside0 (Below w.heap.size w (((w107.setCell ⟨gb168, 0, none⟩ (.bool t164)).setCell ⟨gb168, 1, none⟩ (.int .u64 t165)).setCell ⟨gb168, 2, none⟩ (.int .u64 t166))) := ⟨zB HB⟩
         (try clear BK160)
         (try clear BK168)
         (try clear HB)
         generalize (((w107.setCell ⟨gb168, 0, none⟩ (.bool t164)).setCell ⟨gb168, 1, none⟩ (.int .u64 t165)).setCell ⟨gb168, 2, none⟩ (.int .u64 t166)) = w110 at n0_ n1_ n2_ ⊢
         have BK160 := n0_
         have BK168 := n1_
         have HB := n2_
         clear n0_ n1_ n2_
         replace BK160 := Aside0.mk (blk_drew BK160.out)
         replace BK168 := Aside0.mk (blk_drew BK168.out)
         replace HB := Aside0.mk (below_drew1 HB.out)
         refine start_ (n := 6) (S := fun w' => w'.cell? ⟨gb168, 0, none⟩ = some (.bool t164) ∧ w'.cell? ⟨gb168, 1, none⟩ = some (.int .u64 t165) ∧ w'.cell? ⟨gb168, 2, none⟩ = some (.int .u64 t166)) (ds := []) #[false, false, false, false, false, false] (by kernel_rfl) rfl rfl ⟨zc BK168 0, zc BK168 1, zc BK168 2⟩ (fun hHeld => ?_)
         generalize w110.drew = w111 at BK160 BK168 HB hHeld ⊢
         refine zt0 0 30 hHeld ?_; refine zt0 1 31 hHeld ?_
         refine join_ (σ := Nat) 1 #[true, true, true, true, true, false] (fun s_ => [(32, .int .i64 t169), (9, .pointer (some ⟨s_, 0, none⟩)), (33, .agg #[.bool t164, .int .u64 t165, .int .u64 t166, .int .i64 t169])]) (fun s_ w' => (w'.cell? ⟨gb168, 0, none⟩ = some (.bool t164) ∧ w'.cell? ⟨gb168, 1, none⟩ = some (.int .u64 t165) ∧ w'.cell? ⟨gb168, 2, none⟩ = some (.int .u64 t166)) ∧ (w'.heap[gb160]? = some (.cells #[.bool false, .int .u64 0, .int .u64 0, .int .i64 0] 30 (0, 0))) ∧ (w'.heap[gb168]? = some (.cells #[.bool t164, .int .u64 t165, .int .u64 t166] 25 (0, 0))) ∧ (w'.heap[s_]? = some (.cells #[.bool false, .int .u64 0, .int .u64 0, .int .i64 0] 30 (0, 0))) ∧ (w.heap.size ≤ s_) ∧ (w.heap.size ≤ s_) ∧ (gb160 ≠ s_) ∧ (s_ ≠ gb160) ∧ (gb168 ≠ s_) ∧ (s_ ≠ gb168) ∧ (Below w.heap.size w w')) ?_ ?_
         rotate_left
         · intro hCont
           refine two_ (i := 2) (j := 4) (Ni := some 32) (Nj := some 9) #[true, true, true, false, false, false] #[true, true, false, false, true, false] rfl rfl rfl rfl (by kernel_rfl) (by decide) (by decide) (fun K hK => ?_) (fun K hK => ?_)
           · skip
             refine zg Tryd.func44 #[.agg #[.bool t164, .int .u64 t165, .int .u64 t166]] ?_
             with_reducible refine (address_size.calls t164 t165 t166 t169 _ A8.out).mono ?_
             rintro e w112 ⟨rfl, hb⟩
             refine ⟨_, rfl, ?_⟩
             replace BK160 := Aside0.mk (blk_below (g := gb160) (o := .cells #[.bool false, .int .u64 0, .int .u64 0, .int .i64 0] 30 (0, 0)) (zK BK160) hb)
             replace BK168 := Aside0.mk (blk_below (g := gb168) (o := .cells #[.bool t164, .int .u64 t165, .int .u64 t166] 25 (0, 0)) (zK BK168) hb)
             replace HB := Aside0.mk (below_step (zB HB) hb)
             (try clear hb)
             refine hK.out _ _ ⟨zc BK168 0, zc BK168 1, zc BK168 2⟩ (fun hHeld => ?_)
             clear hK K
             refine zn 32 ?_; refine zp0 3 33 ?_; refine zo0 4 9 (fun K hK => ?_)
             refine box_step ?hg (N := 9) ?hd (cs := #[.bool false, .int .u64 0, .int .u64 0, .int .i64 0]) (t := 30) ?hr ?_; (case hd => rfl); (case hg => rfl); (case hr => first | (go_simp; done) | (go_simp; rfl))
             intro gb170 hg w113 hbox hb
             have BK170 := Aside0.mk (hbox)
             have GW170 := Aside0.mk ((by rw [hg]; exact (below_size (zB HB)) : w.heap.size ≤ gb170))
             have GE170 := Aside0.mk ((by rw [hg]; exact (below_size (zB HB)) : w.heap.size ≤ gb170))
             replace HB := Aside0.mk (below_step (zB HB) hb)
             have NB160_170 := Aside0.mk ((by rw [hg]; exact Nat.ne_of_lt (blk_lt (g := gb160) (o := .cells #[.bool false, .int .u64 0, .int .u64 0, .int .i64 0] 30 (0, 0)) (zK BK160)) : gb160 ≠ gb170))
             have NB170_160 := Aside0.mk ((by rw [hg]; exact Nat.ne_of_gt (blk_lt (g := gb160) (o := .cells #[.bool false, .int .u64 0, .int .u64 0, .int .i64 0] 30 (0, 0)) (zK BK160)) : gb170 ≠ gb160))
             replace BK160 := Aside0.mk (blk_below (g := gb160) (o := .cells #[.bool false, .int .u64 0, .int .u64 0, .int .i64 0] 30 (0, 0)) (zK BK160) hb)
             have NB168_170 := Aside0.mk ((by rw [hg]; exact Nat.ne_of_lt (blk_lt (g := gb168) (o := .cells #[.bool t164, .int .u64 t165, .int .u64 t166] 25 (0, 0)) (zK BK168)) : gb168 ≠ gb170))
             have NB170_168 := Aside0.mk ((by rw [hg]; exact Nat.ne_of_gt (blk_lt (g := gb168) (o := .cells #[.bool t164, .int .u64 t165, .int .u64 t166] 25 (0, 0)) (zK BK168)) : gb170 ≠ gb168))
             replace BK168 := Aside0.mk (blk_below (g := gb168) (o := .cells #[.bool t164, .int .u64 t165, .int .u64 t166] 25 (0, 0)) (zK BK168) hb)
             clear hb hbox hg
             refine hK.out _ _ ⟨zc BK168 0, zc BK168 1, zc BK168 2⟩ (fun hHeld => ?_)
             clear hK K
             refine zn 9 ?_
             exact norm_ (by simp only [putAll, Act.put, List.setIfInBounds_toArray, List.set_cons_zero, List.set_cons_succ]) (hCont (gb170) _ ⟨hHeld, (zK BK160), (zK BK168), (zK BK170), GW170.out, GE170.out, NB160_170.out, NB170_160.out, NB168_170.out, NB170_168.out, (zB HB)⟩)
           · skip
             refine box_step ?hg (N := 9) ?hd (cs := #[.bool false, .int .u64 0, .int .u64 0, .int .i64 0]) (t := 30) ?hr ?_; (case hd => rfl); (case hg => rfl); (case hr => first | (go_simp; done) | (go_simp; rfl))
             intro gb170 hg w112 hbox hb
             have BK170 := Aside0.mk (hbox)
             have GW170 := Aside0.mk ((by rw [hg]; exact (below_size (zB HB)) : w.heap.size ≤ gb170))
             have GE170 := Aside0.mk ((by rw [hg]; exact (below_size (zB HB)) : w.heap.size ≤ gb170))
             replace HB := Aside0.mk (below_step (zB HB) hb)
             have NB160_170 := Aside0.mk ((by rw [hg]; exact Nat.ne_of_lt (blk_lt (g := gb160) (o := .cells #[.bool false, .int .u64 0, .int .u64 0, .int .i64 0] 30 (0, 0)) (zK BK160)) : gb160 ≠ gb170))
             have NB170_160 := Aside0.mk ((by rw [hg]; exact Nat.ne_of_gt (blk_lt (g := gb160) (o := .cells #[.bool false, .int .u64 0, .int .u64 0, .int .i64 0] 30 (0, 0)) (zK BK160)) : gb170 ≠ gb160))
             replace BK160 := Aside0.mk (blk_below (g := gb160) (o := .cells #[.bool false, .int .u64 0, .int .u64 0, .int .i64 0] 30 (0, 0)) (zK BK160) hb)
             have NB168_170 := Aside0.mk ((by rw [hg]; exact Nat.ne_of_lt (blk_lt (g := gb168) (o := .cells #[.bool t164, .int .u64 t165, .int .u64 t166] 25 (0, 0)) (zK BK168)) : gb168 ≠ gb170))
             have NB170_168 := Aside0.mk ((by rw [hg]; exact Nat.ne_of_gt (blk_lt (g := gb168) (o := .cells #[.bool t164, .int .u64 t165, .int .u64 t166] 25 (0, 0)) (zK BK168)) : gb170 ≠ gb168))
             replace BK168 := Aside0.mk (blk_below (g := gb168) (o := .cells #[.bool t164, .int .u64 t165, .int .u64 t166] 25 (0, 0)) (zK BK168) hb)
             clear hb hbox hg
             refine hK.out _ _ ⟨zc BK168 0, zc BK168 1, zc BK168 2⟩ (fun hHeld => ?_)
             clear hK K
             refine zn 9 ?_; refine zo0 2 32 (fun K hK => ?_)
             refine zg Tryd.func44 #[.agg #[.bool t164, .int .u64 t165, .int .u64 t166]] ?_
             with_reducible refine (address_size.calls t164 t165 t166 t169 _ A8.out).mono ?_
             rintro e w113 ⟨rfl, hb⟩
             refine ⟨_, rfl, ?_⟩
             replace BK160 := Aside0.mk (blk_below (g := gb160) (o := .cells #[.bool false, .int .u64 0, .int .u64 0, .int .i64 0] 30 (0, 0)) (zK BK160) hb)
             replace BK168 := Aside0.mk (blk_below (g := gb168) (o := .cells #[.bool t164, .int .u64 t165, .int .u64 t166] 25 (0, 0)) (zK BK168) hb)
             replace BK170 := Aside0.mk (blk_below (g := gb170) (o := .cells #[.bool false, .int .u64 0, .int .u64 0, .int .i64 0] 30 (0, 0)) (zK BK170) hb)
             replace HB := Aside0.mk (below_step (zB HB) hb)
             (try clear hb)
             refine hK.out _ _ ⟨zc BK168 0, zc BK168 1, zc BK168 2⟩ (fun hHeld => ?_)
             clear hK K
             refine zn 32 ?_; refine zp0 3 33 ?_
             exact norm_ (by simp only [putAll, Act.put, List.setIfInBounds_toArray, List.set_cons_zero, List.set_cons_succ]) (hCont (gb170) _ ⟨hHeld, (zK BK160), (zK BK168), (zK BK170), GW170.out, GE170.out, NB160_170.out, NB170_160.out, NB168_170.out, NB170_168.out, (zB HB)⟩)
         rintro gb170 w114 ⟨hS_, h0_, h1_, h2_, h3_, h4_, h5_, h6_, h7_, h8_, h9_⟩
         have n0_ : Aside0 (w114.heap[gb160]? = some (.cells #[.bool false, .int .u64 0, .int .u64 0, .int .i64 0] 30 (0, 0))) := ⟨h0_⟩
         have n1_ : Aside0 (w114.heap[gb168]? = some (.cells #[.bool t164, .int .u64 t165, .int .u64 t166] 25 (0, 0))) := ⟨h1_⟩
         have n2_ : Aside0 (w114.heap[gb170]? = some (.cells #[.bool false, .int .u64 0, .int .u64 0, .int .i64 0] 30 (0, 0))) := ⟨h2_⟩
         have n3_ : Aside0 (w.heap.size ≤ gb170) := ⟨h3_⟩
         have n4_ : Aside0 (w.heap.size ≤ gb170) := ⟨h4_⟩
         have n5_ : Aside0 (gb160 ≠ gb170) := ⟨h5_⟩
         have n6_ : Aside0 (gb170 ≠ gb160) := ⟨h6_⟩
         have n7_ : Aside0 (gb168 ≠ gb170) := ⟨h7_⟩
         have n8_ : Aside0 (gb170 ≠ gb168) := ⟨h8_⟩
         have n9_ : Aside0 (Below w.heap.size w w114) := ⟨h9_⟩
         clear BK160
         clear BK168
         clear HB
         clear h0_ h1_ h2_ h3_ h4_ h5_ h6_ h7_ h8_ h9_
         have BK160 := n0_
         have BK168 := n1_
         have BK170 := n2_
         have GW170 := n3_
         have GE170 := n4_
         have NB160_170 := n5_
         have NB170_160 := n6_
         have NB168_170 := n7_
         have NB170_168 := n8_
         have HB := n9_
         clear n0_ n1_ n2_ n3_ n4_ n5_ n6_ n7_ n8_ n9_
         have hHeld : w114.cell? ⟨gb168, 0, none⟩ = some (.bool t164) ∧ w114.cell? ⟨gb168, 1, none⟩ = some (.int .u64 t165) ∧ w114.cell? ⟨gb168, 2, none⟩ = some (.int .u64 t166) := hS_
         refine norm_ (a' := ?_) ?_ ?_
         rotate_left
         · simp only [putAll, Act.put, List.setIfInBounds_toArray, List.set_cons_zero, List.set_cons_succ]
           rfl
         refine one_ (i := 5) (N := none) #[true, true, true, true, true, true] rfl rfl (by kernel_rfl) (by decide) (fun K hK => ?_)
         have hs115 : w114.cell? ⟨gb170, 0, none⟩ = some (.bool false) := zc BK170 0
         have hfs115 := blk_frozen BK170.out 0
         have hns115_0 := NB160_170.out
         have hns115_1 := NB168_170.out
         have hms115_0 := NB170_160.out
         have hms115_1 := NB170_168.out
         have hs116 : w114.cell? ⟨gb170, 1, none⟩ = some (.int .u64 0) := zc BK170 1
         have hfs116 := blk_frozen BK170.out 1
         have hns116_0 := NB160_170.out
         have hns116_1 := NB168_170.out
         have hms116_0 := NB170_160.out
         have hms116_1 := NB170_168.out
         have hs117 : w114.cell? ⟨gb170, 2, none⟩ = some (.int .u64 0) := zc BK170 2
         have hfs117 := blk_frozen BK170.out 2
         have hns117_0 := NB160_170.out
         have hns117_1 := NB168_170.out
         have hms117_0 := NB170_160.out
         have hms117_1 := NB170_168.out
         have hs118 : w114.cell? ⟨gb170, 3, none⟩ = some (.int .i64 0) := zc BK170 3
         have hfs118 := blk_frozen BK170.out 3
         have hns118_0 := NB160_170.out
         have hns118_1 := NB168_170.out
         have hms118_0 := NB170_160.out
         have hms118_1 := NB170_168.out
         refine skip_ (w1 := ?_) (by rfl) rfl ?_ ?_
         rotate_left
         · go_simp
           rfl
         refine hK.out _ _ ⟨((cell_far (p := ⟨gb170, _, none⟩) NB168_170.out _).trans (((cell_far (p := ⟨gb170, _, none⟩) NB168_170.out _).trans (((cell_far (p := ⟨gb170, _, none⟩) NB168_170.out _).trans (((cell_far (p := ⟨gb170, _, none⟩) NB168_170.out _).trans (hHeld.1)))))))), ((cell_far (p := ⟨gb170, _, none⟩) NB168_170.out _).trans (((cell_far (p := ⟨gb170, _, none⟩) NB168_170.out _).trans (((cell_far (p := ⟨gb170, _, none⟩) NB168_170.out _).trans (((cell_far (p := ⟨gb170, _, none⟩) NB168_170.out _).trans (hHeld.2.1)))))))), ((cell_far (p := ⟨gb170, _, none⟩) NB168_170.out _).trans (((cell_far (p := ⟨gb170, _, none⟩) NB168_170.out _).trans (((cell_far (p := ⟨gb170, _, none⟩) NB168_170.out _).trans (((cell_far (p := ⟨gb170, _, none⟩) NB168_170.out _).trans (hHeld.2.2))))))))⟩ (fun hHeld => ?_)
         clear hK K
         refine zd0 ?_
         have hnb119 := NB170_160.out
         have hnc119 := NB160_170.out
         have hnb120 := NB170_168.out
         have hnc120 := NB168_170.out
         obtain ⟨hcz121_0, hcz121_1, hcz121_2, hcz121_3⟩ := zc4 BK170
         obtain ⟨hfz121_0, hfz121_1, hfz121_2, hfz121_3⟩ := zf4 BK170
         try go_wp2_with (first | ((with_reducible refine gate_callee (f := 31) rfl ?_); refine goesL_ (some 53) rfl rfl Tryd.func31 (by kernel_rfl) rfl #[.agg #[.bool t164, .int .u64 t165, .int .u64 t166, .int .i64 t169]] rfl (by (try simp only [List.map_toArray, List.map_cons, List.map_nil]); first | done | rfl | (simp only [List.length_drop, List.length_take]; rfl)) ?_; (with_reducible refine (address_ValidPrefix.calls t164 t165 t166 t169 true _ A102.out).mono ?_); rintro e w122 ⟨rfl, hb⟩; refine ⟨_, rfl, ?_⟩; replace BK160 := Aside0.mk (blk_below (g := gb160) (o := .cells #[.bool false, .int .u64 0, .int .u64 0, .int .i64 0] 30 (0, 0)) (by refine zL ?_; refine blk_far ?_ NB160_170.out _; refine zL ?_; refine blk_far ?_ NB160_170.out _; refine zL ?_; refine blk_far ?_ NB160_170.out _; refine zL ?_; refine blk_far ?_ NB160_170.out _; refine zL ?_; exact BK160.out) hb); replace BK168 := Aside0.mk (blk_below (g := gb168) (o := .cells #[.bool t164, .int .u64 t165, .int .u64 t166] 25 (0, 0)) (by refine zL ?_; refine blk_far ?_ NB168_170.out _; refine zL ?_; refine blk_far ?_ NB168_170.out _; refine zL ?_; refine blk_far ?_ NB168_170.out _; refine zL ?_; refine blk_far ?_ NB168_170.out _; refine zL ?_; exact BK168.out) hb); replace BK170 := Aside0.mk (blk_below (g := gb170) (o := .cells #[.bool t164, .int .u64 t165, .int .u64 t166, .int .i64 t169] 30 (0, 0)) (by refine zL ?_; refine blk_put (cs := #[.bool t164, .int .u64 t165, .int .u64 t166, .int .i64 0]) ?_ 3 _ rfl; refine zL ?_; refine blk_put (cs := #[.bool t164, .int .u64 t165, .int .u64 0, .int .i64 0]) ?_ 2 _ rfl; refine zL ?_; refine blk_put (cs := #[.bool t164, .int .u64 0, .int .u64 0, .int .i64 0]) ?_ 1 _ rfl; refine zL ?_; refine blk_put (cs := #[.bool false, .int .u64 0, .int .u64 0, .int .i64 0]) ?_ 0 _ rfl; refine zL ?_; exact BK170.out) hb); replace HB := Aside0.mk (below_step (zB HB) hb); (try clear hb); obtain ⟨hcz123_0, hcz123_1, hcz123_2, hcz123_3⟩ := zc4 BK170; obtain ⟨hfz123_0, hfz123_1, hfz123_2, hfz123_3⟩ := zf4 BK170; obtain ⟨hcz124_0, hcz124_1, hcz124_2, hcz124_3⟩ := zc4 BK160; obtain ⟨hfz124_0, hfz124_1, hfz124_2, hfz124_3⟩ := zf4 BK160))
         refine bodyPost_ret (results_ct rfl _ _ gb160 30 #[.bool t164, .int .u64 t165, .int .u64 t166, .int .i64 t169] (0, 0) _ rfl (by refine zL ?_; refine blk_put (cs := #[.bool t164, .int .u64 t165, .int .u64 t166, .int .i64 0]) ?_ 3 _ rfl; refine zL ?_; refine blk_put (cs := #[.bool t164, .int .u64 t165, .int .u64 0, .int .i64 0]) ?_ 2 _ rfl; refine zL ?_; refine blk_put (cs := #[.bool t164, .int .u64 0, .int .u64 0, .int .i64 0]) ?_ 1 _ rfl; refine zL ?_; refine blk_put (cs := #[.bool false, .int .u64 0, .int .u64 0, .int .i64 0]) ?_ 0 _ rfl; refine zL ?_; exact BK160.out) Tryd.underlying30 rfl (by kernel_rfl)) rfl ?_
         exact ⟨by first | rfl | (simp [errW_none, errW_some] <;> rfl) | (simp [*, errW_none, errW_some] <;> rfl), by repeat (first | (with_reducible first | exact HB.out | apply below_alloc | apply pw_below_drewN | apply below_drew1 | refine below_set ?_ GE160.out | refine below_set ?_ GE168.out | refine below_set ?_ GE170.out) | exact HB.out)⟩
       · replace c103 := Bool.eq_false_iff.mpr c103
         subst c103
         rw [if_neg zF] at H
         simp only [Option.some.injEq, Prod.mk.injEq] at H
         obtain ⟨rfl, rfl, rfl, rfl, rfl⟩ := H
         go_enter Tryd.func13, Tryd.ntmps13
         try go_wp2_with (first | ((with_reducible refine gate_dst (N := 2) rfl ?_); refine zx 2 #[.bool false, .int .u64 0, .int .u64 0, .int .i64 0] 30 ?_; intro gb160 hg w125 hbox hb; have BK160 := Aside0.mk (hbox); have GW160 := Aside0.mk ((by rw [hg]; exact (below_size (zB HB)) : w.heap.size ≤ gb160)); have GE160 := Aside0.mk ((by rw [hg]; exact (below_size (zB HB)) : w.heap.size ≤ gb160)); replace HB := Aside0.mk (below_step (zB HB) hb); clear hb hbox hg) | ((with_reducible refine gate_callee (f := 43) rfl ?_); refine goesL_ (some 18) rfl rfl Tryd.func43 (by kernel_rfl) rfl #[.string a0, .string (⟨#[47]⟩ : ByteArray)] rfl (by (try simp only [List.map_toArray, List.map_cons, List.map_nil]); first | done | rfl | (simp only [List.length_drop, List.length_take]; rfl)) ?_; (with_reducible refine (strings_Cut.calls a0 (⟨#[47]⟩ : ByteArray) t161 t162 false _ A5.out (WOK.below hW_ (zB HB))).mono ?_); rintro e w126 ⟨rfl, hb⟩; refine ⟨_, rfl, ?_⟩; replace BK160 := Aside0.mk (blk_below (g := gb160) (o := .cells #[.bool false, .int .u64 0, .int .u64 0, .int .i64 0] 30 (0, 0)) (zK BK160) hb); replace HB := Aside0.mk (below_step (zB HB) hb); (try clear hb)) | ((with_reducible refine gate_callee (f := 11) rfl ?_); refine goesL_ (some 24) rfl rfl Tryd.func11 (by kernel_rfl) rfl #[.string t161] rfl (by (try simp only [List.map_toArray, List.map_cons, List.map_nil]); first | done | rfl | (simp only [List.length_drop, List.length_take]; rfl)) ?_; (with_reducible refine (address_Parse.calls k t161 t164 t165 t166 t167 _ A6.out (WOK.below hW_ (zB HB))).mono ?_); rintro e w127 ⟨rfl, hb⟩; refine ⟨_, rfl, ?_⟩; replace BK160 := Aside0.mk (blk_below (g := gb160) (o := .cells #[.bool false, .int .u64 0, .int .u64 0, .int .i64 0] 30 (0, 0)) (zK BK160) hb); replace HB := Aside0.mk (below_step (zB HB) hb); (try clear hb)) | ((with_reducible refine gate_dst (N := 7) rfl ?_); refine zx 7 #[.bool false, .int .u64 0, .int .u64 0] 25 ?_; intro gb168 hg w128 hbox hb; have BK168 := Aside0.mk (hbox); have GW168 := Aside0.mk ((by rw [hg]; exact (below_size (zB HB)) : w.heap.size ≤ gb168)); have GE168 := Aside0.mk ((by rw [hg]; exact (below_size (zB HB)) : w.heap.size ≤ gb168)); replace HB := Aside0.mk (below_step (zB HB) hb); have NB160_168 := Aside0.mk ((by rw [hg]; exact Nat.ne_of_lt (blk_lt (g := gb160) (o := .cells #[.bool false, .int .u64 0, .int .u64 0, .int .i64 0] 30 (0, 0)) (zK BK160)) : gb160 ≠ gb168)); have NB168_160 := Aside0.mk ((by rw [hg]; exact Nat.ne_of_gt (blk_lt (g := gb160) (o := .cells #[.bool false, .int .u64 0, .int .u64 0, .int .i64 0] 30 (0, 0)) (zK BK160)) : gb168 ≠ gb160)); replace BK160 := Aside0.mk (blk_below (g := gb160) (o := .cells #[.bool false, .int .u64 0, .int .u64 0, .int .i64 0] 30 (0, 0)) (zK BK160) hb); clear hb hbox hg; have hnb129 := NB168_160.out; have hnc129 := NB160_168.out; obtain ⟨hcz130_0, hcz130_1, hcz130_2⟩ := zc3 BK168; obtain ⟨hfz130_0, hfz130_1, hfz130_2⟩ := zf3 BK168))
         have n0_ : Aside0 ((((w128.setCell ⟨gb168, 0, none⟩ (.bool t164)).setCell ⟨gb168, 1, none⟩ (.int .u64 t165)).setCell ⟨gb168, 2, none⟩ (.int .u64 t166)).heap[gb160]? = some (.cells #[.bool false, .int .u64 0, .int .u64 0, .int .i64 0] 30 (0, 0))) := ⟨by refine zL ?_; refine blk_far ?_ NB160_168.out _; refine zL ?_; refine blk_far ?_ NB160_168.out _; refine zL ?_; refine blk_far ?_ NB160_168.out _; refine zL ?_; exact BK160.out⟩
         have n1_ : Aside0 ((((w128.setCell ⟨gb168, 0, none⟩ (.bool t164)).setCell ⟨gb168, 1, none⟩ (.int .u64 t165)).setCell ⟨gb168, 2, none⟩ (.int .u64 t166)).heap[gb168]? = some (.cells #[.bool t164, .int .u64 t165, .int .u64 t166] 25 (0, 0))) := ⟨by refine zL ?_; refine blk_put (cs := #[.bool t164, .int .u64 t165, .int .u64 0]) ?_ 2 _ rfl; refine zL ?_; refine blk_put (cs := #[.bool t164, .int .u64 0, .int .u64 0]) ?_ 1 _ rfl; refine zL ?_; refine blk_put (cs := #[.bool false, .int .u64 0, .int .u64 0]) ?_ 0 _ rfl; refine zL ?_; exact BK168.out⟩
         have n2_ : Aside0 (Below w.heap.size w (((w128.setCell ⟨gb168, 0, none⟩ (.bool t164)).setCell ⟨gb168, 1, none⟩ (.int .u64 t165)).setCell ⟨gb168, 2, none⟩ (.int .u64 t166))) := ⟨zB HB⟩
         (try clear BK160)
         (try clear BK168)
         (try clear HB)
         generalize (((w128.setCell ⟨gb168, 0, none⟩ (.bool t164)).setCell ⟨gb168, 1, none⟩ (.int .u64 t165)).setCell ⟨gb168, 2, none⟩ (.int .u64 t166)) = w131 at n0_ n1_ n2_ ⊢
         have BK160 := n0_
         have BK168 := n1_
         have HB := n2_
         clear n0_ n1_ n2_
         replace BK160 := Aside0.mk (blk_drew BK160.out)
         replace BK168 := Aside0.mk (blk_drew BK168.out)
         replace HB := Aside0.mk (below_drew1 HB.out)
         refine start_ (n := 6) (S := fun w' => w'.cell? ⟨gb168, 0, none⟩ = some (.bool t164) ∧ w'.cell? ⟨gb168, 1, none⟩ = some (.int .u64 t165) ∧ w'.cell? ⟨gb168, 2, none⟩ = some (.int .u64 t166)) (ds := []) #[false, false, false, false, false, false] (by kernel_rfl) rfl rfl ⟨zc BK168 0, zc BK168 1, zc BK168 2⟩ (fun hHeld => ?_)
         generalize w131.drew = w132 at BK160 BK168 HB hHeld ⊢
         refine zt0 0 30 hHeld ?_; refine zt0 1 31 hHeld ?_
         refine join_ (σ := Nat) 1 #[true, true, true, true, true, false] (fun s_ => [(32, .int .i64 t169), (9, .pointer (some ⟨s_, 0, none⟩)), (33, .agg #[.bool t164, .int .u64 t165, .int .u64 t166, .int .i64 t169])]) (fun s_ w' => (w'.cell? ⟨gb168, 0, none⟩ = some (.bool t164) ∧ w'.cell? ⟨gb168, 1, none⟩ = some (.int .u64 t165) ∧ w'.cell? ⟨gb168, 2, none⟩ = some (.int .u64 t166)) ∧ (w'.heap[gb160]? = some (.cells #[.bool false, .int .u64 0, .int .u64 0, .int .i64 0] 30 (0, 0))) ∧ (w'.heap[gb168]? = some (.cells #[.bool t164, .int .u64 t165, .int .u64 t166] 25 (0, 0))) ∧ (w'.heap[s_]? = some (.cells #[.bool false, .int .u64 0, .int .u64 0, .int .i64 0] 30 (0, 0))) ∧ (w.heap.size ≤ s_) ∧ (w.heap.size ≤ s_) ∧ (gb160 ≠ s_) ∧ (s_ ≠ gb160) ∧ (gb168 ≠ s_) ∧ (s_ ≠ gb168) ∧ (Below w.heap.size w w')) ?_ ?_
         rotate_left
         · intro hCont
           refine two_ (i := 2) (j := 4) (Ni := some 32) (Nj := some 9) #[true, true, true, false, false, false] #[true, true, false, false, true, false] rfl rfl rfl rfl (by kernel_rfl) (by decide) (by decide) (fun K hK => ?_) (fun K hK => ?_)
           · skip
             refine zg Tryd.func44 #[.agg #[.bool t164, .int .u64 t165, .int .u64 t166]] ?_
             with_reducible refine (address_size.calls t164 t165 t166 t169 _ A8.out).mono ?_
             rintro e w133 ⟨rfl, hb⟩
             refine ⟨_, rfl, ?_⟩
             replace BK160 := Aside0.mk (blk_below (g := gb160) (o := .cells #[.bool false, .int .u64 0, .int .u64 0, .int .i64 0] 30 (0, 0)) (zK BK160) hb)
             replace BK168 := Aside0.mk (blk_below (g := gb168) (o := .cells #[.bool t164, .int .u64 t165, .int .u64 t166] 25 (0, 0)) (zK BK168) hb)
             replace HB := Aside0.mk (below_step (zB HB) hb)
             (try clear hb)
             refine hK.out _ _ ⟨zc BK168 0, zc BK168 1, zc BK168 2⟩ (fun hHeld => ?_)
             clear hK K
             refine zn 32 ?_; refine zp0 3 33 ?_; refine zo0 4 9 (fun K hK => ?_)
             refine box_step ?hg (N := 9) ?hd (cs := #[.bool false, .int .u64 0, .int .u64 0, .int .i64 0]) (t := 30) ?hr ?_; (case hd => rfl); (case hg => rfl); (case hr => first | (go_simp; done) | (go_simp; rfl))
             intro gb170 hg w134 hbox hb
             have BK170 := Aside0.mk (hbox)
             have GW170 := Aside0.mk ((by rw [hg]; exact (below_size (zB HB)) : w.heap.size ≤ gb170))
             have GE170 := Aside0.mk ((by rw [hg]; exact (below_size (zB HB)) : w.heap.size ≤ gb170))
             replace HB := Aside0.mk (below_step (zB HB) hb)
             have NB160_170 := Aside0.mk ((by rw [hg]; exact Nat.ne_of_lt (blk_lt (g := gb160) (o := .cells #[.bool false, .int .u64 0, .int .u64 0, .int .i64 0] 30 (0, 0)) (zK BK160)) : gb160 ≠ gb170))
             have NB170_160 := Aside0.mk ((by rw [hg]; exact Nat.ne_of_gt (blk_lt (g := gb160) (o := .cells #[.bool false, .int .u64 0, .int .u64 0, .int .i64 0] 30 (0, 0)) (zK BK160)) : gb170 ≠ gb160))
             replace BK160 := Aside0.mk (blk_below (g := gb160) (o := .cells #[.bool false, .int .u64 0, .int .u64 0, .int .i64 0] 30 (0, 0)) (zK BK160) hb)
             have NB168_170 := Aside0.mk ((by rw [hg]; exact Nat.ne_of_lt (blk_lt (g := gb168) (o := .cells #[.bool t164, .int .u64 t165, .int .u64 t166] 25 (0, 0)) (zK BK168)) : gb168 ≠ gb170))
             have NB170_168 := Aside0.mk ((by rw [hg]; exact Nat.ne_of_gt (blk_lt (g := gb168) (o := .cells #[.bool t164, .int .u64 t165, .int .u64 t166] 25 (0, 0)) (zK BK168)) : gb170 ≠ gb168))
             replace BK168 := Aside0.mk (blk_below (g := gb168) (o := .cells #[.bool t164, .int .u64 t165, .int .u64 t166] 25 (0, 0)) (zK BK168) hb)
             clear hb hbox hg
             refine hK.out _ _ ⟨zc BK168 0, zc BK168 1, zc BK168 2⟩ (fun hHeld => ?_)
             clear hK K
             refine zn 9 ?_
             exact norm_ (by simp only [putAll, Act.put, List.setIfInBounds_toArray, List.set_cons_zero, List.set_cons_succ]) (hCont (gb170) _ ⟨hHeld, (zK BK160), (zK BK168), (zK BK170), GW170.out, GE170.out, NB160_170.out, NB170_160.out, NB168_170.out, NB170_168.out, (zB HB)⟩)
           · skip
             refine box_step ?hg (N := 9) ?hd (cs := #[.bool false, .int .u64 0, .int .u64 0, .int .i64 0]) (t := 30) ?hr ?_; (case hd => rfl); (case hg => rfl); (case hr => first | (go_simp; done) | (go_simp; rfl))
             intro gb170 hg w133 hbox hb
             have BK170 := Aside0.mk (hbox)
             have GW170 := Aside0.mk ((by rw [hg]; exact (below_size (zB HB)) : w.heap.size ≤ gb170))
             have GE170 := Aside0.mk ((by rw [hg]; exact (below_size (zB HB)) : w.heap.size ≤ gb170))
             replace HB := Aside0.mk (below_step (zB HB) hb)
             have NB160_170 := Aside0.mk ((by rw [hg]; exact Nat.ne_of_lt (blk_lt (g := gb160) (o := .cells #[.bool false, .int .u64 0, .int .u64 0, .int .i64 0] 30 (0, 0)) (zK BK160)) : gb160 ≠ gb170))
             have NB170_160 := Aside0.mk ((by rw [hg]; exact Nat.ne_of_gt (blk_lt (g := gb160) (o := .cells #[.bool false, .int .u64 0, .int .u64 0, .int .i64 0] 30 (0, 0)) (zK BK160)) : gb170 ≠ gb160))
             replace BK160 := Aside0.mk (blk_below (g := gb160) (o := .cells #[.bool false, .int .u64 0, .int .u64 0, .int .i64 0] 30 (0, 0)) (zK BK160) hb)
             have NB168_170 := Aside0.mk ((by rw [hg]; exact Nat.ne_of_lt (blk_lt (g := gb168) (o := .cells #[.bool t164, .int .u64 t165, .int .u64 t166] 25 (0, 0)) (zK BK168)) : gb168 ≠ gb170))
             have NB170_168 := Aside0.mk ((by rw [hg]; exact Nat.ne_of_gt (blk_lt (g := gb168) (o := .cells #[.bool t164, .int .u64 t165, .int .u64 t166] 25 (0, 0)) (zK BK168)) : gb170 ≠ gb168))
             replace BK168 := Aside0.mk (blk_below (g := gb168) (o := .cells #[.bool t164, .int .u64 t165, .int .u64 t166] 25 (0, 0)) (zK BK168) hb)
             clear hb hbox hg
             refine hK.out _ _ ⟨zc BK168 0, zc BK168 1, zc BK168 2⟩ (fun hHeld => ?_)
             clear hK K
             refine zn 9 ?_; refine zo0 2 32 (fun K hK => ?_)
             refine zg Tryd.func44 #[.agg #[.bool t164, .int .u64 t165, .int .u64 t166]] ?_
             with_reducible refine (address_size.calls t164 t165 t166 t169 _ A8.out).mono ?_
             rintro e w134 ⟨rfl, hb⟩
             refine ⟨_, rfl, ?_⟩
             replace BK160 := Aside0.mk (blk_below (g := gb160) (o := .cells #[.bool false, .int .u64 0, .int .u64 0, .int .i64 0] 30 (0, 0)) (zK BK160) hb)
             replace BK168 := Aside0.mk (blk_below (g := gb168) (o := .cells #[.bool t164, .int .u64 t165, .int .u64 t166] 25 (0, 0)) (zK BK168) hb)
             replace BK170 := Aside0.mk (blk_below (g := gb170) (o := .cells #[.bool false, .int .u64 0, .int .u64 0, .int .i64 0] 30 (0, 0)) (zK BK170) hb)
             replace HB := Aside0.mk (below_step (zB HB) hb)
             (try clear hb)
             refine hK.out _ _ ⟨zc BK168 0, zc BK168 1, zc BK168 2⟩ (fun hHeld => ?_)
             clear hK K
             refine zn 32 ?_; refine zp0 3 33 ?_
             exact norm_ (by simp only [putAll, Act.put, List.setIfInBounds_toArray, List.set_cons_zero, List.set_cons_succ]) (hCont (gb170) _ ⟨hHeld, (zK BK160), (zK BK168), (zK BK170), GW170.out, GE170.out, NB160_170.out, NB170_160.out, NB168_170.out, NB170_168.out, (zB HB)⟩)
         rintro gb170 w135 ⟨hS_, h0_, h1_, h2_, h3_, h4_, h5_, h6_, h7_, h8_, h9_⟩
         have n0_ : Aside0 (w135.heap[gb160]? = some (.cells #[.bool false, .int .u64 0, .int .u64 0, .int .i64 0] 30 (0, 0))) := ⟨h0_⟩
         have n1_ : Aside0 (w135.heap[gb168]? = some (.cells #[.bool t164, .int .u64 t165, .int .u64 t166] 25 (0, 0))) := ⟨h1_⟩
         have n2_ : Aside0 (w135.heap[gb170]? = some (.cells #[.bool false, .int .u64 0, .int .u64 0, .int .i64 0] 30 (0, 0))) := ⟨h2_⟩
         have n3_ : Aside0 (w.heap.size ≤ gb170) := ⟨h3_⟩
         have n4_ : Aside0 (w.heap.size ≤ gb170) := ⟨h4_⟩
         have n5_ : Aside0 (gb160 ≠ gb170) := ⟨h5_⟩
         have n6_ : Aside0 (gb170 ≠ gb160) := ⟨h6_⟩
         have n7_ : Aside0 (gb168 ≠ gb170) := ⟨h7_⟩
         have n8_ : Aside0 (gb170 ≠ gb168) := ⟨h8_⟩
         have n9_ : Aside0 (Below w.heap.size w w135) := ⟨h9_⟩
         clear BK160
         clear BK168
         clear HB
         clear h0_ h1_ h2_ h3_ h4_ h5_ h6_ h7_ h8_ h9_
         have BK160 := n0_
         have BK168 := n1_
         have BK170 := n2_
         have GW170 := n3_
         have GE170 := n4_
         have NB160_170 := n5_
         have NB170_160 := n6_
         have NB168_170 := n7_
         have NB170_168 := n8_
         have HB := n9_
         clear n0_ n1_ n2_ n3_ n4_ n5_ n6_ n7_ n8_ n9_
         have hHeld : w135.cell? ⟨gb168, 0, none⟩ = some (.bool t164) ∧ w135.cell? ⟨gb168, 1, none⟩ = some (.int .u64 t165) ∧ w135.cell? ⟨gb168, 2, none⟩ = some (.int .u64 t166) := hS_
         refine norm_ (a' := ?_) ?_ ?_
         rotate_left
         · simp only [putAll, Act.put, List.setIfInBounds_toArray, List.set_cons_zero, List.set_cons_succ]
           rfl
         refine one_ (i := 5) (N := none) #[true, true, true, true, true, true] rfl rfl (by kernel_rfl) (by decide) (fun K hK => ?_)
         have hs136 : w135.cell? ⟨gb170, 0, none⟩ = some (.bool false) := zc BK170 0
         have hfs136 := blk_frozen BK170.out 0
         have hns136_0 := NB160_170.out
         have hns136_1 := NB168_170.out
         have hms136_0 := NB170_160.out
         have hms136_1 := NB170_168.out
         have hs137 : w135.cell? ⟨gb170, 1, none⟩ = some (.int .u64 0) := zc BK170 1
         have hfs137 := blk_frozen BK170.out 1
         have hns137_0 := NB160_170.out
         have hns137_1 := NB168_170.out
         have hms137_0 := NB170_160.out
         have hms137_1 := NB170_168.out
         have hs138 : w135.cell? ⟨gb170, 2, none⟩ = some (.int .u64 0) := zc BK170 2
         have hfs138 := blk_frozen BK170.out 2
         have hns138_0 := NB160_170.out
         have hns138_1 := NB168_170.out
         have hms138_0 := NB170_160.out
         have hms138_1 := NB170_168.out
         have hs139 : w135.cell? ⟨gb170, 3, none⟩ = some (.int .i64 0) := zc BK170 3
         have hfs139 := blk_frozen BK170.out 3
         have hns139_0 := NB160_170.out
         have hns139_1 := NB168_170.out
         have hms139_0 := NB170_160.out
         have hms139_1 := NB170_168.out
         refine skip_ (w1 := ?_) (by rfl) rfl ?_ ?_
         rotate_left
         · go_simp
           rfl
         refine hK.out _ _ ⟨((cell_far (p := ⟨gb170, _, none⟩) NB168_170.out _).trans (((cell_far (p := ⟨gb170, _, none⟩) NB168_170.out _).trans (((cell_far (p := ⟨gb170, _, none⟩) NB168_170.out _).trans (((cell_far (p := ⟨gb170, _, none⟩) NB168_170.out _).trans (hHeld.1)))))))), ((cell_far (p := ⟨gb170, _, none⟩) NB168_170.out _).trans (((cell_far (p := ⟨gb170, _, none⟩) NB168_170.out _).trans (((cell_far (p := ⟨gb170, _, none⟩) NB168_170.out _).trans (((cell_far (p := ⟨gb170, _, none⟩) NB168_170.out _).trans (hHeld.2.1)))))))), ((cell_far (p := ⟨gb170, _, none⟩) NB168_170.out _).trans (((cell_far (p := ⟨gb170, _, none⟩) NB168_170.out _).trans (((cell_far (p := ⟨gb170, _, none⟩) NB168_170.out _).trans (((cell_far (p := ⟨gb170, _, none⟩) NB168_170.out _).trans (hHeld.2.2))))))))⟩ (fun hHeld => ?_)
         clear hK K
         refine zd0 ?_
         have hnb140 := NB170_160.out
         have hnc140 := NB160_170.out
         have hnb141 := NB170_168.out
         have hnc141 := NB168_170.out
         obtain ⟨hcz142_0, hcz142_1, hcz142_2, hcz142_3⟩ := zc4 BK170
         obtain ⟨hfz142_0, hfz142_1, hfz142_2, hfz142_3⟩ := zf4 BK170
         try go_wp2_with (first | ((with_reducible refine gate_callee (f := 31) rfl ?_); refine goesL_ (some 53) rfl rfl Tryd.func31 (by kernel_rfl) rfl #[.agg #[.bool t164, .int .u64 t165, .int .u64 t166, .int .i64 t169]] rfl (by (try simp only [List.map_toArray, List.map_cons, List.map_nil]); first | done | rfl | (simp only [List.length_drop, List.length_take]; rfl)) ?_; (with_reducible refine (address_ValidPrefix.calls t164 t165 t166 t169 false _ A102.out).mono ?_); rintro e w143 ⟨rfl, hb⟩; refine ⟨_, rfl, ?_⟩; replace BK160 := Aside0.mk (blk_below (g := gb160) (o := .cells #[.bool false, .int .u64 0, .int .u64 0, .int .i64 0] 30 (0, 0)) (by refine zL ?_; refine blk_far ?_ NB160_170.out _; refine zL ?_; refine blk_far ?_ NB160_170.out _; refine zL ?_; refine blk_far ?_ NB160_170.out _; refine zL ?_; refine blk_far ?_ NB160_170.out _; refine zL ?_; exact BK160.out) hb); replace BK168 := Aside0.mk (blk_below (g := gb168) (o := .cells #[.bool t164, .int .u64 t165, .int .u64 t166] 25 (0, 0)) (by refine zL ?_; refine blk_far ?_ NB168_170.out _; refine zL ?_; refine blk_far ?_ NB168_170.out _; refine zL ?_; refine blk_far ?_ NB168_170.out _; refine zL ?_; refine blk_far ?_ NB168_170.out _; refine zL ?_; exact BK168.out) hb); replace BK170 := Aside0.mk (blk_below (g := gb170) (o := .cells #[.bool t164, .int .u64 t165, .int .u64 t166, .int .i64 t169] 30 (0, 0)) (by refine zL ?_; refine blk_put (cs := #[.bool t164, .int .u64 t165, .int .u64 t166, .int .i64 0]) ?_ 3 _ rfl; refine zL ?_; refine blk_put (cs := #[.bool t164, .int .u64 t165, .int .u64 0, .int .i64 0]) ?_ 2 _ rfl; refine zL ?_; refine blk_put (cs := #[.bool t164, .int .u64 0, .int .u64 0, .int .i64 0]) ?_ 1 _ rfl; refine zL ?_; refine blk_put (cs := #[.bool false, .int .u64 0, .int .u64 0, .int .i64 0]) ?_ 0 _ rfl; refine zL ?_; exact BK170.out) hb); replace HB := Aside0.mk (below_step (zB HB) hb); (try clear hb); obtain ⟨hcz144_0, hcz144_1, hcz144_2, hcz144_3⟩ := zc4 BK160; obtain ⟨hfz144_0, hfz144_1, hfz144_2, hfz144_3⟩ := zf4 BK160))
         refine bodyPost_ret (results_ct rfl _ _ gb160 30 #[.bool false, .int .u64 0, .int .u64 0, .int .i64 0] (0, 0) _ rfl (by refine zL ?_; refine blk_put (cs := #[.bool false, .int .u64 0, .int .u64 0, .int .i64 0]) ?_ 3 _ rfl; refine zL ?_; refine blk_put (cs := #[.bool false, .int .u64 0, .int .u64 0, .int .i64 0]) ?_ 2 _ rfl; refine zL ?_; refine blk_put (cs := #[.bool false, .int .u64 0, .int .u64 0, .int .i64 0]) ?_ 1 _ rfl; refine zL ?_; refine blk_put (cs := #[.bool false, .int .u64 0, .int .u64 0, .int .i64 0]) ?_ 0 _ rfl; refine zL ?_; exact BK160.out) Tryd.underlying30 rfl (by kernel_rfl)) rfl ?_
         exact ⟨by first | rfl | (simp [errW_none, errW_some] <;> rfl) | (simp [*, errW_none, errW_some] <;> rfl), by repeat (first | (with_reducible first | exact HB.out | apply below_alloc | apply pw_below_drewN | apply below_drew1 | refine below_set ?_ GE160.out | refine below_set ?_ GE168.out | refine below_set ?_ GE170.out) | exact HB.out)⟩
   · rw [if_neg c7] at H
     have c7b0 : (t167 == 0) = false := beq_eq_false_iff_ne.mpr c7
     have c7b1 : (t167 != 0) = true := bne_iff_ne.mpr c7
     simp only [Option.some.injEq, Prod.mk.injEq] at H
     obtain ⟨rfl, rfl, rfl, rfl, rfl⟩ := H
     go_enter Tryd.func13, Tryd.ntmps13
     go_wp2_with (first | ((with_reducible refine gate_dst (N := 2) rfl ?_); refine zx 2 #[.bool false, .int .u64 0, .int .u64 0, .int .i64 0] 30 ?_; intro gb160 hg w145 hbox hb; have BK160 := Aside0.mk (hbox); have GW160 := Aside0.mk ((by rw [hg]; exact (below_size (zB HB)) : w.heap.size ≤ gb160)); have GE160 := Aside0.mk ((by rw [hg]; exact (below_size (zB HB)) : w.heap.size ≤ gb160)); replace HB := Aside0.mk (below_step (zB HB) hb); clear hb hbox hg) | ((with_reducible refine gate_callee (f := 43) rfl ?_); refine goesL_ (some 18) rfl rfl Tryd.func43 (by kernel_rfl) rfl #[.string a0, .string (⟨#[47]⟩ : ByteArray)] rfl (by (try simp only [List.map_toArray, List.map_cons, List.map_nil]); first | done | rfl | (simp only [List.length_drop, List.length_take]; rfl)) ?_; (with_reducible refine (strings_Cut.calls a0 (⟨#[47]⟩ : ByteArray) t161 t162 t163 _ A5.out (WOK.below hW_ (zB HB))).mono ?_); rintro e w146 ⟨rfl, hb⟩; refine ⟨_, rfl, ?_⟩; replace BK160 := Aside0.mk (blk_below (g := gb160) (o := .cells #[.bool false, .int .u64 0, .int .u64 0, .int .i64 0] 30 (0, 0)) (zK BK160) hb); replace HB := Aside0.mk (below_step (zB HB) hb); (try clear hb)) | ((with_reducible refine gate_callee (f := 11) rfl ?_); refine goesL_ (some 24) rfl rfl Tryd.func11 (by kernel_rfl) rfl #[.string t161] rfl (by (try simp only [List.map_toArray, List.map_cons, List.map_nil]); first | done | rfl | (simp only [List.length_drop, List.length_take]; rfl)) ?_; (with_reducible refine (address_Parse.calls k t161 t164 t165 t166 t167 _ A6.out (WOK.below hW_ (zB HB))).mono ?_); rintro e w147 ⟨rfl, hb⟩; refine ⟨_, rfl, ?_⟩; replace BK160 := Aside0.mk (blk_below (g := gb160) (o := .cells #[.bool false, .int .u64 0, .int .u64 0, .int .i64 0] 30 (0, 0)) (zK BK160) hb); replace HB := Aside0.mk (below_step (zB HB) hb); (try clear hb)) | ((with_reducible refine gate_dst (N := 7) rfl ?_); refine zx 7 #[.bool false, .int .u64 0, .int .u64 0] 25 ?_; intro gb168 hg w148 hbox hb; have BK168 := Aside0.mk (hbox); have GW168 := Aside0.mk ((by rw [hg]; exact (below_size (zB HB)) : w.heap.size ≤ gb168)); have GE168 := Aside0.mk ((by rw [hg]; exact (below_size (zB HB)) : w.heap.size ≤ gb168)); replace HB := Aside0.mk (below_step (zB HB) hb); have NB160_168 := Aside0.mk ((by rw [hg]; exact Nat.ne_of_lt (blk_lt (g := gb160) (o := .cells #[.bool false, .int .u64 0, .int .u64 0, .int .i64 0] 30 (0, 0)) (zK BK160)) : gb160 ≠ gb168)); have NB168_160 := Aside0.mk ((by rw [hg]; exact Nat.ne_of_gt (blk_lt (g := gb160) (o := .cells #[.bool false, .int .u64 0, .int .u64 0, .int .i64 0] 30 (0, 0)) (zK BK160)) : gb168 ≠ gb160)); replace BK160 := Aside0.mk (blk_below (g := gb160) (o := .cells #[.bool false, .int .u64 0, .int .u64 0, .int .i64 0] 30 (0, 0)) (zK BK160) hb); clear hb hbox hg; have hnb149 := NB168_160.out; have hnc149 := NB160_168.out; obtain ⟨hcz150_0, hcz150_1, hcz150_2⟩ := zc3 BK168; obtain ⟨hfz150_0, hfz150_1, hfz150_2⟩ := zf3 BK168; obtain ⟨hcz151_0, hcz151_1, hcz151_2, hcz151_3⟩ := zc4 BK160; obtain ⟨hfz151_0, hfz151_1, hfz151_2, hfz151_3⟩ := zf4 BK160))
     refine bodyPost_ret (results_ct rfl _ _ gb160 30 #[.bool false, .int .u64 0, .int .u64 0, .int .i64 0] (0, 0) _ rfl (by refine zL ?_; refine blk_put (cs := #[.bool false, .int .u64 0, .int .u64 0, .int .i64 0]) ?_ 3 _ rfl; refine zL ?_; refine blk_put (cs := #[.bool false, .int .u64 0, .int .u64 0, .int .i64 0]) ?_ 2 _ rfl; refine zL ?_; refine blk_put (cs := #[.bool false, .int .u64 0, .int .u64 0, .int .i64 0]) ?_ 1 _ rfl; refine zL ?_; refine blk_put (cs := #[.bool false, .int .u64 0, .int .u64 0, .int .i64 0]) ?_ 0 _ rfl; refine zL ?_; refine blk_far ?_ NB160_168.out _; refine zL ?_; refine blk_far ?_ NB160_168.out _; refine zL ?_; refine blk_far ?_ NB160_168.out _; refine zL ?_; exact BK160.out) Tryd.underlying30 rfl (by kernel_rfl)) rfl ?_
     exact ⟨by first | rfl | (simp [errW_none, errW_some] <;> rfl) | (simp [*, errW_none, errW_some] <;> rfl), by repeat (first | (with_reducible first | exact HB.out | apply below_alloc | apply pw_below_drewN | apply below_drew1 | refine below_set ?_ GE160.out | refine below_set ?_ GE168.out) | exact HB.out)⟩
end Go.Proofs.YtlgfinnldhjgeaaDoor.Q
end

section
namespace Go.Proofs.YtlgfinnldhjgeaaDoor.Q
open Go.RowKit Go.Proofs.YtlgfinnldhjgeaaDoorW.PrintWords Go.Proofs.YtlgfinnldhjgeaaDoorW.PrintLast Go.Proofs.YtlgfinnldhjgeaaDoorW.PrintMore
attribute [local go_sem] max2_int min2_int max_two min_two max_three min_three max_four min_four
set_option linter.unusedVariables false
set_option linter.unusedSimpArgs false
def intrusionref06_Split.l0 : Nat → ByteArray → Int → List ByteArray → Int → Int → Option (List ByteArray)
  | 0, _, _, _, _, _ => none
  | k + 1, x0, x1, x5, x6, x7 => if x7 ≤ (x0.size : Int) then (if x7 = (x0.size : Int) then (if 0 ≤ x6 then (if x6 ≤ x7 then (if x5.length < 8796093022208 then (intrusionref06_Split.l0 k x0 x1 (x5 ++ [x0.extract (x6 : Int).toNat (x7 : Int).toNat]) (wrap64 (x7 + 1)) (wrap64 (x7 + 1))) else (none)) else (none)) else (none)) else (if 0 ≤ x7 then (if x7 < (x0.size : Int) then (if (bt x0 x7) = x1 then (if 0 ≤ x6 then (if x6 ≤ x7 then (if x5.length < 8796093022208 then (intrusionref06_Split.l0 k x0 x1 (x5 ++ [x0.extract (x6 : Int).toNat (x7 : Int).toNat]) (wrap64 (x7 + 1)) (wrap64 (x7 + 1))) else (none)) else (none)) else (none)) else (intrusionref06_Split.l0 k x0 x1 x5 x6 (wrap64 (x7 + 1)))) else (none)) else (none))) else (some x5)
def intrusionref06_Split.f (k : Nat) (a0 : ByteArray) (a1 : Int) : Option (List ByteArray) := intrusionref06_Split.l0 k a0 a1 ([] : List ByteArray) 0 0
theorem intrusionref06_Split.mono_l : ∀ k, (∀ y0 y1 y2 y3 y4, LeO (intrusionref06_Split.l0 k y0 y1 y2 y3 y4) (intrusionref06_Split.l0 (k + 1) y0 y1 y2 y3 y4))
  | 0 => fun _ _ _ _ _ r h => by simp [intrusionref06_Split.l0] at h
  | k + 1 => by
    have ih0 := intrusionref06_Split.mono_l k
    · intro y0 y1 y2 y3 y4
      unfold intrusionref06_Split.l0
      repeat' first
      | (with_reducible exact ih0 _ _ _ _ _)
      | (with_reducible exact LeO.refl _)
      | (with_reducible exact LeO.none _)
      | (with_reducible refine LeO.ite ?_ ?_)
      | (with_reducible refine LeO.bind ?_ (fun _ => ?_))
      | exact ih0 _ _ _ _ _
      | exact LeO.none _
      | refine LeO.ite ?_ ?_
      | refine LeO.bind ?_ (fun _ => ?_)
theorem intrusionref06_Split.mono : ∀ a0 a1 k, LeO (intrusionref06_Split.f k a0 a1) (intrusionref06_Split.f (k + 1) a0 a1) := by
  intro a0 a1 k
  have ih0 := intrusionref06_Split.mono_l k
  unfold intrusionref06_Split.f
  repeat' first
      | (with_reducible exact ih0 _ _ _ _ _)
      | (with_reducible exact LeO.refl _)
      | (with_reducible exact LeO.none _)
      | (with_reducible refine LeO.ite ?_ ?_)
      | (with_reducible refine LeO.bind ?_ (fun _ => ?_))
      | exact ih0 _ _ _ _ _
      | exact LeO.none _
      | refine LeO.ite ?_ ?_
      | refine LeO.bind ?_ (fun _ => ?_)
set_option maxHeartbeats 8000000 in
set_option maxRecDepth 100000 in
theorem intrusionref06_Split.calls (k : Nat) (a0 : ByteArray) (a1 : Int) (r : List ByteArray) (w : World) (h : intrusionref06_Split.f k a0 a1 = some r) :
 Calls Tryd.prog 46 #[.string a0, .int .u8 a1] w fun e w' => ∃ v0_ : Value, e = .returned (v0_) ∧ Kd.R Kd.string 9 w' w.heap.size (fun _ => True) v0_ r ∧ Below w.heap.size w w' := by
 have HB := Aside0.mk (Below.refl w.heap.size w)
 unfold intrusionref06_Split.f at h; have H := h
 clear h
 have H' := Aside0.mk H
 clear H
 go_enter Tryd.func46, Tryd.ntmps46
 go_wp2
 go_loopg [5, 6, 7] k (fun kq v5 v6 v7 w' => ∃ (x5_1 : List ByteArray) (x6_1 : Int) (x7_1 : Int), v6 = .int .i64 x6_1 ∧ v7 = .int .i64 x7_1 ∧ Aside0 (intrusionref06_Split.l0 kq a0 a1 x5_1 x6_1 x7_1 = some r) ∧ Aside0 (kq ≤ k) ∧ Aside0 (Kd.R Kd.string 9 w' w.heap.size (fun _ => True) v5 x5_1) ∧ Aside0 (Below w.heap.size w w'))
 case atStart => exact ⟨(([] : List ByteArray)), (0), (0), (by first | rfl | (simp; done) | (simp [*]; done)), (by first | rfl | (simp; done) | (simp [*]; done)), H', ⟨Nat.le_refl _⟩, ⟨by first | exact Kd.R_nil _ _ _ _ _ | exact Kd.N_nil _ _ _ _ _ | exact Kd.V_nil _ _ _ _ _ | exact Kd.Q_nil _ _ _ _ _ | exact Kd.S_nil _ _ _ _ _⟩, ⟨zB HB⟩⟩
 case round =>
  clear H'
  try clear p2
  obtain ⟨x5_1, x6_1, x7_1, rfl, rfl, HA, HK1, HO_5, HB⟩ := hrel
  cases gk with
  | zero => exact absurd HA.out (by simp [intrusionref06_Split.l0])
  | succ k1 =>
   have H := HA.out
   clear HA
   simp only [intrusionref06_Split.l0] at H
   by_cases c3 : x7_1 ≤ (a0.size : Int)
   · rw [if_pos c3] at H
     have c3b0 : decide (x7_1 ≤ (a0.size : Int)) = true := decide_eq_true c3
     clear c3
     by_cases c4 : x7_1 = (a0.size : Int)
     · rw [if_pos c4] at H
       have c4b0 : (x7_1 == (a0.size : Int)) = true := beq_iff_eq.mpr c4
       have c4b1 : (x7_1 != (a0.size : Int)) = false := bne_eq_false_iff_eq.mpr c4
       clear c4
       by_cases c5 : 0 ≤ x6_1
       · rw [if_pos c5] at H
         have c5b0 := eq_true c5
         have c5b1 : decide (0 ≤ x6_1) = true := decide_eq_true c5
         clear c5
         by_cases c6 : x6_1 ≤ x7_1
         · rw [if_pos c6] at H
           have c6b0 := eq_true c6
           have c6b1 : decide (x6_1 ≤ x7_1) = true := decide_eq_true c6
           clear c6
           have c7b0 := eq_true (of_decide_eq_true (by first | (with_reducible assumption) | assumption) : x7_1 ≤ (a0.size : Int))
           by_cases c8 : x5_1.length < 8796093022208
           · rw [if_pos c8] at H
             have LMc8 := Aside0.mk c8
             clear c8
             obtain ⟨y186, hy186⟩ : ∃ y_ : List ByteArray, y_ = (x5_1 ++ [a0.extract (x6_1 : Int).toNat (x7_1 : Int).toNat]) := ⟨_, rfl⟩
             rw [← hy186] at H; try dsimp only [Option.bind_some] at H
             have Ny186 := Aside0.mk hy186
             clear hy186
             have H' := Aside0.mk H
             clear H
             go_wp2_with (first | ((with_reducible refine gate_builtin (b := .append) (xs := #[.tmp 25, .tmp 30]) rfl ?_); at_builtin; refine Kd.R_append Kd.string (w0 := w) w.heap.size rfl (.tmp 25) (.tmp 30) 56 9 (.string ⟨#[]⟩) 16 rfl Tryd.underlying56 info9 rfl (by decide) (by omega) u5 x5_1 (a0.extract (x6_1 : Int).toNat (x7_1 : Int).toNat) [.string (a0.extract (x6_1 : Int).toNat (x7_1 : Int).toNat)] (fun _ => True) (fun _ => False) rfl rfl ?aP (fun _ hk => hk.elim) ?aF ?aO ?aB ?aS ?aL ?_; (case aP => exact rfl); (case aB => exact (zB HB)); (case aF => exact (fun _ _ => trivial)); (case aO => exact (zR HO_5)); (case aS => exact (below_size (zB HB))); (case aL => have := LMc8.out; omega); intro v187 w9 ho hb hg hat; rw [← Ny186.out] at ho; replace HB := Aside0.mk (hb); have HO188 := Aside0.mk (ho); clear HO_5; clear ho hb hg hat))
             go_roundg k1
             case measure => have := HK1.out; omega
             case rel => exact ⟨(y186), (wrap64 (x7_1 + 1)), (wrap64 (x7_1 + 1)), (by first | rfl | (simp; done) | (simp [*]; done)), (by first | rfl | (simp; done) | (simp [*]; done)), H', ⟨by have := HK1.out; omega⟩, ⟨zR HO188⟩, ⟨zB HB⟩⟩
           · rw [if_neg c8] at H
             exact absurd H (by simp)
         · rw [if_neg c6] at H
           exact absurd H (by simp)
       · rw [if_neg c5] at H
         exact absurd H (by simp)
     · rw [if_neg c4] at H
       have c4b0 : (x7_1 == (a0.size : Int)) = false := beq_eq_false_iff_ne.mpr c4
       have c4b1 : (x7_1 != (a0.size : Int)) = true := bne_iff_ne.mpr c4
       by_cases c10 : 0 ≤ x7_1
       · rw [if_pos c10] at H
         have c10b0 : decide (0 ≤ x7_1) = true := decide_eq_true c10
         clear c10
         by_cases c11 : x7_1 < (a0.size : Int)
         · rw [if_pos c11] at H
           have c11b0 : decide (x7_1 < (a0.size : Int)) = true := decide_eq_true c11
           clear c11
           by_cases c13 : (bt a0 x7_1) = a1
           · rw [if_pos c13] at H
             have c13b0 : ((bt a0 x7_1) == a1) = true := beq_iff_eq.mpr c13
             have c13b1 : ((bt a0 x7_1) != a1) = false := bne_eq_false_iff_eq.mpr c13
             clear c13
             by_cases c14 : 0 ≤ x6_1
             · rw [if_pos c14] at H
               have c14b0 := eq_true c14
               have c14b1 : decide (0 ≤ x6_1) = true := decide_eq_true c14
               clear c14
               by_cases c15 : x6_1 ≤ x7_1
               · rw [if_pos c15] at H
                 have c15b0 := eq_true c15
                 have c15b1 : decide (x6_1 ≤ x7_1) = true := decide_eq_true c15
                 clear c15
                 have c16b0 := eq_true (of_decide_eq_true (by first | (with_reducible assumption) | assumption) : x7_1 ≤ (a0.size : Int))
                 by_cases c17 : x5_1.length < 8796093022208
                 · rw [if_pos c17] at H
                   have LMc17 := Aside0.mk c17
                   clear c17
                   obtain ⟨y189, hy189⟩ : ∃ y_ : List ByteArray, y_ = (x5_1 ++ [a0.extract (x6_1 : Int).toNat (x7_1 : Int).toNat]) := ⟨_, rfl⟩
                   rw [← hy189] at H; try dsimp only [Option.bind_some] at H
                   have Ny189 := Aside0.mk hy189
                   clear hy189
                   have H' := Aside0.mk H
                   clear H
                   have p12 : 0 ≤ (x7_1 : Int) := za
                   have q12 : x7_1 < (a0.size : Int) := za
                   have hx12 := bt_at a0 x7_1
                   replace p12 := eq_true p12
                   replace q12 := eq_true q12
                   go_wp2_with (first | ((with_reducible refine gate_builtin (b := .append) (xs := #[.tmp 25, .tmp 30]) rfl ?_); at_builtin; refine Kd.R_append Kd.string (w0 := w) w.heap.size rfl (.tmp 25) (.tmp 30) 56 9 (.string ⟨#[]⟩) 16 rfl Tryd.underlying56 info9 rfl (by decide) (by omega) u5 x5_1 (a0.extract (x6_1 : Int).toNat (x7_1 : Int).toNat) [.string (a0.extract (x6_1 : Int).toNat (x7_1 : Int).toNat)] (fun _ => True) (fun _ => False) rfl rfl ?aP (fun _ hk => hk.elim) ?aF ?aO ?aB ?aS ?aL ?_; (case aP => exact rfl); (case aB => exact (zB HB)); (case aF => exact (fun _ _ => trivial)); (case aO => exact (zR HO_5)); (case aS => exact (below_size (zB HB))); (case aL => have := LMc17.out; omega); intro v190 w18 ho hb hg hat; rw [← Ny189.out] at ho; replace HB := Aside0.mk (hb); have HO191 := Aside0.mk (ho); clear HO_5; clear ho hb hg hat))
                   go_roundg k1
                   case measure => have := HK1.out; omega
                   case rel => exact ⟨(y189), (wrap64 (x7_1 + 1)), (wrap64 (x7_1 + 1)), (by first | rfl | (simp; done) | (simp [*]; done)), (by first | rfl | (simp; done) | (simp [*]; done)), H', ⟨by have := HK1.out; omega⟩, ⟨zR HO191⟩, ⟨zB HB⟩⟩
                 · rw [if_neg c17] at H
                   exact absurd H (by simp)
               · rw [if_neg c15] at H
                 exact absurd H (by simp)
             · rw [if_neg c14] at H
               exact absurd H (by simp)
           · rw [if_neg c13] at H
             have c13b0 : ((bt a0 x7_1) == a1) = false := beq_eq_false_iff_ne.mpr c13
             have c13b1 : ((bt a0 x7_1) != a1) = true := bne_iff_ne.mpr c13
             have H' := Aside0.mk H
             clear H
             have p12 : 0 ≤ (x7_1 : Int) := za
             have q12 : x7_1 < (a0.size : Int) := za
             have hx12 := bt_at a0 x7_1
             replace p12 := eq_true p12
             replace q12 := eq_true q12
             go_wp2
             go_roundg k1
             case measure => have := HK1.out; omega
             case rel => exact ⟨(x5_1), (x6_1), (wrap64 (x7_1 + 1)), (by first | rfl | (simp; done) | (simp [*]; done)), (by first | rfl | (simp; done) | (simp [*]; done)), H', ⟨by have := HK1.out; omega⟩, ⟨zR HO_5⟩, ⟨zB HB⟩⟩
         · rw [if_neg c11] at H
           exact absurd H (by simp)
       · rw [if_neg c10] at H
         exact absurd H (by simp)
   · rw [if_neg c3] at H
     have c3b0 : decide (x7_1 ≤ (a0.size : Int)) = false := decide_eq_false c3
     clear c3
     obtain rfl := Option.some.inj H
     go_wp2
     go_ret
     exact ⟨_, by first | rfl | (simp [errW_none, errW_some] <;> rfl) | (simp [*, errW_none, errW_some] <;> rfl), by (with_reducible repeat (first | apply Kd.R_alloc | apply Kd.R_drewN | apply Kd.R_drew)); exact HO_5.out, by repeat (first | (with_reducible first | exact HB.out | apply below_alloc | apply pw_below_drewN | apply below_drew1) | exact HB.out)⟩
end Go.Proofs.YtlgfinnldhjgeaaDoor.Q
end

section
namespace Go.Proofs.YtlgfinnldhjgeaaDoor.Q
open Go.RowKit Go.Proofs.YtlgfinnldhjgeaaDoorW.PrintWords Go.Proofs.YtlgfinnldhjgeaaDoorW.PrintLast Go.Proofs.YtlgfinnldhjgeaaDoorW.PrintMore
attribute [local go_sem] max2_int min2_int max_two min_two max_three min_three max_four min_four
set_option linter.unusedVariables false
set_option linter.unusedSimpArgs false
mutual
def intrusionref06_Decimal.j0 : Nat → ByteArray → Int → Bool → Option (Int)
  | 0, _, _, _ => none
  | k + 1, x0, x1, x19 => if x19 = true then (some (-1)) else (intrusionref06_Decimal.l0 k x0 x1 0 0)
def intrusionref06_Decimal.l0 : Nat → ByteArray → Int → Int → Int → Option (Int)
  | 0, _, _, _, _ => none
  | k + 1, x0, x1, x5, x6 => if x6 < (x0.size : Int) then (if 0 ≤ x6 then (if (bt x0 x6) < 48 then (some (-1)) else (if (bt x0 x6) > 57 then (some (-1)) else (intrusionref06_Decimal.l0 k x0 x1 (mn (wrap64 ((wrap64 ((wrap64 (10 * x5)) + (wrap64 (bt x0 x6)))) - 48)) (wrap64 (x1 + 1))) (wrap64 (x6 + 1))))) else (none)) else (if x5 > x1 then (some (-2)) else (some x5))
end
def intrusionref06_Decimal.f (k : Nat) (a0 : ByteArray) (a1 : Int) : Option (Int) := if (a0.size : Int) = 0 then (intrusionref06_Decimal.j0 k a0 a1 true) else (if (a0.size : Int) > 1 then (if 0 < (a0.size : Int) then (intrusionref06_Decimal.j0 k a0 a1 ((bt a0 0) == 48)) else (none)) else (intrusionref06_Decimal.j0 k a0 a1 false))
theorem intrusionref06_Decimal.mono_l : ∀ k, (∀ y0 y1 y2, LeO (intrusionref06_Decimal.j0 k y0 y1 y2) (intrusionref06_Decimal.j0 (k + 1) y0 y1 y2)) ∧ (∀ y0 y1 y2 y3, LeO (intrusionref06_Decimal.l0 k y0 y1 y2 y3) (intrusionref06_Decimal.l0 (k + 1) y0 y1 y2 y3))
  | 0 => ⟨fun _ _ _ r h => by simp [intrusionref06_Decimal.j0] at h, fun _ _ _ _ r h => by simp [intrusionref06_Decimal.l0] at h⟩
  | k + 1 => by
    obtain ⟨ih0, ih1⟩ := intrusionref06_Decimal.mono_l k
    refine ⟨?_, ?_⟩
    · intro y0 y1 y2
      unfold intrusionref06_Decimal.j0
      repeat' first
      | (with_reducible exact ih0 _ _ _)
      | (with_reducible exact ih1 _ _ _ _)
      | (with_reducible exact LeO.refl _)
      | (with_reducible exact LeO.none _)
      | (with_reducible refine LeO.ite ?_ ?_)
      | (with_reducible refine LeO.bind ?_ (fun _ => ?_))
      | exact ih0 _ _ _
      | exact ih1 _ _ _ _
      | exact LeO.none _
      | refine LeO.ite ?_ ?_
      | refine LeO.bind ?_ (fun _ => ?_)
    · intro y0 y1 y2 y3
      unfold intrusionref06_Decimal.l0
      repeat' first
      | (with_reducible exact ih0 _ _ _)
      | (with_reducible exact ih1 _ _ _ _)
      | (with_reducible exact LeO.refl _)
      | (with_reducible exact LeO.none _)
      | (with_reducible refine LeO.ite ?_ ?_)
      | (with_reducible refine LeO.bind ?_ (fun _ => ?_))
      | exact ih0 _ _ _
      | exact ih1 _ _ _ _
      | exact LeO.none _
      | refine LeO.ite ?_ ?_
      | refine LeO.bind ?_ (fun _ => ?_)
theorem intrusionref06_Decimal.mono : ∀ a0 a1 k, LeO (intrusionref06_Decimal.f k a0 a1) (intrusionref06_Decimal.f (k + 1) a0 a1) := by
  intro a0 a1 k
  obtain ⟨ih0, ih1⟩ := intrusionref06_Decimal.mono_l k
  unfold intrusionref06_Decimal.f
  repeat' first
      | (with_reducible exact ih0 _ _ _)
      | (with_reducible exact ih1 _ _ _ _)
      | (with_reducible exact LeO.refl _)
      | (with_reducible exact LeO.none _)
      | (with_reducible refine LeO.ite ?_ ?_)
      | (with_reducible refine LeO.bind ?_ (fun _ => ?_))
      | exact ih0 _ _ _
      | exact ih1 _ _ _ _
      | exact LeO.none _
      | refine LeO.ite ?_ ?_
      | refine LeO.bind ?_ (fun _ => ?_)
set_option maxHeartbeats 8000000 in
set_option maxRecDepth 100000 in
theorem intrusionref06_Decimal.calls (k : Nat) (a0 : ByteArray) (a1 : Int) (r : Int) (w : World) (h : intrusionref06_Decimal.f k a0 a1 = some r) :
 Calls Tryd.prog 48 #[.string a0, .int .i64 a1] w fun e w' => e = .returned (.int .i64 r) ∧ Below w.heap.size w w' := by
 have HB := Aside0.mk (Below.refl w.heap.size w)
 unfold intrusionref06_Decimal.f at h; have H := h
 clear h
 have HC3 := Aside0.mk H
 clear H
 go_enter Tryd.func48, Tryd.ntmps48
 go_upto_region 1 with (fail)
 go_cut [19] (fun v19 wc => ∃ (kq : Nat) (x19_2 : Bool), v19 = .bool x19_2 ∧ Aside0 (intrusionref06_Decimal.j0 kq a0 a1 x19_2 = some r) ∧ Aside0 (kq ≤ k) ∧ Aside0 (Below w.heap.size w wc))
 case first =>
  have H := HC3.out
  clear HC3
  by_cases c4 : (a0.size : Int) = 0
  · rw [if_pos c4] at H
    have c4b0 : ((a0.size : Int) == 0) = true := beq_iff_eq.mpr c4
    have c4b1 : ((a0.size : Int) != 0) = false := bne_eq_false_iff_eq.mpr c4
    clear c4
    (first | rw [c4b0] | (simp only [i64_w, i32_w]; rw [c4b0]) | skip)
    have H' := Aside0.mk H
    clear H
    go_wp2
    go_meet
    case rel => exact ⟨_, (true), (by first | rfl | (simp; done) | (simp [*]; done)), H', ⟨by first | omega | exact Nat.le_refl _⟩, ⟨zB HB⟩⟩
  · rw [if_neg c4] at H
    have c4b0 : ((a0.size : Int) == 0) = false := beq_eq_false_iff_ne.mpr c4
    have c4b1 : ((a0.size : Int) != 0) = true := bne_iff_ne.mpr c4
    (first | rw [c4b0] | (simp only [i64_w, i32_w]; rw [c4b0]) | skip)
    by_cases c5 : (a0.size : Int) > 1
    · rw [if_pos c5] at H
      have c5b0 : decide (1 < (a0.size : Int)) = true := decide_eq_true c5
      have c5b1 : decide (1 < a0.size) = true := decide_eq_true (by omega)
      clear c5
      by_cases c6 : 0 < (a0.size : Int)
      · rw [if_pos c6] at H
        have c6b0 : decide (0 < (a0.size : Int)) = true := decide_eq_true c6
        have c6b1 : decide (0 < a0.size) = true := decide_eq_true (by omega)
        clear c6
        have H' := Aside0.mk H
        clear H
        have p7 : 0 ≤ (0 : Int) := (by omega)
        have q7 : 0 < a0.size := (by have : (0 : Int) < (a0.size : Int) := za; omega)
        have hx7 : ∀ h : 0 < a0.size, ((a0[0]'h).toNat : Int) = bt a0 0 := bt_at a0 0
        clear p7
        have qi7 : (0 < (a0.size : Int)) = True := eq_true (of_decide_eq_true (by first | (with_reducible assumption) | assumption))
        replace q7 := eq_true q7
        go_wp2
        go_meet
        case rel => exact ⟨_, (((bt a0 0) == 48)), (by first | rfl | (simp; done) | (simp [*]; done)), H', ⟨by first | omega | exact Nat.le_refl _⟩, ⟨zB HB⟩⟩
      · rw [if_neg c6] at H
        exact absurd H (by simp)
    · rw [if_neg c5] at H
      have c5b0 : decide (1 < (a0.size : Int)) = false := decide_eq_false c5
      have c5b1 : decide (1 < a0.size) = false := decide_eq_false (by omega)
      clear c5
      have H' := Aside0.mk H
      clear H
      go_wp2
      go_meet
      case rel => exact ⟨_, (false), (by first | rfl | (simp; done) | (simp [*]; done)), H', ⟨by first | omega | exact Nat.le_refl _⟩, ⟨zB HB⟩⟩
 case rest =>
  clear HC3
  try clear p2
  try clear c4
  try clear c4b0
  try clear c4b1
  try clear c5
  try clear c5b0
  try clear c5b1
  try clear c6
  try clear c6b0
  try clear c6b1
  try clear p7
  try clear q7
  try clear hx7
  try clear qi7
  try clear p7
  try clear q7
  obtain ⟨kq, x19_2, rfl, HA, HJ2, HB⟩ := hcut
  cases kq with
  | zero => exact absurd HA.out (by simp [intrusionref06_Decimal.j0])
  | succ kj2 =>
   have H := HA.out
   clear HA
   simp only [intrusionref06_Decimal.j0] at H
   by_cases c8 : x19_2 = true
   · subst c8
     rw [if_pos rfl] at H
     obtain rfl := Option.some.inj H
     go_wp2
     go_ret
     exact ⟨by first | rfl | (simp [errW_none, errW_some] <;> rfl) | (simp [*, errW_none, errW_some] <;> rfl), by repeat (first | (with_reducible first | exact HB.out | apply below_alloc | apply pw_below_drewN | apply below_drew1) | exact HB.out)⟩
   · replace c8 := Bool.eq_false_iff.mpr c8
     subst c8
     rw [if_neg zF] at H
     have H' := Aside0.mk H
     clear H
     go_wp2
     go_loopg [5, 6] kj2 (fun kq v5 v6 w' => ∃ (x5_2 : Int) (x6_2 : Int), v5 = .int .i64 x5_2 ∧ v6 = .int .i64 x6_2 ∧ Aside0 (intrusionref06_Decimal.l0 kq a0 a1 x5_2 x6_2 = some r) ∧ Aside0 (kq ≤ kj2) ∧ Aside0 (Below w.heap.size w w'))
     case atStart => exact ⟨(0), (0), (by first | rfl | (simp; done) | (simp [*]; done)), (by first | rfl | (simp; done) | (simp [*]; done)), H', ⟨Nat.le_refl _⟩, ⟨zB HB⟩⟩
     case round =>
      clear H'
      try clear p2
      try clear c4
      try clear c4b0
      try clear c4b1
      try clear c5
      try clear c5b0
      try clear c5b1
      try clear c6
      try clear c6b0
      try clear c6b1
      try clear p7
      try clear q7
      try clear hx7
      try clear qi7
      try clear c8
      try clear p2
      try clear p7
      try clear q7
      obtain ⟨x5_2, x6_2, rfl, rfl, HA, HK2, HB⟩ := hrel
      cases gk with
      | zero => exact absurd HA.out (by simp [intrusionref06_Decimal.l0])
      | succ k2 =>
       have H := HA.out
       clear HA
       simp only [intrusionref06_Decimal.l0] at H
       by_cases c9 : x6_2 < (a0.size : Int)
       · rw [if_pos c9] at H
         have c9b0 : decide (x6_2 < (a0.size : Int)) = true := decide_eq_true c9
         clear c9
         by_cases c10 : 0 ≤ x6_2
         · rw [if_pos c10] at H
           have c10b0 : decide (0 ≤ x6_2) = true := decide_eq_true c10
           clear c10
           by_cases c12 : (bt a0 x6_2) < 48
           · rw [if_pos c12] at H
             have c12b0 : decide ((bt a0 x6_2) < 48) = true := decide_eq_true c12
             clear c12
             obtain rfl := Option.some.inj H
             have p11 : 0 ≤ (x6_2 : Int) := za
             have q11 : x6_2 < (a0.size : Int) := za
             have hx11 := bt_at a0 x6_2
             replace p11 := eq_true p11
             replace q11 := eq_true q11
             go_wp2
             go_ret
             exact ⟨by first | rfl | (simp [errW_none, errW_some] <;> rfl) | (simp [*, errW_none, errW_some] <;> rfl), by repeat (first | (with_reducible first | exact HB.out | apply below_alloc | apply pw_below_drewN | apply below_drew1) | exact HB.out)⟩
           · rw [if_neg c12] at H
             have c12b0 : decide ((bt a0 x6_2) < 48) = false := decide_eq_false c12
             clear c12
             by_cases c14 : (bt a0 x6_2) > 57
             · rw [if_pos c14] at H
               have c14b0 : decide (57 < (bt a0 x6_2)) = true := decide_eq_true c14
               clear c14
               obtain rfl := Option.some.inj H
               have p11 : 0 ≤ (x6_2 : Int) := za
               have q11 : x6_2 < (a0.size : Int) := za
               have hx11 := bt_at a0 x6_2
               replace p11 := eq_true p11
               replace q11 := eq_true q11
               have p13 : 0 ≤ (x6_2 : Int) := za
               have q13 : x6_2 < (a0.size : Int) := za
               have hx13 := bt_at a0 x6_2
               replace p13 := eq_true p13
               replace q13 := eq_true q13
               go_wp2
               go_ret
               exact ⟨by first | rfl | (simp [errW_none, errW_some] <;> rfl) | (simp [*, errW_none, errW_some] <;> rfl), by repeat (first | (with_reducible first | exact HB.out | apply below_alloc | apply pw_below_drewN | apply below_drew1) | exact HB.out)⟩
             · rw [if_neg c14] at H
               have c14b0 : decide (57 < (bt a0 x6_2)) = false := decide_eq_false c14
               clear c14
               obtain ⟨ji16, hji16⟩ : ∃ j_ : Int, (mn (wrap64 ((wrap64 ((wrap64 (10 * x5_2)) + (wrap64 (bt a0 x6_2)))) - 48)) (wrap64 (a1 + 1))) = j_ := ⟨_, rfl⟩
               replace H : (intrusionref06_Decimal.l0 k2 a0 a1 ji16 (wrap64 (x6_2 + 1))) = some r := by first | (rw [hji16] at H; exact H) | (simp only [hji16] at H ⊢; exact H)
               have hji16_ : (if (wrap64 (a1 + 1)) < (wrap64 ((wrap64 ((wrap64 (10 * x5_2)) + (wrap64 (bt a0 x6_2)))) - 48)) then (wrap64 (a1 + 1)) else (wrap64 ((wrap64 ((wrap64 (10 * x5_2)) + (wrap64 (bt a0 x6_2)))) - 48))) = ji16 := hji16
               have H' := Aside0.mk H
               clear H
               have p11 : 0 ≤ (x6_2 : Int) := za
               have q11 : x6_2 < (a0.size : Int) := za
               have hx11 := bt_at a0 x6_2
               replace p11 := eq_true p11
               replace q11 := eq_true q11
               have p13 : 0 ≤ (x6_2 : Int) := za
               have q13 : x6_2 < (a0.size : Int) := za
               have hx13 := bt_at a0 x6_2
               replace p13 := eq_true p13
               replace q13 := eq_true q13
               have p15 : 0 ≤ (x6_2 : Int) := za
               have q15 : x6_2 < (a0.size : Int) := za
               have hx15 := bt_at a0 x6_2
               replace p15 := eq_true p15
               replace q15 := eq_true q15
               go_wp2
               go_roundg k2
               case measure => have := HJ2.out; have := HK2.out; omega
               case rel => exact ⟨(ji16), (wrap64 (x6_2 + 1)), (by first | rfl | (simp; done) | (simp only [← hji16] <;> (first | rfl | simp)) | (simp [*]; done)), (by first | rfl | (simp; done) | (simp [*]; done)), H', ⟨by have := HJ2.out; have := HK2.out; omega⟩, ⟨zB HB⟩⟩
         · rw [if_neg c10] at H
           exact absurd H (by simp)
       · rw [if_neg c9] at H
         have c9b0 : decide (x6_2 < (a0.size : Int)) = false := decide_eq_false c9
         clear c9
         by_cases c17 : x5_2 > a1
         · rw [if_pos c17] at H
           have c17b0 : decide (a1 < x5_2) = true := decide_eq_true c17
           clear c17
           obtain rfl := Option.some.inj H
           go_wp2
           go_ret
           exact ⟨by first | rfl | (simp [errW_none, errW_some] <;> rfl) | (simp [*, errW_none, errW_some] <;> rfl), by repeat (first | (with_reducible first | exact HB.out | apply below_alloc | apply pw_below_drewN | apply below_drew1) | exact HB.out)⟩
         · rw [if_neg c17] at H
           have c17b0 : decide (a1 < x5_2) = false := decide_eq_false c17
           clear c17
           obtain rfl := Option.some.inj H
           go_wp2
           go_ret
           exact ⟨by first | rfl | (simp [errW_none, errW_some] <;> rfl) | (simp [*, errW_none, errW_some] <;> rfl), by repeat (first | (with_reducible first | exact HB.out | apply below_alloc | apply pw_below_drewN | apply below_drew1) | exact HB.out)⟩
end Go.Proofs.YtlgfinnldhjgeaaDoor.Q
end

section
namespace Go.Proofs.YtlgfinnldhjgeaaDoor.Q
open Go.RowKit Go.Proofs.YtlgfinnldhjgeaaDoorW.PrintWords Go.Proofs.YtlgfinnldhjgeaaDoorW.PrintLast Go.Proofs.YtlgfinnldhjgeaaDoorW.PrintMore
attribute [local go_sem] max2_int min2_int max_two min_two max_three min_three max_four min_four
set_option linter.unusedVariables false
set_option linter.unusedSimpArgs false
def intrusionref06_parse4.l0 : Nat → List ByteArray → Int → Bool → Int → Int → Option (Bool × Int × Int × Bool)
  | 0, _, _, _, _, _ => none
  | k + 1, x4, x6, x197000, x197001, x197002 => if x6 < 4 then (if 0 ≤ x6 then (if x6 < (x4.length : Int) then ((intrusionref06_Decimal.f k (rdOf ByteArray.empty x4 x6) 255).bind fun t198 => (if t198 < 0 then (some (false, 0, 0, false)) else (intrusionref06_parse4.l0 k x4 (wrap64 (x6 + 1)) x197000 x197001 (Go.bits .or .u64 (IntKind.u64.wrap (x197002 * 256)) (IntKind.u64.wrap (t198)))))) else (none)) else (none)) else (some (x197000, x197001, x197002, true))
def intrusionref06_parse4.f (k : Nat) (a0 : ByteArray) : Option (Bool × Int × Int × Bool) := (intrusionref06_Split.f k a0 46).bind fun t193 => (if (t193.length : Int) = 4 then (intrusionref06_parse4.l0 k t193 0 false 0 0) else (some (false, 0, 0, false)))
theorem intrusionref06_parse4.mono_l : ∀ k, (∀ y0 y1 y2 y3 y4, LeO (intrusionref06_parse4.l0 k y0 y1 y2 y3 y4) (intrusionref06_parse4.l0 (k + 1) y0 y1 y2 y3 y4))
  | 0 => fun _ _ _ _ _ r h => by simp [intrusionref06_parse4.l0] at h
  | k + 1 => by
    have ih0 := intrusionref06_parse4.mono_l k
    · intro y0 y1 y2 y3 y4
      unfold intrusionref06_parse4.l0
      repeat' first
      | (with_reducible exact ih0 _ _ _ _ _)
      | (with_reducible exact intrusionref06_Decimal.mono _ _ _)
      | (with_reducible exact intrusionref06_Split.mono _ _ _)
      | (with_reducible exact LeO.refl _)
      | (with_reducible exact LeO.none _)
      | (with_reducible refine LeO.ite ?_ ?_)
      | (with_reducible refine LeO.bind ?_ (fun _ => ?_))
      | exact ih0 _ _ _ _ _
      | exact intrusionref06_Decimal.mono _ _ _
      | exact intrusionref06_Split.mono _ _ _
      | exact LeO.none _
      | refine LeO.ite ?_ ?_
      | refine LeO.bind ?_ (fun _ => ?_)
theorem intrusionref06_parse4.mono : ∀ a0 k, LeO (intrusionref06_parse4.f k a0) (intrusionref06_parse4.f (k + 1) a0) := by
  intro a0 k
  have ih0 := intrusionref06_parse4.mono_l k
  unfold intrusionref06_parse4.f
  repeat' first
      | (with_reducible exact ih0 _ _ _ _ _)
      | (with_reducible exact intrusionref06_Decimal.mono _ _ _)
      | (with_reducible exact intrusionref06_Split.mono _ _ _)
      | (with_reducible exact LeO.refl _)
      | (with_reducible exact LeO.none _)
      | (with_reducible refine LeO.ite ?_ ?_)
      | (with_reducible refine LeO.bind ?_ (fun _ => ?_))
      | exact ih0 _ _ _ _ _
      | exact intrusionref06_Decimal.mono _ _ _
      | exact intrusionref06_Split.mono _ _ _
      | exact LeO.none _
      | refine LeO.ite ?_ ?_
      | refine LeO.bind ?_ (fun _ => ?_)
set_option maxHeartbeats 8000000 in
set_option maxRecDepth 100000 in
theorem intrusionref06_parse4.calls (k : Nat) (a0 : ByteArray) (r1 : Bool) (r2 : Int) (r3 : Int) (r4 : Bool) (w : World) (h : intrusionref06_parse4.f k a0 = some (r1, r2, r3, r4)) :
 Calls Tryd.prog 41 #[.string a0] w fun e w' => e = .returned (.tuple #[.agg #[.bool r1, .int .u64 r2, .int .u64 r3], .bool r4]) ∧ Below w.heap.size w w' := by
 have hu25 := Tryd.underlying25
 have HB := Aside0.mk (Below.refl w.heap.size w)
 unfold intrusionref06_parse4.f at h; have H := h
 clear h
 replace H := Option.bind_eq_some_iff.mp H
 obtain ⟨t193, A20, H⟩ := H
 replace H : (if (t193.length : Int) = 4 then (intrusionref06_parse4.l0 k t193 0 false 0 0) else (some (false, 0, 0, false))) = some (r1, r2, r3, r4) := H
 have A2 := Aside0.mk A20
 clear A20
 by_cases c3 : (t193.length : Int) = 4
 · rw [if_pos c3] at H
   have c3b0 : ((t193.length : Int) == 4) = true := beq_iff_eq.mpr c3
   have c3b1 : ((t193.length : Int) != 4) = false := bne_eq_false_iff_eq.mpr c3
   clear c3
   have H' := Aside0.mk H
   clear H
   go_enter Tryd.func41, Tryd.ntmps41
   go_wp2_with (first | ((with_reducible refine gate_dst (N := 2) rfl ?_); refine zx 2 #[.bool false, .int .u64 0, .int .u64 0] 25 ?_; intro gb192 hg w4 hbox hb; have BK192 := Aside0.mk (hbox); have GW192 := Aside0.mk ((by rw [hg]; exact (below_size (zB HB)) : w.heap.size ≤ gb192)); have GE192 := Aside0.mk ((by rw [hg]; exact (below_size (zB HB)) : w.heap.size ≤ gb192)); replace HB := Aside0.mk (below_step (zB HB) hb); clear hb hbox hg) | ((with_reducible refine gate_callee (f := 46) rfl ?_); refine goesL_ (some 9) rfl rfl Tryd.func46 (by kernel_rfl) rfl #[.string a0, .int .u8 46] rfl (by (try simp only [List.map_toArray, List.map_cons, List.map_nil]); first | done | rfl | (simp only [List.length_drop, List.length_take]; rfl)) ?_; (with_reducible refine (intrusionref06_Split.calls k a0 46 t193 _ A2.out).mono ?_); rintro e w5 ⟨v194, rfl, ho0, hb⟩; refine ⟨_, rfl, ?_⟩; have HO195 := Aside0.mk (Kd.R_lower ho0 (below_size (zB HB))); replace BK192 := Aside0.mk (blk_below (g := gb192) (o := .cells #[.bool false, .int .u64 0, .int .u64 0] 25 (0, 0)) (zK BK192) hb); replace HB := Aside0.mk (below_step (zB HB) hb); (try clear hb); (try clear ho0); obtain ⟨Ao6, co6, eo6⟩ := Kd.R_slice HO195.out; subst eo6) | ((with_reducible refine gate_dst (N := 5) rfl ?_); refine zx 5 #[.bool false, .int .u64 0, .int .u64 0] 25 ?_; intro gb196 hg w7 hbox hb; replace HO195 := Aside0.mk (Kd.R_below (zR HO195) hb); have BK196 := Aside0.mk (hbox); have GW196 := Aside0.mk ((by rw [hg]; exact (below_size (zB HB)) : w.heap.size ≤ gb196)); have GE196 := Aside0.mk ((by rw [hg]; exact (below_size (zB HB)) : w.heap.size ≤ gb196)); replace HB := Aside0.mk (below_step (zB HB) hb); have NB192_196 := Aside0.mk ((by rw [hg]; exact Nat.ne_of_lt (blk_lt (g := gb192) (o := .cells #[.bool false, .int .u64 0, .int .u64 0] 25 (0, 0)) (zK BK192)) : gb192 ≠ gb196)); have NB196_192 := Aside0.mk ((by rw [hg]; exact Nat.ne_of_gt (blk_lt (g := gb192) (o := .cells #[.bool false, .int .u64 0, .int .u64 0] 25 (0, 0)) (zK BK192)) : gb196 ≠ gb192)); replace BK192 := Aside0.mk (blk_below (g := gb192) (o := .cells #[.bool false, .int .u64 0, .int .u64 0] 25 (0, 0)) (zK BK192) hb); clear hb hbox hg; have hnb8 := NB196_192.out; have hnc8 := NB192_196.out; obtain ⟨hcz9_0, hcz9_1, hcz9_2⟩ := zc3 BK196; obtain ⟨hfz9_0, hfz9_1, hfz9_2⟩ := zf3 BK196))
   go_loopg [6] k (fun kq v6 w' => ∃ (x6_1 : Int) (x193000_1 : Bool) (x193001_1 : Int) (x193002_1 : Int) (x197002_1 : Int), v6 = .int .i64 x6_1 ∧ Aside0 (intrusionref06_parse4.l0 kq t193 x6_1 false 0 x197002_1 = some (r1, r2, r3, r4)) ∧ Aside0 (kq ≤ k) ∧ Aside0 (Kd.R Kd.string 9 w' w.heap.size (fun _ => True) (.slice Ao6 t193.length co6) t193) ∧ Aside0 (w'.heap[gb192]? = some (.cells #[.bool x193000_1, .int .u64 x193001_1, .int .u64 x193002_1] 25 (0, 0))) ∧ Aside0 (w'.heap[gb196]? = some (.cells #[.bool false, .int .u64 0, .int .u64 x197002_1] 25 (0, 0))) ∧ Aside0 (Below w.heap.size w w'))
   case atStart => exact ⟨(0), (false), (0), (0), (0), (by first | rfl | (simp; done) | (simp [*]; done)), H', ⟨Nat.le_refl _⟩, ⟨by (with_reducible repeat (first | apply Kd.R_alloc | apply Kd.R_drewN | apply Kd.R_drew)); exact Kd.R_mono (Kd.R_far (p := ⟨gb196, 2, none⟩) (Kd.R_far (p := ⟨gb196, 1, none⟩) (Kd.R_far (p := ⟨gb196, 0, none⟩) (Kd.R_types HO195.out BK196.out (by decide)) (fun _ hk => hk.2) (.bool false)) (fun _ hk => hk.2) (.int .u64 0)) (fun _ hk => hk.2) (.int .u64 0)) (fun _ hk => trivial)⟩, ⟨by refine zL ?_; refine blk_far ?_ NB192_196.out _; refine zL ?_; refine blk_far ?_ NB192_196.out _; refine zL ?_; refine blk_far ?_ NB192_196.out _; refine zL ?_; exact BK192.out⟩, ⟨by refine zL ?_; refine blk_put (cs := #[.bool false, .int .u64 0, .int .u64 0]) ?_ 2 _ rfl; refine zL ?_; refine blk_put (cs := #[.bool false, .int .u64 0, .int .u64 0]) ?_ 1 _ rfl; refine zL ?_; refine blk_put (cs := #[.bool false, .int .u64 0, .int .u64 0]) ?_ 0 _ rfl; refine zL ?_; exact BK196.out⟩, ⟨zB HB⟩⟩
   case round =>
    clear H'
    try clear p2
    try clear c3
    try clear c3b0
    try clear c3b1
    try clear c4
    try clear c8
    try clear hcz9_0
    try clear hcz9_1
    try clear hcz9_2
    try clear hfz9_0
    try clear hfz9_1
    try clear hfz9_2
    obtain ⟨x6_1, x193000_1, x193001_1, x193002_1, x197002_1, rfl, HA, HK1, HO_4, BK192, BK196, HB⟩ := hrel
    cases gk with
    | zero => exact absurd HA.out (by simp [intrusionref06_parse4.l0])
    | succ k1 =>
     have H := HA.out
     clear HA
     simp only [intrusionref06_parse4.l0] at H
     by_cases c10 : x6_1 < 4
     · rw [if_pos c10] at H
       have c10b0 : decide (x6_1 < 4) = true := decide_eq_true c10
       clear c10
       by_cases c11 : 0 ≤ x6_1
       · rw [if_pos c11] at H
         have c11b0 : decide (0 ≤ x6_1) = true := decide_eq_true c11
         clear c11
         by_cases c12 : x6_1 < (t193.length : Int)
         · rw [if_pos c12] at H
           have c12b0 : decide (x6_1 < (t193.length : Int)) = true := decide_eq_true c12
           clear c12
           replace H := Option.bind_eq_some_iff.mp H
           obtain ⟨t198, A130, H⟩ := H
           replace H : (if t198 < 0 then (some (false, 0, 0, false)) else (intrusionref06_parse4.l0 k1 t193 (wrap64 (x6_1 + 1)) false 0 (Go.bits .or .u64 (IntKind.u64.wrap (x197002_1 * 256)) (IntKind.u64.wrap (t198))))) = some (r1, r2, r3, r4) := H
           have A13 := Aside0.mk A130
           clear A130
           by_cases c14 : t198 < 0
           · rw [if_pos c14] at H
             have c14b0 : decide (t198 < 0) = true := decide_eq_true c14
             clear c14
             simp only [Option.some.injEq, Prod.mk.injEq] at H
             obtain ⟨rfl, rfl, rfl, rfl⟩ := H
             have p197 : 0 ≤ (x6_1 : Int) := za
             have q197 : x6_1 < (t193.length : Int) := za
             obtain ⟨ad197, e197, hx197_0⟩ := Kd.at_string (Kd.R_reads' HO_4.out).2.2 x6_1 p197 q197
             cases e197
             replace p197 := eq_true p197
             replace q197 := eq_true q197
             go_wp2_with (first | ((with_reducible refine gate_callee (f := 48) rfl ?_); refine goesL_ (some 23) rfl rfl Tryd.func48 (by kernel_rfl) rfl #[.string (rdOf ByteArray.empty t193 x6_1), .int .i64 255] rfl (by (try simp only [List.map_toArray, List.map_cons, List.map_nil]); first | done | rfl | (simp only [List.length_drop, List.length_take]; rfl)) ?_; (with_reducible refine (intrusionref06_Decimal.calls k1 (rdOf ByteArray.empty t193 x6_1) 255 t198 _ A13.out).mono ?_); rintro e w15 ⟨rfl, hb⟩; refine ⟨_, rfl, ?_⟩; replace HO_4 := Aside0.mk (Kd.R_below (zR HO_4) hb); replace BK192 := Aside0.mk (blk_below (g := gb192) (o := .cells #[.bool x193000_1, .int .u64 x193001_1, .int .u64 x193002_1] 25 (0, 0)) (zK BK192) hb); replace BK196 := Aside0.mk (blk_below (g := gb196) (o := .cells #[.bool false, .int .u64 0, .int .u64 x197002_1] 25 (0, 0)) (zK BK196) hb); replace HB := Aside0.mk (below_step (zB HB) hb); (try clear hb); have hnb16 := NB192_196.out; have hnc16 := NB196_192.out; obtain ⟨hcz17_0, hcz17_1, hcz17_2⟩ := zc3 BK192; obtain ⟨hfz17_0, hfz17_1, hfz17_2⟩ := zf3 BK192))
             refine bodyPost_ret (results_ct rfl _ _ gb192 25 #[.bool false, .int .u64 0, .int .u64 0] (0, 0) _ rfl (by refine zL ?_; refine blk_put (cs := #[.bool false, .int .u64 0, .int .u64 x193002_1]) ?_ 2 _ rfl; refine zL ?_; refine blk_put (cs := #[.bool false, .int .u64 x193001_1, .int .u64 x193002_1]) ?_ 1 _ rfl; refine zL ?_; refine blk_put (cs := #[.bool x193000_1, .int .u64 x193001_1, .int .u64 x193002_1]) ?_ 0 _ rfl; refine zL ?_; exact BK192.out) Tryd.underlying25 rfl (by kernel_rfl)) rfl ?_
             exact ⟨by first | rfl | (simp [errW_none, errW_some] <;> rfl) | (simp [*, errW_none, errW_some] <;> rfl), by repeat (first | (with_reducible first | exact HB.out | apply below_alloc | apply pw_below_drewN | apply below_drew1 | refine below_set ?_ GE192.out | refine below_set ?_ GE196.out) | exact HB.out)⟩
           · rw [if_neg c14] at H
             have c14b0 : decide (t198 < 0) = false := decide_eq_false c14
             clear c14
             have H' := Aside0.mk H
             clear H
             have p197 : 0 ≤ (x6_1 : Int) := za
             have q197 : x6_1 < (t193.length : Int) := za
             obtain ⟨ad197, e197, hx197_0⟩ := Kd.at_string (Kd.R_reads' HO_4.out).2.2 x6_1 p197 q197
             cases e197
             replace p197 := eq_true p197
             replace q197 := eq_true q197
             go_wp2_with (first | ((with_reducible refine gate_callee (f := 48) rfl ?_); refine goesL_ (some 23) rfl rfl Tryd.func48 (by kernel_rfl) rfl #[.string (rdOf ByteArray.empty t193 x6_1), .int .i64 255] rfl (by (try simp only [List.map_toArray, List.map_cons, List.map_nil]); first | done | rfl | (simp only [List.length_drop, List.length_take]; rfl)) ?_; (with_reducible refine (intrusionref06_Decimal.calls k1 (rdOf ByteArray.empty t193 x6_1) 255 t198 _ A13.out).mono ?_); rintro e w18 ⟨rfl, hb⟩; refine ⟨_, rfl, ?_⟩; replace HO_4 := Aside0.mk (Kd.R_below (zR HO_4) hb); replace BK192 := Aside0.mk (blk_below (g := gb192) (o := .cells #[.bool x193000_1, .int .u64 x193001_1, .int .u64 x193002_1] 25 (0, 0)) (zK BK192) hb); replace BK196 := Aside0.mk (blk_below (g := gb196) (o := .cells #[.bool false, .int .u64 0, .int .u64 x197002_1] 25 (0, 0)) (zK BK196) hb); replace HB := Aside0.mk (below_step (zB HB) hb); (try clear hb); have hnb19 := NB196_192.out; have hnc19 := NB192_196.out; obtain ⟨hcz20_0, hcz20_1, hcz20_2⟩ := zc3 BK196; obtain ⟨hfz20_0, hfz20_1, hfz20_2⟩ := zf3 BK196))
             go_roundg k1
             case measure => have := HK1.out; omega
             case rel => exact ⟨(wrap64 (x6_1 + 1)), (x193000_1), (x193001_1), (x193002_1), (Go.bits .or .u64 (IntKind.u64.wrap (x197002_1 * 256)) (IntKind.u64.wrap (t198))), (by first | rfl | (simp; done) | (simp [*]; done)), H', ⟨by have := HK1.out; omega⟩, ⟨by (with_reducible repeat (first | apply Kd.R_alloc | apply Kd.R_drewN | apply Kd.R_drew)); exact Kd.R_mono (Kd.R_far (p := ⟨gb196, 2, none⟩) (Kd.R_types HO_4.out BK196.out (by decide)) (fun _ hk => hk.2) (.int .u64 (Go.bits .or .u64 (IntKind.u64.wrap (x197002_1 * 256)) (IntKind.u64.wrap (t198))))) (fun _ hk => trivial)⟩, ⟨by refine zL ?_; refine blk_far ?_ NB192_196.out _; refine zL ?_; exact BK192.out⟩, ⟨by refine zL ?_; refine blk_put (cs := #[.bool false, .int .u64 0, .int .u64 x197002_1]) ?_ 2 _ rfl; refine zL ?_; exact BK196.out⟩, ⟨zB HB⟩⟩
         · rw [if_neg c12] at H
           exact absurd H (by simp)
       · rw [if_neg c11] at H
         exact absurd H (by simp)
     · rw [if_neg c10] at H
       have c10b0 : decide (x6_1 < 4) = false := decide_eq_false c10
       clear c10
       simp only [Option.some.injEq, Prod.mk.injEq] at H
       obtain ⟨rfl, rfl, rfl, rfl⟩ := H
       have hnb21 := NB196_192.out
       have hnc21 := NB192_196.out
       obtain ⟨hcz22_0, hcz22_1, hcz22_2⟩ := zc3 BK196
       obtain ⟨hfz22_0, hfz22_1, hfz22_2⟩ := zf3 BK196
       obtain ⟨hcz23_0, hcz23_1, hcz23_2⟩ := zc3 BK192
       obtain ⟨hfz23_0, hfz23_1, hfz23_2⟩ := zf3 BK192
       go_wp2
       refine bodyPost_ret (results_ct rfl _ _ gb192 25 #[.bool false, .int .u64 0, .int .u64 x197002_1] (0, 0) _ rfl (by refine zL ?_; refine blk_put (cs := #[.bool false, .int .u64 0, .int .u64 x193002_1]) ?_ 2 _ rfl; refine zL ?_; refine blk_put (cs := #[.bool false, .int .u64 x193001_1, .int .u64 x193002_1]) ?_ 1 _ rfl; refine zL ?_; refine blk_put (cs := #[.bool x193000_1, .int .u64 x193001_1, .int .u64 x193002_1]) ?_ 0 _ rfl; refine zL ?_; exact BK192.out) Tryd.underlying25 rfl (by kernel_rfl)) rfl ?_
       exact ⟨by first | rfl | (simp [errW_none, errW_some] <;> rfl) | (simp [*, errW_none, errW_some] <;> rfl), by repeat (first | (with_reducible first | exact HB.out | apply below_alloc | apply pw_below_drewN | apply below_drew1 | refine below_set ?_ GE192.out | refine below_set ?_ GE196.out) | exact HB.out)⟩
 · rw [if_neg c3] at H
   have c3b0 : ((t193.length : Int) == 4) = false := beq_eq_false_iff_ne.mpr c3
   have c3b1 : ((t193.length : Int) != 4) = true := bne_iff_ne.mpr c3
   simp only [Option.some.injEq, Prod.mk.injEq] at H
   obtain ⟨rfl, rfl, rfl, rfl⟩ := H
   go_enter Tryd.func41, Tryd.ntmps41
   go_wp2_with (first | ((with_reducible refine gate_dst (N := 2) rfl ?_); refine zx 2 #[.bool false, .int .u64 0, .int .u64 0] 25 ?_; intro gb192 hg w24 hbox hb; have BK192 := Aside0.mk (hbox); have GW192 := Aside0.mk ((by rw [hg]; exact (below_size (zB HB)) : w.heap.size ≤ gb192)); have GE192 := Aside0.mk ((by rw [hg]; exact (below_size (zB HB)) : w.heap.size ≤ gb192)); replace HB := Aside0.mk (below_step (zB HB) hb); clear hb hbox hg) | ((with_reducible refine gate_callee (f := 46) rfl ?_); refine goesL_ (some 9) rfl rfl Tryd.func46 (by kernel_rfl) rfl #[.string a0, .int .u8 46] rfl (by (try simp only [List.map_toArray, List.map_cons, List.map_nil]); first | done | rfl | (simp only [List.length_drop, List.length_take]; rfl)) ?_; (with_reducible refine (intrusionref06_Split.calls k a0 46 t193 _ A2.out).mono ?_); rintro e w25 ⟨v194, rfl, ho0, hb⟩; refine ⟨_, rfl, ?_⟩; have HO195 := Aside0.mk (Kd.R_lower ho0 (below_size (zB HB))); replace BK192 := Aside0.mk (blk_below (g := gb192) (o := .cells #[.bool false, .int .u64 0, .int .u64 0] 25 (0, 0)) (zK BK192) hb); replace HB := Aside0.mk (below_step (zB HB) hb); (try clear hb); (try clear ho0); obtain ⟨Ao26, co26, eo26⟩ := Kd.R_slice HO195.out; subst eo26; obtain ⟨hcz27_0, hcz27_1, hcz27_2⟩ := zc3 BK192; obtain ⟨hfz27_0, hfz27_1, hfz27_2⟩ := zf3 BK192))
   refine bodyPost_ret (results_ct rfl _ _ gb192 25 #[.bool false, .int .u64 0, .int .u64 0] (0, 0) _ rfl (by refine zL ?_; refine blk_put (cs := #[.bool false, .int .u64 0, .int .u64 0]) ?_ 2 _ rfl; refine zL ?_; refine blk_put (cs := #[.bool false, .int .u64 0, .int .u64 0]) ?_ 1 _ rfl; refine zL ?_; refine blk_put (cs := #[.bool false, .int .u64 0, .int .u64 0]) ?_ 0 _ rfl; refine zL ?_; exact BK192.out) Tryd.underlying25 rfl (by kernel_rfl)) rfl ?_
   exact ⟨by first | rfl | (simp [errW_none, errW_some] <;> rfl) | (simp [*, errW_none, errW_some] <;> rfl), by repeat (first | (with_reducible first | exact HB.out | apply below_alloc | apply pw_below_drewN | apply below_drew1 | refine below_set ?_ GE192.out) | exact HB.out)⟩
end Go.Proofs.YtlgfinnldhjgeaaDoor.Q
end

section
namespace Go.Proofs.YtlgfinnldhjgeaaDoor.Q
open Go.RowKit Go.Proofs.YtlgfinnldhjgeaaDoorW.PrintWords Go.Proofs.YtlgfinnldhjgeaaDoorW.PrintLast Go.Proofs.YtlgfinnldhjgeaaDoorW.PrintMore
attribute [local go_sem] max2_int min2_int max_two min_two max_three min_three max_four min_four
set_option linter.unusedVariables false
set_option linter.unusedSimpArgs false
def intrusionref06_gap.l0 : Nat → ByteArray → Int → Option (Int)
  | 0, _, _ => none
  | k + 1, x0, x3 => if (wrap64 (x3 + 1)) < (x0.size : Int) then (if 0 ≤ x3 then (if x3 < (x0.size : Int) then (if (bt x0 x3) = 58 then (if 0 ≤ (wrap64 (x3 + 1)) then (if (bt x0 (wrap64 (x3 + 1))) = 58 then (some x3) else (intrusionref06_gap.l0 k x0 (wrap64 (x3 + 1)))) else (none)) else (intrusionref06_gap.l0 k x0 (wrap64 (x3 + 1)))) else (none)) else (none)) else (some (-1))
def intrusionref06_gap.f (k : Nat) (a0 : ByteArray) : Option (Int) := intrusionref06_gap.l0 k a0 0
theorem intrusionref06_gap.mono_l : ∀ k, (∀ y0 y1, LeO (intrusionref06_gap.l0 k y0 y1) (intrusionref06_gap.l0 (k + 1) y0 y1))
  | 0 => fun _ _ r h => by simp [intrusionref06_gap.l0] at h
  | k + 1 => by
    have ih0 := intrusionref06_gap.mono_l k
    · intro y0 y1
      unfold intrusionref06_gap.l0
      repeat' first
      | (with_reducible exact ih0 _ _)
      | (with_reducible exact LeO.refl _)
      | (with_reducible exact LeO.none _)
      | (with_reducible refine LeO.ite ?_ ?_)
      | (with_reducible refine LeO.bind ?_ (fun _ => ?_))
      | exact ih0 _ _
      | exact LeO.none _
      | refine LeO.ite ?_ ?_
      | refine LeO.bind ?_ (fun _ => ?_)
theorem intrusionref06_gap.mono : ∀ a0 k, LeO (intrusionref06_gap.f k a0) (intrusionref06_gap.f (k + 1) a0) := by
  intro a0 k
  have ih0 := intrusionref06_gap.mono_l k
  unfold intrusionref06_gap.f
  repeat' first
      | (with_reducible exact ih0 _ _)
      | (with_reducible exact LeO.refl _)
      | (with_reducible exact LeO.none _)
      | (with_reducible refine LeO.ite ?_ ?_)
      | (with_reducible refine LeO.bind ?_ (fun _ => ?_))
      | exact ih0 _ _
      | exact LeO.none _
      | refine LeO.ite ?_ ?_
      | refine LeO.bind ?_ (fun _ => ?_)
set_option maxHeartbeats 8000000 in
set_option maxRecDepth 100000 in
theorem intrusionref06_gap.calls (k : Nat) (a0 : ByteArray) (r : Int) (w : World) (h : intrusionref06_gap.f k a0 = some r) :
 Calls Tryd.prog 66 #[.string a0] w fun e w' => e = .returned (.int .i64 r) ∧ Drawn0 w w' := by
 unfold intrusionref06_gap.f at h; have H := h
 clear h
 have H' := Aside0.mk H
 clear H
 go_enter Tryd.func66, Tryd.ntmps66
 go_wp2
 go_loopg [3] k (fun kq v3 w' => ∃ (x3_1 : Int), v3 = .int .i64 x3_1 ∧ Aside0 (intrusionref06_gap.l0 kq a0 x3_1 = some r) ∧ Aside0 (kq ≤ k) ∧ Drawn0 w w')
 case atStart => exact ⟨(0), (by first | rfl | (simp; done) | (simp [*]; done)), H', ⟨Nat.le_refl _⟩, by repeat (first | exact Drawn0.refl _ | apply Drawn0.step)⟩
 case round =>
  clear H'
  obtain ⟨x3_1, rfl, HA, HK1, ⟨m1, rfl⟩⟩ := hrel
  cases gk with
  | zero => exact absurd HA.out (by simp [intrusionref06_gap.l0])
  | succ k1 =>
   have H := HA.out
   clear HA
   simp only [intrusionref06_gap.l0] at H
   by_cases c2 : (wrap64 (x3_1 + 1)) < (a0.size : Int)
   · rw [if_pos c2] at H
     have c2b0 : decide ((wrap64 (x3_1 + 1)) < (a0.size : Int)) = true := decide_eq_true c2
     clear c2
     by_cases c3 : 0 ≤ x3_1
     · rw [if_pos c3] at H
       have c3b0 : decide (0 ≤ x3_1) = true := decide_eq_true c3
       clear c3
       by_cases c4 : x3_1 < (a0.size : Int)
       · rw [if_pos c4] at H
         have c4b0 : decide (x3_1 < (a0.size : Int)) = true := decide_eq_true c4
         clear c4
         by_cases c6 : (bt a0 x3_1) = 58
         · rw [if_pos c6] at H
           have c6b0 : ((bt a0 x3_1) == 58) = true := beq_iff_eq.mpr c6
           have c6b1 : ((bt a0 x3_1) != 58) = false := bne_eq_false_iff_eq.mpr c6
           clear c6
           obtain ⟨ji7, hji7⟩ : ∃ j_ : Int, (wrap64 (x3_1 + 1)) = j_ := ⟨_, rfl⟩
           replace H : (if 0 ≤ (ji7) then (if (bt a0 (ji7)) = 58 then (some x3_1) else (intrusionref06_gap.l0 k1 a0 ji7)) else (none)) = some r := by first | (rw [hji7] at H; exact H) | (simp only [hji7] at H ⊢; exact H)
           (try rw [hji7] at c2b0)
           have hji7w : (IntKind.i64.wrap (x3_1 + 1)) = ji7 := (i64_w _).trans hji7
           by_cases c8 : 0 ≤ (ji7)
           · rw [if_pos c8] at H
             have c8b0 : decide (0 ≤ (ji7)) = true := decide_eq_true c8
             clear c8
             by_cases c10 : (bt a0 (ji7)) = 58
             · rw [if_pos c10] at H
               have c10b0 : ((bt a0 (ji7)) == 58) = true := beq_iff_eq.mpr c10
               have c10b1 : ((bt a0 (ji7)) != 58) = false := bne_eq_false_iff_eq.mpr c10
               clear c10
               obtain rfl := Option.some.inj H
               have p5 : 0 ≤ (x3_1 : Int) := za
               have q5 : x3_1 < (a0.size : Int) := za
               have hx5 := bt_at a0 x3_1
               replace p5 := eq_true p5
               replace q5 := eq_true q5
               have p9 : 0 ≤ ((ji7) : Int) := za
               have q9 : (ji7) < (a0.size : Int) := za
               have hx9 := bt_at a0 (ji7)
               replace p9 := eq_true p9
               replace q9 := eq_true q9
               go_wp2
               go_ret
               exact ⟨by first | rfl | (simp; done) | (simp only [← hji7] <;> (first | rfl | simp)) | (simp [*]; done), by repeat (first | exact Drawn0.refl _ | apply Drawn0.step)⟩
             · rw [if_neg c10] at H
               have c10b0 : ((bt a0 (ji7)) == 58) = false := beq_eq_false_iff_ne.mpr c10
               have c10b1 : ((bt a0 (ji7)) != 58) = true := bne_iff_ne.mpr c10
               have H' := Aside0.mk H
               clear H
               have p5 : 0 ≤ (x3_1 : Int) := za
               have q5 : x3_1 < (a0.size : Int) := za
               have hx5 := bt_at a0 x3_1
               replace p5 := eq_true p5
               replace q5 := eq_true q5
               have p9 : 0 ≤ ((ji7) : Int) := za
               have q9 : (ji7) < (a0.size : Int) := za
               have hx9 := bt_at a0 (ji7)
               replace p9 := eq_true p9
               replace q9 := eq_true q9
               go_wp2
               go_roundg k1
               case measure => have := HK1.out; omega
               case rel => exact ⟨(ji7), (by first | rfl | (simp; done) | (simp only [← hji7] <;> (first | rfl | simp)) | (simp [*]; done)), H', ⟨by have := HK1.out; omega⟩, by repeat (first | exact Drawn0.refl _ | apply Drawn0.step)⟩
           · rw [if_neg c8] at H
             exact absurd H (by simp)
         · rw [if_neg c6] at H
           have c6b0 : ((bt a0 x3_1) == 58) = false := beq_eq_false_iff_ne.mpr c6
           have c6b1 : ((bt a0 x3_1) != 58) = true := bne_iff_ne.mpr c6
           have H' := Aside0.mk H
           clear H
           have p5 : 0 ≤ (x3_1 : Int) := za
           have q5 : x3_1 < (a0.size : Int) := za
           have hx5 := bt_at a0 x3_1
           replace p5 := eq_true p5
           replace q5 := eq_true q5
           go_wp2
           go_roundg k1
           case measure => have := HK1.out; omega
           case rel => exact ⟨(wrap64 (x3_1 + 1)), (by first | rfl | (simp; done) | (simp [*]; done)), H', ⟨by have := HK1.out; omega⟩, by repeat (first | exact Drawn0.refl _ | apply Drawn0.step)⟩
       · rw [if_neg c4] at H
         exact absurd H (by simp)
     · rw [if_neg c3] at H
       exact absurd H (by simp)
   · rw [if_neg c2] at H
     have c2b0 : decide ((wrap64 (x3_1 + 1)) < (a0.size : Int)) = false := decide_eq_false c2
     clear c2
     obtain rfl := Option.some.inj H
     go_wp2
     go_ret
     exact ⟨by first | rfl | (simp; done) | (simp [*]; done), by repeat (first | exact Drawn0.refl _ | apply Drawn0.step)⟩
end Go.Proofs.YtlgfinnldhjgeaaDoor.Q
end
