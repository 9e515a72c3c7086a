/- The law AddrsetPrefixes answers true for every input and leaves its arguments as they were. No condition. (Part 4 of 5: the kit's printed words and walks, hand-made contracts and plain laws, joined in build order, without what the theorem does not reach.) -/
import Derived.OneCell
import Derived.Laws.EntriesVeiled
import Derived.Deep.Slices
import Derived.ChangeArms
import Derived.WideShapes
import Derived.DataElems
import Derived.IntWalk
import Derived.Shelf.Abstract
import Derived.Test.YtcgfpffgiimgmaaGAddrsetPrefixes3
section
namespace Go.Proofs.Ytcgfpffgiimgmaa.Q
open Go.RowKit Go.Proofs.YtcgfpffgiimgmaaW.PrintWords Go.Proofs.YtcgfpffgiimgmaaW.PrintLast Go.Proofs.YtcgfpffgiimgmaaW.PrintMore
attribute [local go_sem] max2_int min2_int max_two min_two max_three min_three max_four min_four
set_option linter.unusedVariables false
set_option linter.unusedSimpArgs false
def intrusionref07_Normal.l0 : Nat → List (S66) → List (S66) → Int → Option ((List (S66)))
  | 0, _, _, _ => none
  | k + 1, x0, x3, x4 => if x4 < (x0.length : Int) then (if 0 ≤ x4 then ((intrusionref07_Some.f ((rd_T66 x0 x4).f0.f0) ((rd_T66 x0 x4).f0.f1) ((rd_T66 x0 x4).f0.f2) ((rd_T66 x0 x4).f1.f0) ((rd_T66 x0 x4).f1.f1) ((rd_T66 x0 x4).f1.f2)).bind fun t634 => (if t634 = true then ((intrusionref07_add.f k x3 ((rd_T66 x0 x4).f0.f0) ((rd_T66 x0 x4).f0.f1) ((rd_T66 x0 x4).f0.f2) ((rd_T66 x0 x4).f1.f0) ((rd_T66 x0 x4).f1.f1) ((rd_T66 x0 x4).f1.f2)).bind fun t636 => (intrusionref07_Normal.l0 k x0 t636 (wrap64 (x4 + 1)))) else (intrusionref07_Normal.l0 k x0 x3 (wrap64 (x4 + 1))))) else (none)) else (some x3)
def intrusionref07_Normal.f (k : Nat) (l0 : List (S66)) : Option ((List (S66))) := intrusionref07_Normal.l0 k l0 ([] : List (S66)) 0
theorem intrusionref07_Normal.mono_l : ∀ k, (∀ y0 y1 y2, LeO (intrusionref07_Normal.l0 k y0 y1 y2) (intrusionref07_Normal.l0 (k + 1) y0 y1 y2))
  | 0 => fun _ _ _ r h => by simp [intrusionref07_Normal.l0] at h
  | k + 1 => by
    have ih0 := intrusionref07_Normal.mono_l k
    · intro y0 y1 y2
      unfold intrusionref07_Normal.l0
      repeat' first
      | (with_reducible exact ih0 _ _ _)
      | (with_reducible exact intrusionref07_add.mono _ _ _ _ _ _ _ _)
      | (with_reducible exact LeO.refl _)
      | (with_reducible exact LeO.none _)
      | (with_reducible refine LeO.ite ?_ ?_)
      | (with_reducible refine LeO.bind ?_ (fun _ => ?_))
      | exact ih0 _ _ _
      | exact intrusionref07_add.mono _ _ _ _ _ _ _ _
      | exact LeO.none _
      | refine LeO.ite ?_ ?_
      | refine LeO.bind ?_ (fun _ => ?_)
theorem intrusionref07_Normal.mono : ∀ a0 k, LeO (intrusionref07_Normal.f k a0) (intrusionref07_Normal.f (k + 1) a0) := by
  intro a0 k
  have ih0 := intrusionref07_Normal.mono_l k
  unfold intrusionref07_Normal.f
  repeat' first
      | (with_reducible exact ih0 _ _ _)
      | (with_reducible exact intrusionref07_add.mono _ _ _ _ _ _ _ _)
      | (with_reducible exact LeO.refl _)
      | (with_reducible exact LeO.none _)
      | (with_reducible refine LeO.ite ?_ ?_)
      | (with_reducible refine LeO.bind ?_ (fun _ => ?_))
      | exact ih0 _ _ _
      | exact intrusionref07_add.mono _ _ _ _ _ _ _ _
      | exact LeO.none _
      | refine LeO.ite ?_ ?_
      | refine LeO.bind ?_ (fun _ => ?_)
set_option maxHeartbeats 8000000 in
set_option maxRecDepth 100000 in
theorem intrusionref07_Normal.calls (k : Nat) (A0 : Option Addr) (c0 : Nat) (l0 : List (S66)) (r : List (S66)) (w : World) (hr0 : Kd.C k66 w A0 l0.length l0) (hc0 : l0.length ≤ c0) (h : intrusionref07_Normal.f k l0 = some r) :
 Calls Try.prog 39 #[.slice A0 l0.length c0] w fun e w' => ∃ v0_ : Value, e = .returned (v0_) ∧ Kd.R k66 66 w' w.heap.size (fun _ => True) v0_ r ∧ Below w.heap.size w w' := by
 have hu66 := Try.underlying66
 have HR0 := Aside0.mk hr0
 have HC0 := Aside0.mk hc0
 clear hr0 hc0
 have HB := Aside0.mk (Below.refl w.heap.size w)
 unfold intrusionref07_Normal.f at h; have H := h
 clear h
 have H' := Aside0.mk H
 clear H
 go_enter Try.func39, Try.ntmps39
 go_wp2
 go_loopg [3, 4] k (fun kq v3 v4 w' => ∃ (x3_1 : List (S66)) (x4_1 : Int), v4 = .int .i64 x4_1 ∧ Aside0 (intrusionref07_Normal.l0 kq l0 x3_1 x4_1 = some r) ∧ Aside0 (kq ≤ k) ∧ Aside0 (Kd.R k66 66 w' w.heap.size (fun _ => True) v3 x3_1) ∧ Aside0 (Below w.heap.size w w'))
 case atStart => exact ⟨(([] : List (S66))), (0), (by first | rfl | (simp; done) | (simp [*]; done)), H', ⟨Nat.le_refl _⟩, ⟨by first | exact Kd.R_nil _ _ _ _ _ | exact Kd.N_nil _ _ _ _ _ | exact Kd.V_nil _ _ _ _ _ | exact Kd.Q_nil _ _ _ _ _ | exact Kd.S_nil _ _ _ _ _⟩, ⟨zB HB⟩⟩
 case round =>
  clear H'
  obtain ⟨x3_1, x4_1, rfl, HA, HK1, HO_3, HB⟩ := hrel
  cases gk with
  | zero => exact absurd HA.out (by simp [intrusionref07_Normal.l0])
  | succ k1 =>
   have H := HA.out
   clear HA
   simp only [intrusionref07_Normal.l0] at H
   by_cases c2 : x4_1 < (l0.length : Int)
   · rw [if_pos c2] at H
     have c2b0 : decide (x4_1 < (l0.length : Int)) = true := decide_eq_true c2
     clear c2
     by_cases c3 : 0 ≤ x4_1
     · rw [if_pos c3] at H
       have c3b0 : decide (0 ≤ x4_1) = true := decide_eq_true c3
       clear c3
       replace H := Option.bind_eq_some_iff.mp H
       obtain ⟨t634, A40, H⟩ := H
       try dsimp only at H
       have A4 := Aside0.mk A40
       clear A40
       by_cases c5 : t634 = true
       · subst c5
         rw [if_pos rfl] at H
         replace H := Option.bind_eq_some_iff.mp H
         obtain ⟨t636, A60, H⟩ := H
         try dsimp only at H
         have A6 := Aside0.mk A60
         clear A60
         have H' := Aside0.mk H
         clear H
         have p633 : 0 ≤ (x4_1 : Int) := za
         have q633 : x4_1 < (l0.length : Int) := za
         obtain ⟨ad633, e633, hx633_0, hx633_1, hx633_2, hx633_3, hx633_4, hx633_5⟩ := at_T66 HR0.out x4_1 p633 q633
         cases e633
         replace hx633_0 := zh HB hx633_0
         replace hx633_1 := zh HB hx633_1
         replace hx633_2 := zh HB hx633_2
         replace hx633_3 := zh HB hx633_3
         replace hx633_4 := zh HB hx633_4
         replace hx633_5 := zh HB hx633_5
         replace p633 := eq_true p633
         replace q633 := eq_true q633
         go_wp2_with (first | ((with_reducible refine gate_callee (f := 78) rfl ?_); refine goesL_ (some 15) rfl rfl Try.func78 (by kernel_rfl) rfl #[.agg #[.bool ((rd_T66 l0 x4_1).f0.f0), .int .u64 ((rd_T66 l0 x4_1).f0.f1), .int .u64 ((rd_T66 l0 x4_1).f0.f2), .bool ((rd_T66 l0 x4_1).f1.f0), .int .u64 ((rd_T66 l0 x4_1).f1.f1), .int .u64 ((rd_T66 l0 x4_1).f1.f2)]] rfl (by (try simp only [List.map_toArray, List.map_cons, List.map_nil]); first | done | rfl | (simp only [List.length_drop, List.length_take]; rfl)) ?_; (with_reducible refine (intrusionref07_Some.calls ((rd_T66 l0 x4_1).f0.f0) ((rd_T66 l0 x4_1).f0.f1) ((rd_T66 l0 x4_1).f0.f2) ((rd_T66 l0 x4_1).f1.f0) ((rd_T66 l0 x4_1).f1.f1) ((rd_T66 l0 x4_1).f1.f2) true _ A4.out).mono ?_); rintro e w7 ⟨rfl, hb⟩; refine ⟨_, rfl, ?_⟩; replace HO_3 := Aside0.mk (Kd.R_below (zR HO_3) hb); replace HB := Aside0.mk (below_step (zB HB) hb); (try clear hb); have p635 : 0 ≤ (x4_1 : Int) := za; have q635 : x4_1 < (l0.length : Int) := za; obtain ⟨ad635, e635, hx635_0, hx635_1, hx635_2, hx635_3, hx635_4, hx635_5⟩ := at_T66 HR0.out x4_1 p635 q635; obtain rfl : ad633 = ad635 := (by injection e635); replace hx635_0 := zh HB hx635_0; replace hx635_1 := zh HB hx635_1; replace hx635_2 := zh HB hx635_2; replace hx635_3 := zh HB hx635_3; replace hx635_4 := zh HB hx635_4; replace hx635_5 := zh HB hx635_5; replace p635 := eq_true p635; replace q635 := eq_true q635; obtain ⟨Ao8, co8, eo8⟩ := Kd.R_slice HO_3.out; subst eo8) | ((with_reducible refine gate_callee (f := 79) rfl ?_); refine goesL_ (some 21) rfl rfl Try.func79 (by kernel_rfl) rfl #[.slice Ao8 x3_1.length co8, .agg #[.bool ((rd_T66 l0 x4_1).f0.f0), .int .u64 ((rd_T66 l0 x4_1).f0.f1), .int .u64 ((rd_T66 l0 x4_1).f0.f2), .bool ((rd_T66 l0 x4_1).f1.f0), .int .u64 ((rd_T66 l0 x4_1).f1.f1), .int .u64 ((rd_T66 l0 x4_1).f1.f2)]] rfl (by (try simp only [List.map_toArray, List.map_cons, List.map_nil]); first | done | rfl | (simp only [List.length_drop, List.length_take]; rfl)) ?_; (with_reducible refine (intrusionref07_add.calls k1 _ _ x3_1 ((rd_T66 l0 x4_1).f0.f0) ((rd_T66 l0 x4_1).f0.f1) ((rd_T66 l0 x4_1).f0.f2) ((rd_T66 l0 x4_1).f1.f0) ((rd_T66 l0 x4_1).f1.f1) ((rd_T66 l0 x4_1).f1.f2) t636 _ ?side1 ?side2 A6.out).mono ?_); (case side1 => repeat (first | exact (Kd.R_reads' HO_3.out).2.2 | (with_reducible refine Kd.C_alloc ?_ _) | (with_reducible refine Kd.C_drewN ?_ _) | (with_reducible refine Kd.C_drew ?_))); (case side2 => exact (Kd.R_reads' HO_3.out).2.1); rintro e w9 ⟨v637, rfl, ho0, hb⟩; refine ⟨_, rfl, ?_⟩; have HO638 := Aside0.mk (Kd.R_lower (Kd.R_new' ho0 (Kd.R_lt (zR HO_3))) (below_size (zB HB))); replace HO_3 := Aside0.mk (Kd.R_elder' (zR HO_3) (Kd.R_base ho0) hb); replace HB := Aside0.mk (below_step (zB HB) hb); (try clear hb); (try clear ho0)))
         go_roundg k1
         case measure => have := HK1.out; omega
         case rel => exact ⟨(t636), (wrap64 (x4_1 + 1)), (by first | rfl | (simp; done) | (simp [*]; done)), H', ⟨by have := HK1.out; omega⟩, ⟨by (with_reducible repeat (first | apply Kd.R_alloc | apply Kd.R_drewN | apply Kd.R_drew)); exact Kd.R_mono HO638.out (fun _ hk => trivial)⟩, ⟨zB HB⟩⟩
       · replace c5 := Bool.eq_false_iff.mpr c5
         subst c5
         rw [if_neg zF] at H
         have H' := Aside0.mk H
         clear H
         have p633 : 0 ≤ (x4_1 : Int) := za
         have q633 : x4_1 < (l0.length : Int) := za
         obtain ⟨ad633, e633, hx633_0, hx633_1, hx633_2, hx633_3, hx633_4, hx633_5⟩ := at_T66 HR0.out x4_1 p633 q633
         cases e633
         replace hx633_0 := zh HB hx633_0
         replace hx633_1 := zh HB hx633_1
         replace hx633_2 := zh HB hx633_2
         replace hx633_3 := zh HB hx633_3
         replace hx633_4 := zh HB hx633_4
         replace hx633_5 := zh HB hx633_5
         replace p633 := eq_true p633
         replace q633 := eq_true q633
         go_wp2_with (first | ((with_reducible refine gate_callee (f := 78) rfl ?_); refine goesL_ (some 15) rfl rfl Try.func78 (by kernel_rfl) rfl #[.agg #[.bool ((rd_T66 l0 x4_1).f0.f0), .int .u64 ((rd_T66 l0 x4_1).f0.f1), .int .u64 ((rd_T66 l0 x4_1).f0.f2), .bool ((rd_T66 l0 x4_1).f1.f0), .int .u64 ((rd_T66 l0 x4_1).f1.f1), .int .u64 ((rd_T66 l0 x4_1).f1.f2)]] rfl (by (try simp only [List.map_toArray, List.map_cons, List.map_nil]); first | done | rfl | (simp only [List.length_drop, List.length_take]; rfl)) ?_; (with_reducible refine (intrusionref07_Some.calls ((rd_T66 l0 x4_1).f0.f0) ((rd_T66 l0 x4_1).f0.f1) ((rd_T66 l0 x4_1).f0.f2) ((rd_T66 l0 x4_1).f1.f0) ((rd_T66 l0 x4_1).f1.f1) ((rd_T66 l0 x4_1).f1.f2) false _ A4.out).mono ?_); rintro e w10 ⟨rfl, hb⟩; refine ⟨_, rfl, ?_⟩; replace HO_3 := Aside0.mk (Kd.R_below (zR HO_3) hb); replace HB := Aside0.mk (below_step (zB HB) hb); (try clear hb)))
         go_roundg k1
         case measure => have := HK1.out; omega
         case rel => exact ⟨(x3_1), (wrap64 (x4_1 + 1)), (by first | rfl | (simp; done) | (simp [*]; done)), H', ⟨by have := HK1.out; omega⟩, ⟨zR HO_3⟩, ⟨zB HB⟩⟩
     · rw [if_neg c3] at H
       exact absurd H (by simp)
   · rw [if_neg c2] at H
     have c2b0 : decide (x4_1 < (l0.length : Int)) = false := decide_eq_false c2
     clear c2
     obtain rfl := Option.some.inj H
     go_wp2
     go_ret
     exact ⟨_, by first | rfl | (simp [errW_none, errW_some] <;> rfl) | (simp [*, errW_none, errW_some] <;> rfl), by (with_reducible repeat (first | apply Kd.R_alloc | apply Kd.R_drewN | apply Kd.R_drew)); exact HO_3.out, by repeat (first | (with_reducible first | exact HB.out | apply below_alloc | apply pw_below_drewN | apply below_drew1) | exact HB.out)⟩
end Go.Proofs.Ytcgfpffgiimgmaa.Q
end

section
namespace Go.Proofs.Ytcgfpffgiimgmaa.Q
open Go.RowKit Go.Proofs.YtcgfpffgiimgmaaW.PrintWords Go.Proofs.YtcgfpffgiimgmaaW.PrintLast Go.Proofs.YtcgfpffgiimgmaaW.PrintMore
attribute [local go_sem] max2_int min2_int max_two min_two max_three min_three max_four min_four
set_option linter.unusedVariables false
set_option linter.unusedSimpArgs false
def intrusionref07_Size.f (a0_0 : Bool) (a0_1 : Int) (a0_2 : Int) : Option (Int) := if a0_0 = true then (some 128) else (some 32)
set_option maxHeartbeats 8000000 in
set_option maxRecDepth 100000 in
theorem intrusionref07_Size.calls (a0_0 : Bool) (a0_1 : Int) (a0_2 : Int) (r : Int) (w : World) (h : intrusionref07_Size.f a0_0 a0_1 a0_2 = some r) :
 Calls Try.prog 111 #[.agg #[.bool a0_0, .int .u64 a0_1, .int .u64 a0_2]] w fun e w' => e = .returned (.int .i64 r) ∧ Below w.heap.size w w' := by
 have hu36 := Try.underlying36
 have HB := Aside0.mk (Below.refl w.heap.size w)
 unfold intrusionref07_Size.f at h; have H := h
 clear h
 by_cases c2 : a0_0 = true
 · subst c2
   rw [if_pos rfl] at H
   obtain rfl := Option.some.inj H
   go_enter Try.func111, Try.ntmps111
   go_wp2_with (first | ((with_reducible refine gate_dst (N := 1) rfl ?_); refine zx 1 #[.bool true, .int .u64 a0_1, .int .u64 a0_2] 36 ?_; intro gb681 hg w3 hbox hb; have BK681 := Aside0.mk (hbox); have GW681 := Aside0.mk ((by rw [hg]; exact (below_size (zB HB)) : w.heap.size ≤ gb681)); have GE681 := Aside0.mk ((by rw [hg]; exact (below_size (zB HB)) : w.heap.size ≤ gb681)); replace HB := Aside0.mk (below_step (zB HB) hb); clear hb hbox hg; obtain ⟨hcz4_0, hcz4_1, hcz4_2⟩ := zc3 BK681; obtain ⟨hfz4_0, hfz4_1, hfz4_2⟩ := zf3 BK681))
   go_ret
   exact ⟨by first | rfl | (simp [errW_none, errW_some] <;> rfl) | (simp [*, errW_none, errW_some] <;> rfl), by repeat (first | (with_reducible first | exact HB.out | apply below_alloc | apply pw_below_drewN | apply below_drew1 | refine below_set ?_ GE681.out) | exact HB.out)⟩
 · replace c2 := Bool.eq_false_iff.mpr c2
   subst c2
   rw [if_neg zF] at H
   obtain rfl := Option.some.inj H
   go_enter Try.func111, Try.ntmps111
   go_wp2_with (first | ((with_reducible refine gate_dst (N := 1) rfl ?_); refine zx 1 #[.bool false, .int .u64 a0_1, .int .u64 a0_2] 36 ?_; intro gb681 hg w5 hbox hb; have BK681 := Aside0.mk (hbox); have GW681 := Aside0.mk ((by rw [hg]; exact (below_size (zB HB)) : w.heap.size ≤ gb681)); have GE681 := Aside0.mk ((by rw [hg]; exact (below_size (zB HB)) : w.heap.size ≤ gb681)); replace HB := Aside0.mk (below_step (zB HB) hb); clear hb hbox hg; obtain ⟨hcz6_0, hcz6_1, hcz6_2⟩ := zc3 BK681; obtain ⟨hfz6_0, hfz6_1, hfz6_2⟩ := zf3 BK681))
   go_ret
   exact ⟨by first | rfl | (simp [errW_none, errW_some] <;> rfl) | (simp [*, errW_none, errW_some] <;> rfl), by repeat (first | (with_reducible first | exact HB.out | apply below_alloc | apply pw_below_drewN | apply below_drew1 | refine below_set ?_ GE681.out) | exact HB.out)⟩
end Go.Proofs.Ytcgfpffgiimgmaa.Q
end

section
namespace Go.Proofs.Ytcgfpffgiimgmaa.Q
open Go.RowKit Go.Proofs.YtcgfpffgiimgmaaW.PrintWords Go.Proofs.YtcgfpffgiimgmaaW.PrintLast Go.Proofs.YtcgfpffgiimgmaaW.PrintMore
attribute [local go_sem] max2_int min2_int max_two min_two max_three min_three max_four min_four
set_option linter.unusedVariables false
set_option linter.unusedSimpArgs false
def intrusionref07_low.f (a0 : Int) : Option (Int) := if a0 ≥ 64 then (some 18446744073709551615) else (if 0 ≤ (IntKind.u64.wrap (a0)) then (some (IntKind.u64.wrap ((shl .u64 1 (IntKind.u64.wrap (a0))) - 1))) else (none))
set_option maxHeartbeats 8000000 in
set_option maxRecDepth 100000 in
theorem intrusionref07_low.calls (a0 : Int) (r : Int) (w : World) (h : intrusionref07_low.f a0 = some r) :
 Calls Try.prog 136 #[.int .i64 a0] w fun e w' => e = .returned (.int .u64 r) ∧ Drawn0 w w' := by
 unfold intrusionref07_low.f at h; have H := h
 clear h
 by_cases c2 : a0 ≥ 64
 · rw [if_pos c2] at H
   have c2b0 : decide (64 ≤ a0) = true := decide_eq_true c2
   clear c2
   obtain rfl := Option.some.inj H
   go_enter Try.func136, Try.ntmps136
   go_wp2
   go_ret
   exact ⟨by first | rfl | (simp; done) | (simp [*]; done), by repeat (first | exact Drawn0.refl _ | apply Drawn0.step)⟩
 · rw [if_neg c2] at H
   have c2b0 : decide (64 ≤ a0) = false := decide_eq_false c2
   clear c2
   obtain ⟨ji3, hji3⟩ : ∃ j_ : Int, (IntKind.u64.wrap (a0)) = j_ := ⟨_, rfl⟩
   replace H : (if 0 ≤ (ji3) then (some (IntKind.u64.wrap ((shl .u64 1 (ji3)) - 1))) else (none)) = some r := by first | (rw [hji3] at H; exact H) | (simp only [hji3] at H ⊢; exact H)
   by_cases c4 : 0 ≤ (ji3)
   · rw [if_pos c4] at H
     have c4b0 := eq_true c4
     have c4b1 : decide (0 ≤ (ji3)) = true := decide_eq_true c4
     clear c4
     obtain ⟨ji5, hji5⟩ : ∃ j_ : Int, (shl .u64 1 (ji3)) = j_ := ⟨_, rfl⟩
     replace H : (some (IntKind.u64.wrap ((ji5) - 1))) = some r := by first | (rw [hji5] at H; exact H) | (simp only [hji5] at H ⊢; exact H)
     have hji5_ : (IntKind.u64.wrap (1 * 2 ^ min (ji3).toNat 64)) = ji5 := hji5
     have hji5z : (ji3) ≤ 64 → (IntKind.u64.wrap (1 * 2 ^ (ji3).toNat)) = ji5 := shl_small hji5
     have hji5u : (IntKind.u64.wrap (2 ^ min (ji3).toNat 64)) = ji5 := by have h_ := hji5_; rw [Int.one_mul] at h_; exact h_
     have hji5v : (ji3) ≤ 64 → (IntKind.u64.wrap (2 ^ (ji3).toNat)) = ji5 := fun hle_ => by have h_ := hji5z hle_; rw [Int.one_mul] at h_; exact h_
     obtain rfl := Option.some.inj H
     go_enter Try.func136, Try.ntmps136
     go_wp2
     go_ret
     exact ⟨by first | rfl | (simp; done) | (simp only [← hji3, ← hji5] <;> (first | rfl | simp)) | (simp [*]; done), by repeat (first | exact Drawn0.refl _ | apply Drawn0.step)⟩
   · rw [if_neg c4] at H
     exact absurd H (by simp)
end Go.Proofs.Ytcgfpffgiimgmaa.Q
end

section
namespace Go.Proofs.Ytcgfpffgiimgmaa.Q
open Go.RowKit Go.Proofs.YtcgfpffgiimgmaaW.PrintWords Go.Proofs.YtcgfpffgiimgmaaW.PrintLast Go.Proofs.YtcgfpffgiimgmaaW.PrintMore
attribute [local go_sem] max2_int min2_int max_two min_two max_three min_three max_four min_four
set_option linter.unusedVariables false
set_option linter.unusedSimpArgs false
def intrusionref07_Mask.f (a0 : Int) : Option (Int × Int) := if a0 ≤ 64 then ((intrusionref07_low.f a0).bind fun t682 => (some (0, t682))) else ((intrusionref07_low.f (wrap64 (a0 - 64))).bind fun t683 => ((intrusionref07_low.f 64).bind fun t684 => (some (t683, t684))))
set_option maxHeartbeats 8000000 in
set_option maxRecDepth 100000 in
theorem intrusionref07_Mask.calls (a0 : Int) (r1 : Int) (r2 : Int) (w : World) (h : intrusionref07_Mask.f a0 = some (r1, r2)) :
 Calls Try.prog 112 #[.int .i64 a0] w fun e w' => e = .returned (.tuple #[.int .u64 r1, .int .u64 r2]) ∧ Drawn0 w w' := by
 unfold intrusionref07_Mask.f at h; have H := h
 clear h
 by_cases c2 : a0 ≤ 64
 · rw [if_pos c2] at H
   have c2b0 : decide (a0 ≤ 64) = true := decide_eq_true c2
   clear c2
   replace H := Option.bind_eq_some_iff.mp H
   obtain ⟨t682, A30, H⟩ := H
   replace H : (some (0, t682)) = some (r1, r2) := H
   have A3 := Aside0.mk A30
   clear A30
   simp only [Option.some.injEq, Prod.mk.injEq] at H
   obtain ⟨rfl, rfl⟩ := H
   go_enter Try.func112, Try.ntmps112
   go_wp2_with (first | ((with_reducible refine gate_callee (f := 136) rfl ?_); refine goesL_ (some 7) rfl rfl Try.func136 (by kernel_rfl) rfl #[.int .i64 a0] rfl (by (try simp only [List.map_toArray, List.map_cons, List.map_nil]); first | done | rfl | (simp only [List.length_drop, List.length_take]; rfl)) ?_; (with_reducible refine (intrusionref07_low.calls a0 t682 _ A3.out).mono ?_); rintro e w' ⟨rfl, ⟨nd, rfl⟩⟩; refine ⟨_, rfl, ?_⟩))
   go_ret2
   exact ⟨by first | rfl | (simp; done) | (simp [*]; done), by repeat (first | exact Drawn0.refl _ | apply Drawn0.step)⟩
 · rw [if_neg c2] at H
   have c2b0 : decide (a0 ≤ 64) = false := decide_eq_false c2
   clear c2
   replace H := Option.bind_eq_some_iff.mp H
   obtain ⟨t683, A40, H⟩ := H
   replace H : ((intrusionref07_low.f 64).bind fun t684 => (some (t683, t684))) = some (r1, r2) := H
   have A4 := Aside0.mk A40
   clear A40
   replace H := Option.bind_eq_some_iff.mp H
   obtain ⟨t684, A50, H⟩ := H
   replace H : (some (t683, t684)) = some (r1, r2) := H
   have A5 := Aside0.mk A50
   clear A50
   simp only [Option.some.injEq, Prod.mk.injEq] at H
   obtain ⟨rfl, rfl⟩ := H
   go_enter Try.func112, Try.ntmps112
   go_wp2_with (first | ((with_reducible refine gate_callee (f := 136) rfl ?_); refine goesL_ (some 10) rfl rfl Try.func136 (by kernel_rfl) rfl #[.int .i64 (wrap64 (a0 - 64))] rfl (by (try simp only [List.map_toArray, List.map_cons, List.map_nil]); first | done | rfl | (simp only [List.length_drop, List.length_take]; rfl)) ?_; (with_reducible refine (intrusionref07_low.calls (wrap64 (a0 - 64)) t683 _ A4.out).mono ?_); rintro e w' ⟨rfl, ⟨nd, rfl⟩⟩; refine ⟨_, rfl, ?_⟩) | ((with_reducible refine gate_callee (f := 136) rfl ?_); refine goesL_ (some 11) rfl rfl Try.func136 (by kernel_rfl) rfl #[.int .i64 64] rfl (by (try simp only [List.map_toArray, List.map_cons, List.map_nil]); first | done | rfl | (simp only [List.length_drop, List.length_take]; rfl)) ?_; (with_reducible refine (intrusionref07_low.calls 64 t684 _ A5.out).mono ?_); rintro e w' ⟨rfl, ⟨nd, rfl⟩⟩; refine ⟨_, rfl, ?_⟩))
   go_ret2
   exact ⟨by first | rfl | (simp; done) | (simp [*]; done), by repeat (first | exact Drawn0.refl _ | apply Drawn0.step)⟩
end Go.Proofs.Ytcgfpffgiimgmaa.Q
end

section
namespace Go.Proofs.Ytcgfpffgiimgmaa.Q
open Go.RowKit Go.Proofs.YtcgfpffgiimgmaaW.PrintWords Go.Proofs.YtcgfpffgiimgmaaW.PrintLast Go.Proofs.YtcgfpffgiimgmaaW.PrintMore
attribute [local go_sem] max2_int min2_int max_two min_two max_three min_three max_four min_four
set_option linter.unusedVariables false
set_option linter.unusedSimpArgs false
def intrusionref07_Right.j0 : Nat → Bool → Bool → Int → Int → Int → Option (Bool)
  | 0, _, _, _, _, _ => none
  | k + 1, x21, x686000, x686001, x686002, x686003 => if x21 = true then (some false) else ((intrusionref07_Size.f x686000 x686001 x686002).bind fun t688 => ((intrusionref07_Mask.f (wrap64 (t688 - x686003))).bind fun bt689 => (if (Go.bits .and .u64 x686001 bt689.1) = 0 then (some ((Go.bits .and .u64 x686002 bt689.2) == 0)) else (some false))))
def intrusionref07_Right.f (k : Nat) (a0_0 : Bool) (a0_1 : Int) (a0_2 : Int) (a0_3 : Int) : Option (Bool) := (intrusionref07_Fine.f a0_0 a0_1 a0_2).bind fun t686 => (if t686 = true then (if a0_3 < 0 then (intrusionref07_Right.j0 k true a0_0 a0_1 a0_2 a0_3) else ((intrusionref07_Size.f a0_0 a0_1 a0_2).bind fun t687 => (intrusionref07_Right.j0 k (decide (a0_3 > t687)) a0_0 a0_1 a0_2 a0_3))) else (intrusionref07_Right.j0 k true a0_0 a0_1 a0_2 a0_3))
theorem intrusionref07_Right.mono_l : ∀ k, (∀ y0 y1 y2 y3 y4, LeO (intrusionref07_Right.j0 k y0 y1 y2 y3 y4) (intrusionref07_Right.j0 (k + 1) y0 y1 y2 y3 y4))
  | 0 => fun _ _ _ _ _ r h => by simp [intrusionref07_Right.j0] at h
  | k + 1 => by
    have ih0 := intrusionref07_Right.mono_l k
    · intro y0 y1 y2 y3 y4
      unfold intrusionref07_Right.j0
      repeat' first
      | (with_reducible exact ih0 _ _ _ _ _)
      | (with_reducible exact LeO.refl _)
      | (with_reducible exact LeO.none _)
      | (with_reducible refine LeO.ite ?_ ?_)
      | (with_reducible refine LeO.bind ?_ (fun _ => ?_))
      | exact ih0 _ _ _ _ _
      | exact LeO.none _
      | refine LeO.ite ?_ ?_
      | refine LeO.bind ?_ (fun _ => ?_)
theorem intrusionref07_Right.mono : ∀ a0 a1 a2 a3 k, LeO (intrusionref07_Right.f k a0 a1 a2 a3) (intrusionref07_Right.f (k + 1) a0 a1 a2 a3) := by
  intro a0 a1 a2 a3 k
  have ih0 := intrusionref07_Right.mono_l k
  unfold intrusionref07_Right.f
  repeat' first
      | (with_reducible exact ih0 _ _ _ _ _)
      | (with_reducible exact LeO.refl _)
      | (with_reducible exact LeO.none _)
      | (with_reducible refine LeO.ite ?_ ?_)
      | (with_reducible refine LeO.bind ?_ (fun _ => ?_))
      | exact ih0 _ _ _ _ _
      | exact LeO.none _
      | refine LeO.ite ?_ ?_
      | refine LeO.bind ?_ (fun _ => ?_)
def intrusionref07_Right.T1 : Bool × List (List Nat × List Nat) := (true, [([], []), ([0], [0]), ([1], [1]), ([2], [2]), ([3, 2], [3]), ([4], [4]), ([5, 4], [4, 5]), ([6, 4], [4, 6]), ([4, 7], [4, 7]), ([8, 4], [8]), ([9], [9]), ([10, 9], [9, 10]), ([9], [9]), ([12, 9], [9, 12]), ([13, 9, 9], [9, 13]), ([11, 14, 9], [9, 11, 14]), ([9, 15], [9, 15])])
def intrusionref07_Right.B1 : List Nat := [0, 1, 3, 7, 15, 31, 63, 127, 255, 511, 1023, 2047, 1023, 5119, 13311, 32767, 65535]
theorem intrusionref07_Right.tab1 : rtab .any (opsOf Try.f89 1) = intrusionref07_Right.T1 := by kernel_rfl
theorem intrusionref07_Right.bits1 : waitsOk intrusionref07_Right.T1.2 intrusionref07_Right.B1 = true := by kernel_rfl
def intrusionref07_Right.T3 : Bool × List (List Nat × List Nat) := (true, [([], []), ([0], [0]), ([1], [1]), ([], []), ([3], [3]), ([2, 4], [2, 4]), ([5, 2], [5]), ([6], [6]), ([7], [7]), ([7], [7]), ([8, 6, 0, 1, 2, 3, 4, 5, 6, 7, 8], [8]), ([9, 10, 0, 1, 2, 3, 4, 5, 6, 7, 8, 9, 10], [9])])
def intrusionref07_Right.B3 : List Nat := [0, 1, 3, 0, 8, 31, 63, 127, 255, 255, 511, 2047]
theorem intrusionref07_Right.tab3 : rtab .any (opsOf Try.f89 3) = intrusionref07_Right.T3 := by kernel_rfl
theorem intrusionref07_Right.bits3 : waitsOk intrusionref07_Right.T3.2 intrusionref07_Right.B3 = true := by kernel_rfl
set_option maxHeartbeats 8000000 in
set_option maxRecDepth 100000 in
theorem intrusionref07_Right.calls (k : Nat) (a0_0 : Bool) (a0_1 : Int) (a0_2 : Int) (a0_3 : Int) (r : Bool) (w : World) (h : intrusionref07_Right.f k a0_0 a0_1 a0_2 a0_3 = some r) :
 Calls Try.prog 89 #[.agg #[.bool a0_0, .int .u64 a0_1, .int .u64 a0_2, .int .i64 a0_3]] w fun e w' => e = .returned (.bool r) ∧ Below w.heap.size w w' := by
 have hu45 := Try.underlying45
 have hu36 := Try.underlying36
 have HB := Aside0.mk (Below.refl w.heap.size w)
 unfold intrusionref07_Right.f at h; have H := h
 clear h
 have HC2 := Aside0.mk H
 clear H
 go_enter Try.func89, Try.ntmps89
 go_upto_region 1 with (first | ((with_reducible refine gate_dst (N := 1) rfl ?_); refine zx 1 #[.bool a0_0, .int .u64 a0_1, .int .u64 a0_2, .int .i64 a0_3] 45 ?_; intro gb685 hg w3 hbox hb; have BK685 := Aside0.mk (hbox); have GW685 := Aside0.mk ((by rw [hg]; exact (below_size (zB HB)) : w.heap.size ≤ gb685)); have GE685 := Aside0.mk ((by rw [hg]; exact (below_size (zB HB)) : w.heap.size ≤ gb685)); replace HB := Aside0.mk (below_step (zB HB) hb); clear hb hbox hg))
 (try simp only [Act.put, List.setIfInBounds_toArray, List.set_cons_zero, List.set_cons_succ])
 go_cut [21] (fun v21 wc => ∃ (kq : Nat) (x21_1 : Bool), v21 = .bool x21_1 ∧ Aside0 (intrusionref07_Right.j0 kq x21_1 a0_0 a0_1 a0_2 a0_3 = some r) ∧ Aside0 (kq ≤ k) ∧ Aside0 (wc.heap[gb685]? = some (.cells #[.bool a0_0, .int .u64 a0_1, .int .u64 a0_2, .int .i64 a0_3] 45 (0, 0))) ∧ Aside0 (Below w.heap.size w wc))
 case first =>
  have H := HC2.out
  clear HC2
  replace H := Option.bind_eq_some_iff.mp H
  obtain ⟨t686, A40, H⟩ := H
  try dsimp only at H
  have A4 := Aside0.mk A40
  clear A40
  by_cases c5 : t686 = true
  · subst c5
    rw [if_pos rfl] at H
    by_cases c6 : a0_3 < 0
    · rw [if_pos c6] at H
      have c6b0 : decide (a0_3 < 0) = true := decide_eq_true c6
      clear c6
      (first | rw [c6b0] | (simp only [i64_w, i32_w]; rw [c6b0]) | skip)
      have H' := Aside0.mk H
      clear H
      try go_wp2
      replace BK685 := Aside0.mk (blk_drew BK685.out)
      replace HB := Aside0.mk (below_drew1 HB.out)
      refine start_ (n := 17) (S := fun w' => w'.cell? ⟨gb685, 0, none⟩ = some (.bool a0_0) ∧ w'.cell? ⟨gb685, 1, none⟩ = some (.int .u64 a0_1) ∧ w'.cell? ⟨gb685, 2, none⟩ = some (.int .u64 a0_2) ∧ w'.cell? ⟨gb685, 3, none⟩ = some (.int .i64 a0_3)) (ds := []) #[false, false, false, false, false, false, false, false, false, false, false, false, false, false, false, false, false] (by kernel_rfl) rfl rfl ⟨zc BK685 0, zc BK685 1, zc BK685 2, zc BK685 3⟩ (fun hHeld => ?_); refine with_tabW intrusionref07_Right.tab1 intrusionref07_Right.bits1 (fun HT_ HW_ => ?_)
      generalize w3.drew = w7 at BK685 HB hHeld ⊢
      refine zp 0 5 HT_ ?_; refine zt 1 6 HT_ HW_ hHeld ?_; refine zo 2 7 HT_ (fun K hK => ?_)
      refine zg Try.func85 #[.agg #[.bool a0_0, .int .u64 a0_1, .int .u64 a0_2]] ?_
      with_reducible refine (intrusionref07_Fine.calls a0_0 a0_1 a0_2 true _ A4.out).mono ?_
      rintro e w8 ⟨rfl, hb⟩
      refine ⟨_, rfl, ?_⟩
      replace BK685 := Aside0.mk (blk_below (g := gb685) (o := .cells #[.bool a0_0, .int .u64 a0_1, .int .u64 a0_2, .int .i64 a0_3] 45 (0, 0)) (zK BK685) hb)
      replace HB := Aside0.mk (below_step (zB HB) hb)
      (try clear hb)
      refine hK.out _ _ ⟨zc BK685 0, zc BK685 1, zc BK685 2, zc BK685 3⟩ (fun hHeld => ?_)
      clear hK K
      refine zn 7 ?_; refine zp 3 8 HT_ ?_; refine zp 4 9 HT_ ?_; refine zp 5 10 HT_ ?_; refine zt 6 11 HT_ HW_ hHeld ?_; refine zp 7 12 HT_ ?_; refine zp 8 13 HT_ ?_; refine zp 9 14 HT_ ?_; refine zu 10 15 HT_ ?_; refine zu 11 16 HT_ ?_; refine zu 12 17 HT_ ?_; refine zu 13 18 HT_ ?_; refine zu 14 19 HT_ ?_; refine zu 15 20 HT_ ?_; refine zp 16 21 HT_ ?_; refine zd HT_ ?_
      try go_wp2
      go_meet
      case rel => exact ⟨_, (true), (by first | rfl | (simp; done) | (simp [*]; done)), H', ⟨by first | omega | exact Nat.le_refl _⟩, ⟨zK BK685⟩, ⟨zB HB⟩⟩
    · rw [if_neg c6] at H
      have c6b0 : decide (a0_3 < 0) = false := decide_eq_false c6
      clear c6
      (first | rw [c6b0] | (simp only [i64_w, i32_w]; rw [c6b0]) | skip)
      replace H := Option.bind_eq_some_iff.mp H
      obtain ⟨t687, A90, H⟩ := H
      try dsimp only at H
      have A9 := Aside0.mk A90
      clear A90
      have H' := Aside0.mk H
      clear H
      try go_wp2
      replace BK685 := Aside0.mk (blk_drew BK685.out)
      replace HB := Aside0.mk (below_drew1 HB.out)
      refine start_ (n := 17) (S := fun w' => w'.cell? ⟨gb685, 0, none⟩ = some (.bool a0_0) ∧ w'.cell? ⟨gb685, 1, none⟩ = some (.int .u64 a0_1) ∧ w'.cell? ⟨gb685, 2, none⟩ = some (.int .u64 a0_2) ∧ w'.cell? ⟨gb685, 3, none⟩ = some (.int .i64 a0_3)) (ds := []) #[false, false, false, false, false, false, false, false, false, false, false, false, false, false, false, false, false] (by kernel_rfl) rfl rfl ⟨zc BK685 0, zc BK685 1, zc BK685 2, zc BK685 3⟩ (fun hHeld => ?_); refine with_tabW intrusionref07_Right.tab1 intrusionref07_Right.bits1 (fun HT_ HW_ => ?_)
      generalize w3.drew = w10 at BK685 HB hHeld ⊢
      refine zp 0 5 HT_ ?_; refine zt 1 6 HT_ HW_ hHeld ?_; refine zo 2 7 HT_ (fun K hK => ?_)
      refine zg Try.func85 #[.agg #[.bool a0_0, .int .u64 a0_1, .int .u64 a0_2]] ?_
      with_reducible refine (intrusionref07_Fine.calls a0_0 a0_1 a0_2 true _ A4.out).mono ?_
      rintro e w11 ⟨rfl, hb⟩
      refine ⟨_, rfl, ?_⟩
      replace BK685 := Aside0.mk (blk_below (g := gb685) (o := .cells #[.bool a0_0, .int .u64 a0_1, .int .u64 a0_2, .int .i64 a0_3] 45 (0, 0)) (zK BK685) hb)
      replace HB := Aside0.mk (below_step (zB HB) hb)
      (try clear hb)
      refine hK.out _ _ ⟨zc BK685 0, zc BK685 1, zc BK685 2, zc BK685 3⟩ (fun hHeld => ?_)
      clear hK K
      refine zn 7 ?_; refine zp 3 8 HT_ ?_; refine zp 4 9 HT_ ?_; refine zp 5 10 HT_ ?_; refine zt 6 11 HT_ HW_ hHeld ?_; refine zp 7 12 HT_ ?_; refine zp 8 13 HT_ ?_; refine zp 9 14 HT_ ?_; refine zp 10 15 HT_ ?_; refine zp 12 17 HT_ ?_; refine zt 11 16 HT_ HW_ hHeld ?_; refine zt 13 18 HT_ HW_ hHeld ?_; refine zo 14 19 HT_ (fun K hK => ?_)
      refine zg Try.func111 #[.agg #[.bool a0_0, .int .u64 a0_1, .int .u64 a0_2]] ?_
      with_reducible refine (intrusionref07_Size.calls a0_0 a0_1 a0_2 t687 _ A9.out).mono ?_
      rintro e w12 ⟨rfl, hb⟩
      refine ⟨_, rfl, ?_⟩
      replace BK685 := Aside0.mk (blk_below (g := gb685) (o := .cells #[.bool a0_0, .int .u64 a0_1, .int .u64 a0_2, .int .i64 a0_3] 45 (0, 0)) (zK BK685) hb)
      replace HB := Aside0.mk (below_step (zB HB) hb)
      (try clear hb)
      refine hK.out _ _ ⟨zc BK685 0, zc BK685 1, zc BK685 2, zc BK685 3⟩ (fun hHeld => ?_)
      clear hK K
      refine zn 19 ?_; refine zp 15 20 HT_ ?_; refine zp 16 21 HT_ ?_; refine zd HT_ ?_
      try go_wp2
      go_meet
      case rel => exact ⟨_, (decide (a0_3 > t687)), (by first | rfl | (simp; done) | (simp [*]; done)), H', ⟨by first | omega | exact Nat.le_refl _⟩, ⟨zK BK685⟩, ⟨zB HB⟩⟩
  · replace c5 := Bool.eq_false_iff.mpr c5
    subst c5
    rw [if_neg zF] at H
    have H' := Aside0.mk H
    clear H
    try go_wp2
    replace BK685 := Aside0.mk (blk_drew BK685.out)
    replace HB := Aside0.mk (below_drew1 HB.out)
    refine start_ (n := 17) (S := fun w' => w'.cell? ⟨gb685, 0, none⟩ = some (.bool a0_0) ∧ w'.cell? ⟨gb685, 1, none⟩ = some (.int .u64 a0_1) ∧ w'.cell? ⟨gb685, 2, none⟩ = some (.int .u64 a0_2) ∧ w'.cell? ⟨gb685, 3, none⟩ = some (.int .i64 a0_3)) (ds := []) #[false, false, false, false, false, false, false, false, false, false, false, false, false, false, false, false, false] (by kernel_rfl) rfl rfl ⟨zc BK685 0, zc BK685 1, zc BK685 2, zc BK685 3⟩ (fun hHeld => ?_); refine with_tabW intrusionref07_Right.tab1 intrusionref07_Right.bits1 (fun HT_ HW_ => ?_)
    generalize w3.drew = w13 at BK685 HB hHeld ⊢
    refine zp 0 5 HT_ ?_; refine zt 1 6 HT_ HW_ hHeld ?_; refine zo 2 7 HT_ (fun K hK => ?_)
    refine zg Try.func85 #[.agg #[.bool a0_0, .int .u64 a0_1, .int .u64 a0_2]] ?_
    with_reducible refine (intrusionref07_Fine.calls a0_0 a0_1 a0_2 false _ A4.out).mono ?_
    rintro e w14 ⟨rfl, hb⟩
    refine ⟨_, rfl, ?_⟩
    replace BK685 := Aside0.mk (blk_below (g := gb685) (o := .cells #[.bool a0_0, .int .u64 a0_1, .int .u64 a0_2, .int .i64 a0_3] 45 (0, 0)) (zK BK685) hb)
    replace HB := Aside0.mk (below_step (zB HB) hb)
    (try clear hb)
    refine hK.out _ _ ⟨zc BK685 0, zc BK685 1, zc BK685 2, zc BK685 3⟩ (fun hHeld => ?_)
    clear hK K
    refine zn 7 ?_; refine zp 3 8 HT_ ?_; refine zp 4 9 HT_ ?_; refine zu 5 10 HT_ ?_; refine zu 6 11 HT_ ?_; refine zu 7 12 HT_ ?_; refine zp 8 13 HT_ ?_; refine zp 9 14 HT_ ?_; refine zu 10 15 HT_ ?_; refine zu 11 16 HT_ ?_; refine zu 12 17 HT_ ?_; refine zu 13 18 HT_ ?_; refine zu 14 19 HT_ ?_; refine zu 15 20 HT_ ?_; refine zp 16 21 HT_ ?_; refine zd HT_ ?_
    try go_wp2
    go_meet
    case rel => exact ⟨_, (true), (by first | rfl | (simp; done) | (simp [*]; done)), H', ⟨by first | omega | exact Nat.le_refl _⟩, ⟨zK BK685⟩, ⟨zB HB⟩⟩
 case rest =>
  clear HC2
  try clear c1
  try clear p2
  try clear c5
  try clear c6
  try clear c6b0
  try clear c8
  try clear c11
  obtain ⟨kq, x21_1, rfl, HA, HJ1, BK685, HB⟩ := hcut
  cases kq with
  | zero => exact absurd HA.out (by simp [intrusionref07_Right.j0])
  | succ kj1 =>
   have H := HA.out
   clear HA
   simp only [intrusionref07_Right.j0] at H
   by_cases c15 : x21_1 = true
   · subst c15
     rw [if_pos rfl] at H
     obtain rfl := Option.some.inj H
     go_wp2
     go_ret
     exact ⟨by first | rfl | (simp [errW_none, errW_some] <;> rfl) | (simp [*, errW_none, errW_some] <;> rfl), by repeat (first | (with_reducible first | exact HB.out | apply below_alloc | apply pw_below_drewN | apply below_drew1 | refine below_set ?_ GE685.out) | exact HB.out)⟩
   · replace c15 := Bool.eq_false_iff.mpr c15
     subst c15
     rw [if_neg zF] at H
     replace H := Option.bind_eq_some_iff.mp H
     obtain ⟨t688, A160, H⟩ := H
     try dsimp only at H
     have A16 := Aside0.mk A160
     clear A160
     replace H := Option.bind_eq_some_iff.mp H
     obtain ⟨⟨t689, t690⟩, A170, H⟩ := H
     try dsimp only at H
     have A17 := Aside0.mk A170
     clear A170
     by_cases c18 : (Go.bits .and .u64 a0_1 t689) = 0
     · rw [if_pos c18] at H
       have c18b0 : ((Go.bits .and .u64 a0_1 t689) == 0) = true := beq_iff_eq.mpr c18
       have c18b1 : ((Go.bits .and .u64 a0_1 t689) != 0) = false := bne_eq_false_iff_eq.mpr c18
       clear c18
       obtain rfl := Option.some.inj H
       try go_wp2
       replace BK685 := Aside0.mk (blk_drew BK685.out)
       replace HB := Aside0.mk (below_drew1 HB.out)
       refine start_ (n := 12) (S := fun w' => w'.cell? ⟨gb685, 0, none⟩ = some (.bool a0_0) ∧ w'.cell? ⟨gb685, 1, none⟩ = some (.int .u64 a0_1) ∧ w'.cell? ⟨gb685, 2, none⟩ = some (.int .u64 a0_2) ∧ w'.cell? ⟨gb685, 3, none⟩ = some (.int .i64 a0_3)) (ds := []) #[false, false, false, false, false, false, false, false, false, false, false, false] (by kernel_rfl) rfl rfl ⟨zc BK685 0, zc BK685 1, zc BK685 2, zc BK685 3⟩ (fun hHeld => ?_); refine with_tabW intrusionref07_Right.tab3 intrusionref07_Right.bits3 (fun HT_ HW_ => ?_)
       generalize wc.drew = w19 at BK685 HB hHeld ⊢
       refine zp 0 23 HT_ ?_; refine zp 3 26 HT_ ?_; refine zt 1 24 HT_ HW_ hHeld ?_; refine zt 4 27 HT_ HW_ hHeld ?_; refine zo 2 25 HT_ (fun K hK => ?_)
       refine zg Try.func111 #[.agg #[.bool a0_0, .int .u64 a0_1, .int .u64 a0_2]] ?_
       with_reducible refine (intrusionref07_Size.calls a0_0 a0_1 a0_2 t688 _ A16.out).mono ?_
       rintro e w20 ⟨rfl, hb⟩
       refine ⟨_, rfl, ?_⟩
       replace BK685 := Aside0.mk (blk_below (g := gb685) (o := .cells #[.bool a0_0, .int .u64 a0_1, .int .u64 a0_2, .int .i64 a0_3] 45 (0, 0)) (zK BK685) hb)
       replace HB := Aside0.mk (below_step (zB HB) hb)
       (try clear hb)
       refine hK.out _ _ ⟨zc BK685 0, zc BK685 1, zc BK685 2, zc BK685 3⟩ (fun hHeld => ?_)
       clear hK K
       refine zn 25 ?_; refine zp 5 28 HT_ ?_; refine zo 6 29 HT_ (fun K hK => ?_)
       refine zg Try.func112 #[.int .i64 (wrap64 (t688 - a0_3))] ?_
       with_reducible refine (intrusionref07_Mask.calls (wrap64 (t688 - a0_3)) t689 t690 _ A17.out).mono ?_
       rintro e w' ⟨rfl, ⟨nd, rfl⟩⟩
       refine ⟨_, rfl, ?_⟩
       refine hK.out _ _ ⟨zc BK685 0, zc BK685 1, zc BK685 2, zc BK685 3⟩ (fun hHeld => ?_)
       clear hK K
       refine zn 29 ?_; refine zp 7 22 HT_ ?_; refine zp 8 30 HT_ ?_; refine zp 9 31 HT_ ?_; refine zp 10 3 HT_ ?_; refine zp 11 4 HT_ ?_; refine zd HT_ ?_
       obtain ⟨hcz21_0, hcz21_1, hcz21_2, hcz21_3⟩ := zc4 BK685
       obtain ⟨hfz21_0, hfz21_1, hfz21_2, hfz21_3⟩ := zf4 BK685
       try go_wp2
       go_ret
       exact ⟨by first | rfl | (simp [errW_none, errW_some] <;> rfl) | (simp [*, errW_none, errW_some] <;> rfl), by repeat (first | (with_reducible first | exact HB.out | apply below_alloc | apply pw_below_drewN | apply below_drew1 | refine below_set ?_ GE685.out) | exact HB.out)⟩
     · rw [if_neg c18] at H
       have c18b0 : ((Go.bits .and .u64 a0_1 t689) == 0) = false := beq_eq_false_iff_ne.mpr c18
       have c18b1 : ((Go.bits .and .u64 a0_1 t689) != 0) = true := bne_iff_ne.mpr c18
       obtain rfl := Option.some.inj H
       try go_wp2
       replace BK685 := Aside0.mk (blk_drew BK685.out)
       replace HB := Aside0.mk (below_drew1 HB.out)
       refine start_ (n := 12) (S := fun w' => w'.cell? ⟨gb685, 0, none⟩ = some (.bool a0_0) ∧ w'.cell? ⟨gb685, 1, none⟩ = some (.int .u64 a0_1) ∧ w'.cell? ⟨gb685, 2, none⟩ = some (.int .u64 a0_2) ∧ w'.cell? ⟨gb685, 3, none⟩ = some (.int .i64 a0_3)) (ds := []) #[false, false, false, false, false, false, false, false, false, false, false, false] (by kernel_rfl) rfl rfl ⟨zc BK685 0, zc BK685 1, zc BK685 2, zc BK685 3⟩ (fun hHeld => ?_); refine with_tabW intrusionref07_Right.tab3 intrusionref07_Right.bits3 (fun HT_ HW_ => ?_)
       generalize wc.drew = w22 at BK685 HB hHeld ⊢
       refine zp 0 23 HT_ ?_; refine zp 3 26 HT_ ?_; refine zt 1 24 HT_ HW_ hHeld ?_; refine zt 4 27 HT_ HW_ hHeld ?_; refine zo 2 25 HT_ (fun K hK => ?_)
       refine zg Try.func111 #[.agg #[.bool a0_0, .int .u64 a0_1, .int .u64 a0_2]] ?_
       with_reducible refine (intrusionref07_Size.calls a0_0 a0_1 a0_2 t688 _ A16.out).mono ?_
       rintro e w23 ⟨rfl, hb⟩
       refine ⟨_, rfl, ?_⟩
       replace BK685 := Aside0.mk (blk_below (g := gb685) (o := .cells #[.bool a0_0, .int .u64 a0_1, .int .u64 a0_2, .int .i64 a0_3] 45 (0, 0)) (zK BK685) hb)
       replace HB := Aside0.mk (below_step (zB HB) hb)
       (try clear hb)
       refine hK.out _ _ ⟨zc BK685 0, zc BK685 1, zc BK685 2, zc BK685 3⟩ (fun hHeld => ?_)
       clear hK K
       refine zn 25 ?_; refine zp 5 28 HT_ ?_; refine zo 6 29 HT_ (fun K hK => ?_)
       refine zg Try.func112 #[.int .i64 (wrap64 (t688 - a0_3))] ?_
       with_reducible refine (intrusionref07_Mask.calls (wrap64 (t688 - a0_3)) t689 t690 _ A17.out).mono ?_
       rintro e w' ⟨rfl, ⟨nd, rfl⟩⟩
       refine ⟨_, rfl, ?_⟩
       refine hK.out _ _ ⟨zc BK685 0, zc BK685 1, zc BK685 2, zc BK685 3⟩ (fun hHeld => ?_)
       clear hK K
       refine zn 29 ?_; refine zp 7 22 HT_ ?_; refine zp 8 30 HT_ ?_; refine zp 9 31 HT_ ?_; refine zp 10 3 HT_ ?_; refine zp 11 4 HT_ ?_; refine zd HT_ ?_
       obtain ⟨hcz24_0, hcz24_1, hcz24_2, hcz24_3⟩ := zc4 BK685
       obtain ⟨hfz24_0, hfz24_1, hfz24_2, hfz24_3⟩ := zf4 BK685
       try go_wp2
       go_ret
       exact ⟨by first | rfl | (simp [errW_none, errW_some] <;> rfl) | (simp [*, errW_none, errW_some] <;> rfl), by repeat (first | (with_reducible first | exact HB.out | apply below_alloc | apply pw_below_drewN | apply below_drew1 | refine below_set ?_ GE685.out) | exact HB.out)⟩
end Go.Proofs.Ytcgfpffgiimgmaa.Q
end

section
namespace Go.Proofs.Ytcgfpffgiimgmaa.Q
open Go.RowKit Go.Proofs.YtcgfpffgiimgmaaW.PrintWords Go.Proofs.YtcgfpffgiimgmaaW.PrintLast Go.Proofs.YtcgfpffgiimgmaaW.PrintMore
attribute [local go_sem] max2_int min2_int max_two min_two max_three min_three max_four min_four
set_option linter.unusedVariables false
set_option linter.unusedSimpArgs false
def intrusionref07_Block.f (a0_0 : Bool) (a0_1 : Int) (a0_2 : Int) (a0_3 : Int) : Option (Bool × Int × Int × Bool × Int × Int) := (intrusionref07_Size.f a0_0 a0_1 a0_2).bind fun t693 => ((intrusionref07_Mask.f (wrap64 (t693 - a0_3))).bind fun bt694 => (some (a0_0, a0_1, a0_2, a0_0, Go.bits .or .u64 a0_1 bt694.1, Go.bits .or .u64 a0_2 bt694.2)))
def intrusionref07_Block.T1 : Bool × List (List Nat × List Nat) := (true, [([], []), ([0], [0]), ([1], [1]), ([], []), ([3], [3]), ([2, 4], [2, 4]), ([5, 2], [5]), ([6], [6]), ([7], [7]), ([7], [7]), ([8, 6, 0, 1, 2, 3, 4, 5, 6, 7, 8], [8]), ([9, 10, 0, 1, 2, 3, 4, 5, 6, 7, 8, 9, 10], [9])])
def intrusionref07_Block.B1 : List Nat := [0, 1, 3, 0, 8, 31, 63, 127, 255, 255, 511, 2047]
theorem intrusionref07_Block.tab1 : rtab .any (opsOf Try.f90 1) = intrusionref07_Block.T1 := by kernel_rfl
theorem intrusionref07_Block.bits1 : waitsOk intrusionref07_Block.T1.2 intrusionref07_Block.B1 = true := by kernel_rfl
set_option maxHeartbeats 8000000 in
set_option maxRecDepth 100000 in
theorem intrusionref07_Block.calls (a0_0 : Bool) (a0_1 : Int) (a0_2 : Int) (a0_3 : Int) (r1 : Bool) (r2 : Int) (r3 : Int) (r4 : Bool) (r5 : Int) (r6 : Int) (w : World) (h : intrusionref07_Block.f a0_0 a0_1 a0_2 a0_3 = some (r1, r2, r3, r4, r5, r6)) :
 Calls Try.prog 90 #[.agg #[.bool a0_0, .int .u64 a0_1, .int .u64 a0_2, .int .i64 a0_3]] w fun e w' => e = .returned (.agg #[.bool r1, .int .u64 r2, .int .u64 r3, .bool r4, .int .u64 r5, .int .u64 r6]) ∧ Below w.heap.size w w' := by
 have hu45 := Try.underlying45
 have hu66 := Try.underlying66
 have hu36 := Try.underlying36
 have HB := Aside0.mk (Below.refl w.heap.size w)
 unfold intrusionref07_Block.f at h; have H := h
 clear h
 replace H := Option.bind_eq_some_iff.mp H
 obtain ⟨t693, A20, H⟩ := H
 replace H : ((intrusionref07_Mask.f (wrap64 (t693 - a0_3))).bind fun bt694 => (some (a0_0, a0_1, a0_2, a0_0, Go.bits .or .u64 a0_1 bt694.1, Go.bits .or .u64 a0_2 bt694.2))) = some (r1, r2, r3, r4, r5, r6) := H
 have A2 := Aside0.mk A20
 clear A20
 replace H := Option.bind_eq_some_iff.mp H
 obtain ⟨⟨t694, t695⟩, A30, H⟩ := H
 replace H : (some (a0_0, a0_1, a0_2, a0_0, Go.bits .or .u64 a0_1 t694, Go.bits .or .u64 a0_2 t695)) = some (r1, r2, r3, r4, r5, r6) := H
 have A3 := Aside0.mk A30
 clear A30
 simp only [Option.some.injEq, Prod.mk.injEq] at H
 obtain ⟨rfl, rfl, rfl, rfl, rfl, rfl⟩ := H
 go_enter Try.func90, Try.ntmps90
 try go_wp2_with (first | ((with_reducible refine gate_dst (N := 1) rfl ?_); refine zx 1 #[.bool a0_0, .int .u64 a0_1, .int .u64 a0_2, .int .i64 a0_3] 45 ?_; intro gb691 hg w4 hbox hb; have BK691 := Aside0.mk (hbox); have GW691 := Aside0.mk ((by rw [hg]; exact (below_size (zB HB)) : w.heap.size ≤ gb691)); have GE691 := Aside0.mk ((by rw [hg]; exact (below_size (zB HB)) : w.heap.size ≤ gb691)); replace HB := Aside0.mk (below_step (zB HB) hb); clear hb hbox hg) | ((with_reducible refine gate_dst (N := 2) rfl ?_); refine zx 2 #[.bool false, .int .u64 0, .int .u64 0, .bool false, .int .u64 0, .int .u64 0] 66 ?_; intro gb692 hg w5 hbox hb; have BK692 := Aside0.mk (hbox); have GW692 := Aside0.mk ((by rw [hg]; exact (below_size (zB HB)) : w.heap.size ≤ gb692)); have GE692 := Aside0.mk ((by rw [hg]; exact (below_size (zB HB)) : w.heap.size ≤ gb692)); replace HB := Aside0.mk (below_step (zB HB) hb); have NB691_692 := Aside0.mk ((by rw [hg]; exact Nat.ne_of_lt (blk_lt (g := gb691) (o := .cells #[.bool a0_0, .int .u64 a0_1, .int .u64 a0_2, .int .i64 a0_3] 45 (0, 0)) (zK BK691)) : gb691 ≠ gb692)); have NB692_691 := Aside0.mk ((by rw [hg]; exact Nat.ne_of_gt (blk_lt (g := gb691) (o := .cells #[.bool a0_0, .int .u64 a0_1, .int .u64 a0_2, .int .i64 a0_3] 45 (0, 0)) (zK BK691)) : gb692 ≠ gb691)); replace BK691 := Aside0.mk (blk_below (g := gb691) (o := .cells #[.bool a0_0, .int .u64 a0_1, .int .u64 a0_2, .int .i64 a0_3] 45 (0, 0)) (zK BK691) hb); clear hb hbox hg))
 replace BK691 := Aside0.mk (blk_drew BK691.out)
 replace BK692 := Aside0.mk (blk_drew BK692.out)
 replace HB := Aside0.mk (below_drew1 HB.out)
 refine start_ (n := 12) (S := fun w' => w'.cell? ⟨gb691, 0, none⟩ = some (.bool a0_0) ∧ w'.cell? ⟨gb691, 1, none⟩ = some (.int .u64 a0_1) ∧ w'.cell? ⟨gb691, 2, none⟩ = some (.int .u64 a0_2) ∧ w'.cell? ⟨gb691, 3, none⟩ = some (.int .i64 a0_3)) (ds := []) #[false, false, false, false, false, false, false, false, false, false, false, false] (by kernel_rfl) rfl rfl ⟨zc BK691 0, zc BK691 1, zc BK691 2, zc BK691 3⟩ (fun hHeld => ?_); refine with_tabW intrusionref07_Block.tab1 intrusionref07_Block.bits1 (fun HT_ HW_ => ?_)
 generalize w5.drew = w6 at BK691 BK692 HB hHeld ⊢
 refine zp 0 6 HT_ ?_; refine zp 3 9 HT_ ?_; refine zt 1 7 HT_ HW_ hHeld ?_; refine zt 4 10 HT_ HW_ hHeld ?_; refine zo 2 8 HT_ (fun K hK => ?_)
 refine zg Try.func111 #[.agg #[.bool a0_0, .int .u64 a0_1, .int .u64 a0_2]] ?_
 with_reducible refine (intrusionref07_Size.calls a0_0 a0_1 a0_2 t693 _ A2.out).mono ?_
 rintro e w7 ⟨rfl, hb⟩
 refine ⟨_, rfl, ?_⟩
 replace BK691 := Aside0.mk (blk_below (g := gb691) (o := .cells #[.bool a0_0, .int .u64 a0_1, .int .u64 a0_2, .int .i64 a0_3] 45 (0, 0)) (zK BK691) hb)
 replace BK692 := Aside0.mk (blk_below (g := gb692) (o := .cells #[.bool false, .int .u64 0, .int .u64 0, .bool false, .int .u64 0, .int .u64 0] 66 (0, 0)) (zK BK692) hb)
 replace HB := Aside0.mk (below_step (zB HB) hb)
 (try clear hb)
 refine hK.out _ _ ⟨zc BK691 0, zc BK691 1, zc BK691 2, zc BK691 3⟩ (fun hHeld => ?_)
 clear hK K
 refine zn 8 ?_; refine zp 5 11 HT_ ?_; refine zo 6 12 HT_ (fun K hK => ?_)
 refine zg Try.func112 #[.int .i64 (wrap64 (t693 - a0_3))] ?_
 with_reducible refine (intrusionref07_Mask.calls (wrap64 (t693 - a0_3)) t694 t695 _ A3.out).mono ?_
 rintro e w' ⟨rfl, ⟨nd, rfl⟩⟩
 refine ⟨_, rfl, ?_⟩
 refine hK.out _ _ ⟨zc BK691 0, zc BK691 1, zc BK691 2, zc BK691 3⟩ (fun hHeld => ?_)
 clear hK K
 refine zn 12 ?_; refine zp 7 5 HT_ ?_; refine zp 8 13 HT_ ?_; refine zp 9 14 HT_ ?_; refine zp 10 3 HT_ ?_; refine zp 11 4 HT_ ?_; refine zd HT_ ?_
 have hnb8 := NB691_692.out
 have hnc8 := NB692_691.out
 obtain ⟨hcz9_0, hcz9_1, hcz9_2, hcz9_3⟩ := zc4 BK691
 obtain ⟨hfz9_0, hfz9_1, hfz9_2, hfz9_3⟩ := zf4 BK691
 obtain ⟨hcz10_0, hcz10_1, hcz10_2, hcz10_3, hcz10_4, hcz10_5⟩ := zc6 BK692
 obtain ⟨hfz10_0, hfz10_1, hfz10_2, hfz10_3, hfz10_4, hfz10_5⟩ := zf6 BK692
 try go_wp2
 refine bodyPost_ret (results_cell_row rfl _ _ gb692 66 #[.bool a0_0, .int .u64 a0_1, .int .u64 a0_2, .bool a0_0, .int .u64 (Go.bits .or .u64 a0_1 t694), .int .u64 (Go.bits .or .u64 a0_2 t695)] (0, 0) _ rfl (by refine zL ?_; refine blk_put (cs := #[.bool a0_0, .int .u64 a0_1, .int .u64 a0_2, .bool a0_0, .int .u64 (Go.bits .or .u64 a0_1 t694), .int .u64 0]) ?_ 5 _ rfl; refine zL ?_; refine blk_put (cs := #[.bool a0_0, .int .u64 a0_1, .int .u64 a0_2, .bool a0_0, .int .u64 0, .int .u64 0]) ?_ 4 _ rfl; refine zL ?_; refine blk_put (cs := #[.bool a0_0, .int .u64 a0_1, .int .u64 a0_2, .bool false, .int .u64 0, .int .u64 0]) ?_ 3 _ rfl; refine zL ?_; refine blk_put (cs := #[.bool a0_0, .int .u64 a0_1, .int .u64 0, .bool false, .int .u64 0, .int .u64 0]) ?_ 2 _ rfl; refine zL ?_; refine blk_put (cs := #[.bool a0_0, .int .u64 0, .int .u64 0, .bool false, .int .u64 0, .int .u64 0]) ?_ 1 _ rfl; refine zL ?_; refine blk_put (cs := #[.bool false, .int .u64 0, .int .u64 0, .bool false, .int .u64 0, .int .u64 0]) ?_ 0 _ rfl; refine zL ?_; exact BK692.out) Try.underlying66 rfl (by kernel_rfl)) rfl ?_
 exact ⟨by first | rfl | (simp [errW_none, errW_some] <;> rfl) | (simp [*, errW_none, errW_some] <;> rfl), by repeat (first | (with_reducible first | exact HB.out | apply below_alloc | apply pw_below_drewN | apply below_drew1 | refine below_set ?_ GE691.out | refine below_set ?_ GE692.out) | exact HB.out)⟩
end Go.Proofs.Ytcgfpffgiimgmaa.Q
end

section
namespace Go.Proofs.Ytcgfpffgiimgmaa.Q
open Go.RowKit Go.Proofs.YtcgfpffgiimgmaaW.PrintWords Go.Proofs.YtcgfpffgiimgmaaW.PrintLast Go.Proofs.YtcgfpffgiimgmaaW.PrintMore
attribute [local go_sem] max2_int min2_int max_two min_two max_three min_three max_four min_four
set_option linter.unusedVariables false
set_option linter.unusedSimpArgs false
attribute [local go_sem high] eqA36
mutual
def intrusionref07_Prefixes.l0 : Nat → List (S45) → List (S66) → Int → Option ((List (S45)))
  | 0, _, _, _ => none
  | k + 1, x3, x4, x5 => if x5 < (x4.length : Int) then (if 0 ≤ x5 then (intrusionref07_Prefixes.l1 k x3 x4 x5 ((rd_T66 x4 x5).f0.f0) ((rd_T66 x4 x5).f0.f1) ((rd_T66 x4 x5).f0.f2)) else (none)) else (some x3)
def intrusionref07_Prefixes.l1 : Nat → List (S45) → List (S66) → Int → Bool → Int → Int → Option ((List (S45)))
  | 0, _, _, _, _, _, _ => none
  | k + 1, x3, x4, x5, x701000, x701001, x701002 => intrusionref07_Prefixes.l2 k x3 x4 x5 x701000 x701001 x701002 0
def intrusionref07_Prefixes.l2 : Nat → List (S45) → List (S66) → Int → Bool → Int → Int → Int → Option ((List (S45)))
  | 0, _, _, _, _, _, _, _ => none
  | k + 1, x3, x4, x5, x702000, x702001, x702002, x702003 => (intrusionref07_Right.f k x702000 x702001 x702002 x702003).bind fun t702 => (if t702 = true then (if 0 ≤ x5 then (if x5 < (x4.length : Int) then ((intrusionref07_Block.f x702000 x702001 x702002 x702003).bind fun bt704 => ((intrusionref07_Before.f ((rd_T66 x4 x5).f1.f0) ((rd_T66 x4 x5).f1.f1) ((rd_T66 x4 x5).f1.f2) bt704.2.2.2.1 bt704.2.2.2.2.1 bt704.2.2.2.2.2).bind fun t710 => (if t710 = true then (intrusionref07_Prefixes.l2 k x3 x4 x5 x702000 x702001 x702002 (wrap64 (x702003 + 1))) else (if x3.length < 4398046511104 then ((some (x3 ++ [(⟨(⟨x702000, x702001, x702002⟩ : S36), x702003⟩ : S45)] : List (S45))).bind fun y711 => (if (y711.length : Int) > 256 then (some ([] : List (S45))) else ((intrusionref07_Block.f x702000 x702001 x702002 x702003).bind fun bt714 => (if (bt714.2.2.2.1 == ((rd_T66 x4 x5).f1.f0) && (bt714.2.2.2.2.1 == ((rd_T66 x4 x5).f1.f1) && (bt714.2.2.2.2.2 == ((rd_T66 x4 x5).f1.f2)))) = true then (intrusionref07_Prefixes.l0 k y711 x4 (wrap64 (x5 + 1))) else ((intrusionref07_After.f bt714.2.2.2.1 bt714.2.2.2.2.1 bt714.2.2.2.2.2).bind fun bt722 => (intrusionref07_Prefixes.l1 k y711 x4 x5 bt722.1 bt722.2.1 bt722.2.2)))))) else (none))))) else (none)) else (none)) else (intrusionref07_Prefixes.l2 k x3 x4 x5 x702000 x702001 x702002 (wrap64 (x702003 + 1))))
end
def intrusionref07_Prefixes.f (k : Nat) (l0 : List (S66)) : Option ((List (S45))) := (intrusionref07_Normal.f k l0).bind fun t696 => (intrusionref07_Prefixes.l0 k ([] : List (S45)) t696 0)
theorem intrusionref07_Prefixes.mono_l : ∀ k, (∀ y0 y1 y2, LeO (intrusionref07_Prefixes.l0 k y0 y1 y2) (intrusionref07_Prefixes.l0 (k + 1) y0 y1 y2)) ∧ (∀ y0 y1 y2 y3 y4 y5, LeO (intrusionref07_Prefixes.l1 k y0 y1 y2 y3 y4 y5) (intrusionref07_Prefixes.l1 (k + 1) y0 y1 y2 y3 y4 y5)) ∧ (∀ y0 y1 y2 y3 y4 y5 y6, LeO (intrusionref07_Prefixes.l2 k y0 y1 y2 y3 y4 y5 y6) (intrusionref07_Prefixes.l2 (k + 1) y0 y1 y2 y3 y4 y5 y6))
  | 0 => ⟨fun _ _ _ r h => by simp [intrusionref07_Prefixes.l0] at h, fun _ _ _ _ _ _ r h => by simp [intrusionref07_Prefixes.l1] at h, fun _ _ _ _ _ _ _ r h => by simp [intrusionref07_Prefixes.l2] at h⟩
  | k + 1 => by
    obtain ⟨ih0, ih1, ih2⟩ := intrusionref07_Prefixes.mono_l k
    refine ⟨?_, ?_, ?_⟩
    · intro y0 y1 y2
      unfold intrusionref07_Prefixes.l0
      repeat' first
      | (with_reducible exact ih0 _ _ _)
      | (with_reducible exact ih1 _ _ _ _ _ _)
      | (with_reducible exact ih2 _ _ _ _ _ _ _)
      | (with_reducible exact intrusionref07_Normal.mono _ _)
      | (with_reducible exact intrusionref07_Right.mono _ _ _ _ _)
      | (with_reducible exact LeO.refl _)
      | (with_reducible exact LeO.none _)
      | (with_reducible refine LeO.ite ?_ ?_)
      | (with_reducible refine LeO.bind ?_ (fun _ => ?_))
      | exact ih0 _ _ _
      | exact ih1 _ _ _ _ _ _
      | exact ih2 _ _ _ _ _ _ _
      | exact intrusionref07_Normal.mono _ _
      | exact intrusionref07_Right.mono _ _ _ _ _
      | exact LeO.none _
      | refine LeO.ite ?_ ?_
      | refine LeO.bind ?_ (fun _ => ?_)
    · intro y0 y1 y2 y3 y4 y5
      unfold intrusionref07_Prefixes.l1
      repeat' first
      | (with_reducible exact ih0 _ _ _)
      | (with_reducible exact ih1 _ _ _ _ _ _)
      | (with_reducible exact ih2 _ _ _ _ _ _ _)
      | (with_reducible exact intrusionref07_Normal.mono _ _)
      | (with_reducible exact intrusionref07_Right.mono _ _ _ _ _)
      | (with_reducible exact LeO.refl _)
      | (with_reducible exact LeO.none _)
      | (with_reducible refine LeO.ite ?_ ?_)
      | (with_reducible refine LeO.bind ?_ (fun _ => ?_))
      | exact ih0 _ _ _
      | exact ih1 _ _ _ _ _ _
      | exact ih2 _ _ _ _ _ _ _
      | exact intrusionref07_Normal.mono _ _
      | exact intrusionref07_Right.mono _ _ _ _ _
      | exact LeO.none _
      | refine LeO.ite ?_ ?_
      | refine LeO.bind ?_ (fun _ => ?_)
    · intro y0 y1 y2 y3 y4 y5 y6
      unfold intrusionref07_Prefixes.l2
      repeat' first
      | (with_reducible exact ih0 _ _ _)
      | (with_reducible exact ih1 _ _ _ _ _ _)
      | (with_reducible exact ih2 _ _ _ _ _ _ _)
      | (with_reducible exact intrusionref07_Normal.mono _ _)
      | (with_reducible exact intrusionref07_Right.mono _ _ _ _ _)
      | (with_reducible exact LeO.refl _)
      | (with_reducible exact LeO.none _)
      | (with_reducible refine LeO.ite ?_ ?_)
      | (with_reducible refine LeO.bind ?_ (fun _ => ?_))
      | exact ih0 _ _ _
      | exact ih1 _ _ _ _ _ _
      | exact ih2 _ _ _ _ _ _ _
      | exact intrusionref07_Normal.mono _ _
      | exact intrusionref07_Right.mono _ _ _ _ _
      | exact LeO.none _
      | refine LeO.ite ?_ ?_
      | refine LeO.bind ?_ (fun _ => ?_)
theorem intrusionref07_Prefixes.mono : ∀ a0 k, LeO (intrusionref07_Prefixes.f k a0) (intrusionref07_Prefixes.f (k + 1) a0) := by
  intro a0 k
  obtain ⟨ih0, ih1, ih2⟩ := intrusionref07_Prefixes.mono_l k
  unfold intrusionref07_Prefixes.f
  repeat' first
      | (with_reducible exact ih0 _ _ _)
      | (with_reducible exact ih1 _ _ _ _ _ _)
      | (with_reducible exact ih2 _ _ _ _ _ _ _)
      | (with_reducible exact intrusionref07_Normal.mono _ _)
      | (with_reducible exact intrusionref07_Right.mono _ _ _ _ _)
      | (with_reducible exact LeO.refl _)
      | (with_reducible exact LeO.none _)
      | (with_reducible refine LeO.ite ?_ ?_)
      | (with_reducible refine LeO.bind ?_ (fun _ => ?_))
      | exact ih0 _ _ _
      | exact ih1 _ _ _ _ _ _
      | exact ih2 _ _ _ _ _ _ _
      | exact intrusionref07_Normal.mono _ _
      | exact intrusionref07_Right.mono _ _ _ _ _
      | exact LeO.none _
      | refine LeO.ite ?_ ?_
      | refine LeO.bind ?_ (fun _ => ?_)
def intrusionref07_Prefixes.T8 : Bool × List (List Nat × List Nat) := (true, [([], []), ([0], [0]), ([1], [1]), ([2, 1], [2]), ([3], [3]), ([3], [3]), ([4, 5, 3], [3, 4, 5]), ([6, 3], [3, 6]), ([7, 3], [3, 7]), ([3], [3]), ([9, 3, 3], [3, 9]), ([10, 3], [3, 10]), ([8, 11, 10, 3], [3, 8, 11]), ([3, 12], [3, 12])])
def intrusionref07_Prefixes.B8 : List Nat := [0, 1, 3, 7, 15, 15, 63, 127, 255, 15, 527, 1551, 4095, 8191]
theorem intrusionref07_Prefixes.tab8 : rtab .any (opsOf Try.f47 8) = intrusionref07_Prefixes.T8 := by kernel_rfl
theorem intrusionref07_Prefixes.bits8 : waitsOk intrusionref07_Prefixes.T8.2 intrusionref07_Prefixes.B8 = true := by kernel_rfl
set_option maxHeartbeats 8000000 in
set_option maxRecDepth 100000 in
theorem intrusionref07_Prefixes.calls (k : Nat) (A0 : Option Addr) (c0 : Nat) (l0 : List (S66)) (r : List (S45)) (w : World) (hr0 : Kd.C k66 w A0 l0.length l0) (hc0 : l0.length ≤ c0) (h : intrusionref07_Prefixes.f k l0 = some r) :
 Calls Try.prog 47 #[.slice A0 l0.length c0] w fun e w' => ∃ v0_ : Value, e = .returned (v0_) ∧ Kd.R k45 45 w' w.heap.size (fun _ => True) v0_ r ∧ Below w.heap.size w w' := by
 have hfd66_1 : ∀ (a0 a1 a2 a3 a4 a5 : Value) (w' : World), (Instr.field 66 (.agg #[a0, a1, a2, a3, a4, a5]) 1).run Try.prog w' = .ok (.agg #[a3, a4, a5]) w' := fun _ _ _ _ _ _ _ => by kernel_rfl
 have hu66 := Try.underlying66
 have hu36 := Try.underlying36
 have hu45 := Try.underlying45
 have HR0 := Aside0.mk hr0
 have HC0 := Aside0.mk hc0
 clear hr0 hc0
 have HB := Aside0.mk (Below.refl w.heap.size w)
 unfold intrusionref07_Prefixes.f at h; have H := h
 clear h
 replace H := Option.bind_eq_some_iff.mp H
 obtain ⟨t696, A20, H⟩ := H
 try dsimp only at H
 have A2 := Aside0.mk A20
 clear A20
 have H' := Aside0.mk H
 clear H
 go_enter Try.func47, Try.ntmps47
 go_wp2_with (first | ((with_reducible refine gate_callee (f := 39) rfl ?_); refine goesL_ (some 10) rfl rfl Try.func39 (by kernel_rfl) rfl #[.slice A0 l0.length c0] rfl (by (try simp only [List.map_toArray, List.map_cons, List.map_nil]); first | done | rfl | (simp only [List.length_drop, List.length_take]; rfl)) ?_; (with_reducible refine (intrusionref07_Normal.calls k _ _ l0 t696 _ ?side1 ?side2 A2.out).mono ?_); (case side1 => repeat (first | exact HR0.out | (with_reducible refine Kd.C_alloc ?_ _) | (with_reducible refine Kd.C_drewN ?_ _) | (with_reducible refine Kd.C_drew ?_))); (case side2 => exact HC0.out); rintro e w3 ⟨v697, rfl, ho0, hb⟩; refine ⟨_, rfl, ?_⟩; have HO698 := Aside0.mk (Kd.R_lower ho0 (below_size (zB HB))); replace HB := Aside0.mk (below_step (zB HB) hb); (try clear hb); (try clear ho0)))
 go_loopg [3, 5] k (fun kq v3 v5 w' => ∃ (x3_1 : List (S45)) (x5_1 : Int), v5 = .int .i64 x5_1 ∧ Aside0 (intrusionref07_Prefixes.l0 kq x3_1 t696 x5_1 = some r) ∧ Aside0 (kq ≤ k) ∧ Aside0 (Kd.R k45 45 w' w.heap.size (fun _ => True) v3 x3_1) ∧ Aside0 (Kd.R k66 66 w' w.heap.size (fun _ => True) v697 t696) ∧ Aside0 (Below w.heap.size w w'))
 case atStart => exact ⟨(([] : List (S45))), (0), (by first | rfl | (simp; done) | (simp [*]; done)), H', ⟨Nat.le_refl _⟩, ⟨by first | exact Kd.R_nil _ _ _ _ _ | exact Kd.N_nil _ _ _ _ _ | exact Kd.V_nil _ _ _ _ _ | exact Kd.Q_nil _ _ _ _ _ | exact Kd.S_nil _ _ _ _ _⟩, ⟨zR HO698⟩, ⟨zB HB⟩⟩
 case round =>
  clear H'
  try clear p2
  try clear c3
  obtain ⟨x3_1, x5_1, rfl, HA, HK1, HO_3, HO_4, HB⟩ := hrel
  cases gk with
  | zero => exact absurd HA.out (by simp [intrusionref07_Prefixes.l0])
  | succ k1 =>
   have H := HA.out
   clear HA
   simp only [intrusionref07_Prefixes.l0] at H
   by_cases c4 : x5_1 < (t696.length : Int)
   · rw [if_pos c4] at H
     have c4b0 : decide (x5_1 < (t696.length : Int)) = true := decide_eq_true c4
     clear c4
     by_cases c5 : 0 ≤ x5_1
     · rw [if_pos c5] at H
       have c5b0 : decide (0 ≤ x5_1) = true := decide_eq_true c5
       clear c5
       have H' := Aside0.mk H
       clear H
       obtain ⟨Ao6, co6, eo6⟩ := Kd.R_slice HO_4.out
       subst eo6
       have p699 : 0 ≤ (x5_1 : Int) := za
       have q699 : x5_1 < (t696.length : Int) := za
       obtain ⟨ad699, e699, hx699_0, hx699_1, hx699_2, hx699_3, hx699_4, hx699_5⟩ := at_T66 (Kd.R_reads' HO_4.out).2.2 x5_1 p699 q699
       cases e699
       replace p699 := eq_true p699
       replace q699 := eq_true q699
       go_wp2_with (first | ((with_reducible refine gate_dst (N := 6) rfl ?_); refine zx 6 #[.bool false, .int .u64 0, .int .u64 0] 36 ?_; intro gb700 hg w7 hbox hb; replace HO_3 := Aside0.mk (Kd.R_below (zR HO_3) hb); replace HO_4 := Aside0.mk (Kd.R_below (zR HO_4) hb); have BK700 := Aside0.mk (hbox); have GW700 := Aside0.mk ((by rw [hg]; exact (below_size (zB HB)) : w.heap.size ≤ gb700)); have GE700 := Aside0.mk ((by rw [hg]; exact (below_size (zB HB)) : w.heap.size ≤ gb700)); replace HB := Aside0.mk (below_step (zB HB) hb); clear hb hbox hg; obtain ⟨hcz8_0, hcz8_1, hcz8_2⟩ := zc3 BK700; obtain ⟨hfz8_0, hfz8_1, hfz8_2⟩ := zf3 BK700))
       go_loopg [3] k1 (fun kq v3 w' => ∃ (x3_2 : List (S45)) (x701000_2 : Bool) (x701001_2 : Int) (x701002_2 : Int), Aside0 (intrusionref07_Prefixes.l1 kq x3_2 t696 x5_1 x701000_2 x701001_2 x701002_2 = some r) ∧ Aside0 (kq ≤ k1) ∧ Aside0 (Kd.R k45 45 w' w.heap.size (fun _ => True) v3 x3_2) ∧ Aside0 (Kd.R k66 66 w' w.heap.size (fun _ => True) (.slice (some ad699) t696.length co6) t696) ∧ Aside0 (w'.heap[gb700]? = some (.cells #[.bool x701000_2, .int .u64 x701001_2, .int .u64 x701002_2] 36 (0, 0))) ∧ Aside0 (Below w.heap.size w w'))
       case atStart => exact ⟨(x3_1), ((rd_T66 t696 x5_1).f0.f0), ((rd_T66 t696 x5_1).f0.f1), ((rd_T66 t696 x5_1).f0.f2), H', ⟨Nat.le_refl _⟩, ⟨by (with_reducible repeat (first | apply Kd.R_alloc | apply Kd.R_drewN | apply Kd.R_drew)); exact Kd.R_mono (Kd.R_far (p := ⟨gb700, 2, none⟩) (Kd.R_far (p := ⟨gb700, 1, none⟩) (Kd.R_far (p := ⟨gb700, 0, none⟩) (Kd.R_types HO_3.out BK700.out (by decide)) (fun _ hk => hk.2) (.bool ((rd_T66 t696 x5_1).f0.f0))) (fun _ hk => hk.2) (.int .u64 ((rd_T66 t696 x5_1).f0.f1))) (fun _ hk => hk.2) (.int .u64 ((rd_T66 t696 x5_1).f0.f2))) (fun _ hk => trivial)⟩, ⟨by (with_reducible repeat (first | apply Kd.R_alloc | apply Kd.R_drewN | apply Kd.R_drew)); exact Kd.R_mono (Kd.R_far (p := ⟨gb700, 2, none⟩) (Kd.R_far (p := ⟨gb700, 1, none⟩) (Kd.R_far (p := ⟨gb700, 0, none⟩) (Kd.R_types HO_4.out BK700.out (by decide)) (fun _ hk => hk.2) (.bool ((rd_T66 t696 x5_1).f0.f0))) (fun _ hk => hk.2) (.int .u64 ((rd_T66 t696 x5_1).f0.f1))) (fun _ hk => hk.2) (.int .u64 ((rd_T66 t696 x5_1).f0.f2))) (fun _ hk => trivial)⟩, ⟨by refine zL ?_; refine blk_put (cs := #[.bool ((rd_T66 t696 x5_1).f0.f0), .int .u64 ((rd_T66 t696 x5_1).f0.f1), .int .u64 0]) ?_ 2 _ rfl; refine zL ?_; refine blk_put (cs := #[.bool ((rd_T66 t696 x5_1).f0.f0), .int .u64 0, .int .u64 0]) ?_ 1 _ rfl; refine zL ?_; refine blk_put (cs := #[.bool false, .int .u64 0, .int .u64 0]) ?_ 0 _ rfl; refine zL ?_; exact BK700.out⟩, ⟨zB HB⟩⟩
       case round =>
        clear H'
        try clear p2
        try clear c3
        try clear c4
        try clear c4b0
        try clear c5
        try clear c5b0
        try clear p6
        try clear q6
        try clear hx6
        try clear hcz8_0
        try clear hcz8_1
        try clear hcz8_2
        try clear hfz8_0
        try clear hfz8_1
        try clear hfz8_2
        try clear hx699_0
        try clear hx699_1
        try clear hx699_2
        try clear hx699_3
        try clear hx699_4
        try clear hx699_5
        try clear p2
        try clear p699
        try clear q699
        obtain ⟨x3_2, x701000_2, x701001_2, x701002_2, HA, HK2, HO_3, HO_4, BK700, HB⟩ := hrel
        cases gk with
        | zero => exact absurd HA.out (by simp [intrusionref07_Prefixes.l1])
        | succ k2 =>
         have H := HA.out
         clear HA
         simp only [intrusionref07_Prefixes.l1] at H
         have H' := Aside0.mk H
         clear H
         obtain ⟨hcz9_0, hcz9_1, hcz9_2⟩ := zc3 BK700
         obtain ⟨hfz9_0, hfz9_1, hfz9_2⟩ := zf3 BK700
         go_wp2_with (first | ((with_reducible refine gate_dst (N := 7) rfl ?_); refine zx 7 #[.bool false, .int .u64 0, .int .u64 0, .int .i64 0] 45 ?_; intro gb701 hg w10 hbox hb; replace HO_3 := Aside0.mk (Kd.R_below (Kd.R_elderB (zR HO_3) gb701 (Nat.le_of_eq hg.symm)) hb); replace HO_4 := Aside0.mk (Kd.R_below (zR HO_4) hb); have BK701 := Aside0.mk (hbox); have GW701 := Aside0.mk ((by rw [hg]; exact (below_size (zB HB)) : w.heap.size ≤ gb701)); have GE701 := Aside0.mk ((by rw [hg]; exact (below_size (zB HB)) : w.heap.size ≤ gb701)); replace HB := Aside0.mk (below_step (zB HB) hb); have NB700_701 := Aside0.mk ((by rw [hg]; exact Nat.ne_of_lt (blk_lt (g := gb700) (o := .cells #[.bool x701000_2, .int .u64 x701001_2, .int .u64 x701002_2] 36 (0, 0)) (zK BK700)) : gb700 ≠ gb701)); have NB701_700 := Aside0.mk ((by rw [hg]; exact Nat.ne_of_gt (blk_lt (g := gb700) (o := .cells #[.bool x701000_2, .int .u64 x701001_2, .int .u64 x701002_2] 36 (0, 0)) (zK BK700)) : gb701 ≠ gb700)); replace BK700 := Aside0.mk (blk_below (g := gb700) (o := .cells #[.bool x701000_2, .int .u64 x701001_2, .int .u64 x701002_2] 36 (0, 0)) (zK BK700) hb); clear hb hbox hg; have hnb11 := NB701_700.out; have hnc11 := NB700_701.out; obtain ⟨hcz12_0, hcz12_1, hcz12_2, hcz12_3⟩ := zc4 BK701; obtain ⟨hfz12_0, hfz12_1, hfz12_2, hfz12_3⟩ := zf4 BK701))
         go_loopg [] k2 (fun kq w' => ∃ (x702003_3 : Int), Aside0 (intrusionref07_Prefixes.l2 kq x3_2 t696 x5_1 x701000_2 x701001_2 x701002_2 x702003_3 = some r) ∧ Aside0 (kq ≤ k2) ∧ Aside0 (Kd.R k45 45 w' w.heap.size (fun k_ => k_ ≠ gb701) u3 x3_2) ∧ Aside0 (Kd.R k66 66 w' w.heap.size (fun _ => True) (.slice (some ad699) t696.length co6) t696) ∧ Aside0 (w'.heap[gb700]? = some (.cells #[.bool x701000_2, .int .u64 x701001_2, .int .u64 x701002_2] 36 (0, 0))) ∧ Aside0 (w'.heap[gb701]? = some (.cells #[.bool x701000_2, .int .u64 x701001_2, .int .u64 x701002_2, .int .i64 x702003_3] 45 (0, 0))) ∧ Aside0 (Below w.heap.size w w'))
         case atStart => exact ⟨(0), H', ⟨Nat.le_refl _⟩, ⟨by (with_reducible repeat (first | apply Kd.R_alloc | apply Kd.R_drewN | apply Kd.R_drew)); exact Kd.R_mono (Kd.R_far (p := ⟨gb701, 3, none⟩) (Kd.R_far (p := ⟨gb701, 2, none⟩) (Kd.R_far (p := ⟨gb701, 1, none⟩) (Kd.R_far (p := ⟨gb701, 0, none⟩) (Kd.R_mono HO_3.out (fun k_ hk => (⟨hk, hk.2⟩ : _ ∧ k_ ≠ gb701))) (fun _ hk => hk.2) (.bool x701000_2)) (fun _ hk => hk.2) (.int .u64 x701001_2)) (fun _ hk => hk.2) (.int .u64 x701002_2)) (fun _ hk => hk.2) (.int .i64 0)) (fun _ hk => hk.1.2)⟩, ⟨by (with_reducible repeat (first | apply Kd.R_alloc | apply Kd.R_drewN | apply Kd.R_drew)); exact Kd.R_mono (Kd.R_far (p := ⟨gb701, 3, none⟩) (Kd.R_far (p := ⟨gb701, 2, none⟩) (Kd.R_far (p := ⟨gb701, 1, none⟩) (Kd.R_far (p := ⟨gb701, 0, none⟩) (Kd.R_types HO_4.out BK701.out (by decide)) (fun _ hk => hk.2) (.bool x701000_2)) (fun _ hk => hk.2) (.int .u64 x701001_2)) (fun _ hk => hk.2) (.int .u64 x701002_2)) (fun _ hk => hk.2) (.int .i64 0)) (fun _ hk => trivial)⟩, ⟨by refine zL ?_; refine blk_far ?_ NB700_701.out _; refine zL ?_; refine blk_far ?_ NB700_701.out _; refine zL ?_; refine blk_far ?_ NB700_701.out _; refine zL ?_; refine blk_far ?_ NB700_701.out _; refine zL ?_; exact BK700.out⟩, ⟨by refine zL ?_; refine blk_put (cs := #[.bool x701000_2, .int .u64 x701001_2, .int .u64 x701002_2, .int .i64 0]) ?_ 3 _ rfl; refine zL ?_; refine blk_put (cs := #[.bool x701000_2, .int .u64 x701001_2, .int .u64 0, .int .i64 0]) ?_ 2 _ rfl; refine zL ?_; refine blk_put (cs := #[.bool x701000_2, .int .u64 0, .int .u64 0, .int .i64 0]) ?_ 1 _ rfl; refine zL ?_; refine blk_put (cs := #[.bool false, .int .u64 0, .int .u64 0, .int .i64 0]) ?_ 0 _ rfl; refine zL ?_; exact BK701.out⟩, ⟨zB HB⟩⟩
         case round =>
          clear H'
          try clear c1
          try clear p2
          try clear c3
          try clear c4
          try clear c4b0
          try clear c5
          try clear c5b0
          try clear p6
          try clear q6
          try clear hx6
          try clear c11
          try clear hcz12_0
          try clear hcz12_1
          try clear hcz12_2
          try clear hcz12_3
          try clear hcz8_0
          try clear hcz8_1
          try clear hcz8_2
          try clear hcz9_0
          try clear hcz9_1
          try clear hcz9_2
          try clear hfz12_0
          try clear hfz12_1
          try clear hfz12_2
          try clear hfz12_3
          try clear hfz8_0
          try clear hfz8_1
          try clear hfz8_2
          try clear hfz9_0
          try clear hfz9_1
          try clear hfz9_2
          try clear hx699_0
          try clear hx699_1
          try clear hx699_2
          try clear hx699_3
          try clear hx699_4
          try clear hx699_5
          try clear p2
          try clear p6
          try clear p699
          try clear q6
          try clear q699
          obtain ⟨x702003_3, HA, HK3, HO_3, HO_4, BK700, BK701, HB⟩ := hrel
          cases gk with
          | zero => exact absurd HA.out (by simp [intrusionref07_Prefixes.l2])
          | succ k3 =>
           have H := HA.out
           clear HA
           simp only [intrusionref07_Prefixes.l2] at H
           replace H := Option.bind_eq_some_iff.mp H
           obtain ⟨t702, A130, H⟩ := H
           try dsimp only at H
           have A13 := Aside0.mk A130
           clear A130
           by_cases c14 : t702 = true
           · subst c14
             rw [if_pos rfl] at H
             by_cases c15 : 0 ≤ x5_1
             · rw [if_pos c15] at H
               have c15b0 : decide (0 ≤ x5_1) = true := decide_eq_true c15
               clear c15
               by_cases c16 : x5_1 < (t696.length : Int)
               · rw [if_pos c16] at H
                 have c16b0 : decide (x5_1 < (t696.length : Int)) = true := decide_eq_true c16
                 clear c16
                 replace H := Option.bind_eq_some_iff.mp H
                 obtain ⟨⟨t704, t705, t706, t707, t708, t709⟩, A170, H⟩ := H
                 try dsimp only at H
                 have A17 := Aside0.mk A170
                 clear A170
                 replace H := Option.bind_eq_some_iff.mp H
                 obtain ⟨t710, A180, H⟩ := H
                 try dsimp only at H
                 have A18 := Aside0.mk A180
                 clear A180
                 by_cases c19 : t710 = true
                 · subst c19
                   rw [if_pos rfl] at H
                   have H' := Aside0.mk H
                   clear H
                   try go_wp2
                   replace HO_3 := Aside0.mk (Kd.R_drew HO_3.out)
                   replace HO_4 := Aside0.mk (Kd.R_drew HO_4.out)
                   replace BK700 := Aside0.mk (blk_drew BK700.out)
                   replace BK701 := Aside0.mk (blk_drew BK701.out)
                   replace HB := Aside0.mk (below_drew1 HB.out)
                   have p703 : 0 ≤ (x5_1 : Int) := za
                   have q703 : x5_1 < (t696.length : Int) := za
                   obtain ⟨ad703, e703, hx703_0, hx703_1, hx703_2, hx703_3, hx703_4, hx703_5⟩ := at_T66 (Kd.R_reads' HO_4.out).2.2 x5_1 p703 q703
                   obtain rfl : ad699 = ad703 := (by injection e703)
                   replace p703 := eq_true p703
                   replace q703 := eq_true q703
                   refine start_ (n := 14) (S := fun w' => w'.cell? ⟨gb701, 0, none⟩ = some (.bool x701000_2) ∧ w'.cell? ⟨gb701, 1, none⟩ = some (.int .u64 x701001_2) ∧ w'.cell? ⟨gb701, 2, none⟩ = some (.int .u64 x701002_2) ∧ w'.cell? ⟨gb701, 3, none⟩ = some (.int .i64 x702003_3) ∧ w'.cell? (ad699.add ((x5_1).toNat * 6)) = some (.bool ((rd_T66 t696 x5_1).f0.f0)) ∧ w'.cell? ⟨(ad699.add ((x5_1).toNat * 6)).block, (ad699.add ((x5_1).toNat * 6)).off + 1, none⟩ = some (.int .u64 ((rd_T66 t696 x5_1).f0.f1)) ∧ w'.cell? ⟨(ad699.add ((x5_1).toNat * 6)).block, (ad699.add ((x5_1).toNat * 6)).off + 2, none⟩ = some (.int .u64 ((rd_T66 t696 x5_1).f0.f2)) ∧ w'.cell? ⟨(ad699.add ((x5_1).toNat * 6)).block, (ad699.add ((x5_1).toNat * 6)).off + 3, none⟩ = some (.bool ((rd_T66 t696 x5_1).f1.f0)) ∧ w'.cell? ⟨(ad699.add ((x5_1).toNat * 6)).block, (ad699.add ((x5_1).toNat * 6)).off + 4, none⟩ = some (.int .u64 ((rd_T66 t696 x5_1).f1.f1)) ∧ w'.cell? ⟨(ad699.add ((x5_1).toNat * 6)).block, (ad699.add ((x5_1).toNat * 6)).off + 5, none⟩ = some (.int .u64 ((rd_T66 t696 x5_1).f1.f2))) (ds := []) #[false, false, false, false, false, false, false, false, false, false, false, false, false, false] (by kernel_rfl) rfl rfl ⟨zc BK701 0, zc BK701 1, zc BK701 2, zc BK701 3, hx703_0, hx703_1, hx703_2, hx703_3, hx703_4, hx703_5⟩ (fun hHeld => ?_); refine with_tabW intrusionref07_Prefixes.tab8 intrusionref07_Prefixes.bits8 (fun HT_ HW_ => ?_)
                   generalize wr.drew = w20 at HO_3 HO_4 BK700 BK701 HB hx703_0 hx703_1 hx703_2 hx703_3 hx703_4 hx703_5 hHeld ⊢
                   refine zt 0 24 HT_ HW_ hHeld ?_; refine zo 1 25 HT_ (fun K hK => ?_)
                   refine zg Try.func89 #[.agg #[.bool x701000_2, .int .u64 x701001_2, .int .u64 x701002_2, .int .i64 x702003_3]] ?_
                   with_reducible refine (intrusionref07_Right.calls k3 x701000_2 x701001_2 x701002_2 x702003_3 true _ A13.out).mono ?_
                   rintro e w21 ⟨rfl, hb⟩
                   have HS4_ := (hb.cell (World.block_lt_of_cell? _ _ (hHeld.2.2.2.2.1))).trans (hHeld.2.2.2.2.1)
                   have HS5_ := (hb.cell (World.block_lt_of_cell? _ _ (hHeld.2.2.2.2.2.1))).trans (hHeld.2.2.2.2.2.1)
                   have HS6_ := (hb.cell (World.block_lt_of_cell? _ _ (hHeld.2.2.2.2.2.2.1))).trans (hHeld.2.2.2.2.2.2.1)
                   have HS7_ := (hb.cell (World.block_lt_of_cell? _ _ (hHeld.2.2.2.2.2.2.2.1))).trans (hHeld.2.2.2.2.2.2.2.1)
                   have HS8_ := (hb.cell (World.block_lt_of_cell? _ _ (hHeld.2.2.2.2.2.2.2.2.1))).trans (hHeld.2.2.2.2.2.2.2.2.1)
                   have HS9_ := (hb.cell (World.block_lt_of_cell? _ _ (hHeld.2.2.2.2.2.2.2.2.2))).trans (hHeld.2.2.2.2.2.2.2.2.2)
                   refine ⟨_, rfl, ?_⟩
                   replace HO_3 := Aside0.mk (Kd.R_below (zR HO_3) hb)
                   replace HO_4 := Aside0.mk (Kd.R_below (zR HO_4) hb)
                   replace BK700 := Aside0.mk (blk_below (g := gb700) (o := .cells #[.bool x701000_2, .int .u64 x701001_2, .int .u64 x701002_2] 36 (0, 0)) (zK BK700) hb)
                   replace BK701 := Aside0.mk (blk_below (g := gb701) (o := .cells #[.bool x701000_2, .int .u64 x701001_2, .int .u64 x701002_2, .int .i64 x702003_3] 45 (0, 0)) (zK BK701) hb)
                   replace HB := Aside0.mk (below_step (zB HB) hb)
                   (try clear hb)
                   refine hK.out _ _ ⟨zc BK701 0, zc BK701 1, zc BK701 2, zc BK701 3, HS4_, HS5_, HS6_, HS7_, HS8_, HS9_⟩ (fun hHeld => ?_)
                   clear hK K
                   refine zn 25 ?_; refine zp 2 26 HT_ ?_; refine zp 3 27 HT_ ?_; refine zp 4 28 HT_ ?_; refine zp 5 29 HT_ ?_; refine zp 6 30 HT_ ?_; refine zp 7 31 HT_ ?_; refine zt 8 32 HT_ HW_ hHeld ?_; refine zt 9 33 HT_ HW_ hHeld ?_; refine zo 10 34 HT_ (fun K hK => ?_)
                   refine zg Try.func90 #[.agg #[.bool x701000_2, .int .u64 x701001_2, .int .u64 x701002_2, .int .i64 x702003_3]] ?_
                   with_reducible refine (intrusionref07_Block.calls x701000_2 x701001_2 x701002_2 x702003_3 t704 t705 t706 t707 t708 t709 _ A17.out).mono ?_
                   rintro e w22 ⟨rfl, hb⟩
                   have HS4_ := (hb.cell (World.block_lt_of_cell? _ _ (hHeld.2.2.2.2.1))).trans (hHeld.2.2.2.2.1)
                   have HS5_ := (hb.cell (World.block_lt_of_cell? _ _ (hHeld.2.2.2.2.2.1))).trans (hHeld.2.2.2.2.2.1)
                   have HS6_ := (hb.cell (World.block_lt_of_cell? _ _ (hHeld.2.2.2.2.2.2.1))).trans (hHeld.2.2.2.2.2.2.1)
                   have HS7_ := (hb.cell (World.block_lt_of_cell? _ _ (hHeld.2.2.2.2.2.2.2.1))).trans (hHeld.2.2.2.2.2.2.2.1)
                   have HS8_ := (hb.cell (World.block_lt_of_cell? _ _ (hHeld.2.2.2.2.2.2.2.2.1))).trans (hHeld.2.2.2.2.2.2.2.2.1)
                   have HS9_ := (hb.cell (World.block_lt_of_cell? _ _ (hHeld.2.2.2.2.2.2.2.2.2))).trans (hHeld.2.2.2.2.2.2.2.2.2)
                   refine ⟨_, rfl, ?_⟩
                   replace HO_3 := Aside0.mk (Kd.R_below (zR HO_3) hb)
                   replace HO_4 := Aside0.mk (Kd.R_below (zR HO_4) hb)
                   replace BK700 := Aside0.mk (blk_below (g := gb700) (o := .cells #[.bool x701000_2, .int .u64 x701001_2, .int .u64 x701002_2] 36 (0, 0)) (zK BK700) hb)
                   replace BK701 := Aside0.mk (blk_below (g := gb701) (o := .cells #[.bool x701000_2, .int .u64 x701001_2, .int .u64 x701002_2, .int .i64 x702003_3] 45 (0, 0)) (zK BK701) hb)
                   replace HB := Aside0.mk (below_step (zB HB) hb)
                   (try clear hb)
                   refine hK.out _ _ ⟨zc BK701 0, zc BK701 1, zc BK701 2, zc BK701 3, HS4_, HS5_, HS6_, HS7_, HS8_, HS9_⟩ (fun hHeld => ?_)
                   clear hK K
                   refine zn 34 ?_; refine zp 11 35 HT_ ?_; refine zo 12 36 HT_ (fun K hK => ?_)
                   refine zg Try.func80 #[.agg #[.bool ((rd_T66 t696 x5_1).f1.f0), .int .u64 ((rd_T66 t696 x5_1).f1.f1), .int .u64 ((rd_T66 t696 x5_1).f1.f2)], .agg #[.bool t707, .int .u64 t708, .int .u64 t709]] ?_
                   with_reducible refine (intrusionref07_Before.calls ((rd_T66 t696 x5_1).f1.f0) ((rd_T66 t696 x5_1).f1.f1) ((rd_T66 t696 x5_1).f1.f2) t707 t708 t709 true _ A18.out).mono ?_
                   rintro e w23 ⟨rfl, hb⟩
                   have HS4_ := (hb.cell (World.block_lt_of_cell? _ _ (hHeld.2.2.2.2.1))).trans (hHeld.2.2.2.2.1)
                   have HS5_ := (hb.cell (World.block_lt_of_cell? _ _ (hHeld.2.2.2.2.2.1))).trans (hHeld.2.2.2.2.2.1)
                   have HS6_ := (hb.cell (World.block_lt_of_cell? _ _ (hHeld.2.2.2.2.2.2.1))).trans (hHeld.2.2.2.2.2.2.1)
                   have HS7_ := (hb.cell (World.block_lt_of_cell? _ _ (hHeld.2.2.2.2.2.2.2.1))).trans (hHeld.2.2.2.2.2.2.2.1)
                   have HS8_ := (hb.cell (World.block_lt_of_cell? _ _ (hHeld.2.2.2.2.2.2.2.2.1))).trans (hHeld.2.2.2.2.2.2.2.2.1)
                   have HS9_ := (hb.cell (World.block_lt_of_cell? _ _ (hHeld.2.2.2.2.2.2.2.2.2))).trans (hHeld.2.2.2.2.2.2.2.2.2)
                   refine ⟨_, rfl, ?_⟩
                   replace HO_3 := Aside0.mk (Kd.R_below (zR HO_3) hb)
                   replace HO_4 := Aside0.mk (Kd.R_below (zR HO_4) hb)
                   replace BK700 := Aside0.mk (blk_below (g := gb700) (o := .cells #[.bool x701000_2, .int .u64 x701001_2, .int .u64 x701002_2] 36 (0, 0)) (zK BK700) hb)
                   replace BK701 := Aside0.mk (blk_below (g := gb701) (o := .cells #[.bool x701000_2, .int .u64 x701001_2, .int .u64 x701002_2, .int .i64 x702003_3] 45 (0, 0)) (zK BK701) hb)
                   replace HB := Aside0.mk (below_step (zB HB) hb)
                   (try clear hb)
                   refine hK.out _ _ ⟨zc BK701 0, zc BK701 1, zc BK701 2, zc BK701 3, HS4_, HS5_, HS6_, HS7_, HS8_, HS9_⟩ (fun hHeld => ?_)
                   clear hK K
                   refine zn 36 ?_; refine zp 13 37 HT_ ?_; refine zd HT_ ?_
                   have hnb24 := NB701_700.out
                   have hnc24 := NB700_701.out
                   obtain ⟨hcz25_0, hcz25_1, hcz25_2, hcz25_3⟩ := zc4 BK701
                   obtain ⟨hfz25_0, hfz25_1, hfz25_2, hfz25_3⟩ := zf4 BK701
                   try go_wp2
                   go_roundg k3
                   case measure => have := HK1.out; have := HK2.out; have := HK3.out; omega
                   case rel => exact ⟨(wrap64 (x702003_3 + 1)), H', ⟨by have := HK1.out; have := HK2.out; have := HK3.out; omega⟩, ⟨by (with_reducible repeat (first | apply Kd.R_alloc | apply Kd.R_drewN | apply Kd.R_drew)); exact Kd.R_mono (Kd.R_far (p := ⟨gb701, 3, none⟩) (Kd.R_mono HO_3.out (fun k_ hk => (⟨hk, hk⟩ : _ ∧ k_ ≠ gb701))) (fun _ hk => hk.2) (.int .i64 (wrap64 (x702003_3 + 1)))) (fun _ hk => hk.1)⟩, ⟨by (with_reducible repeat (first | apply Kd.R_alloc | apply Kd.R_drewN | apply Kd.R_drew)); exact Kd.R_mono (Kd.R_far (p := ⟨gb701, 3, none⟩) (Kd.R_types HO_4.out BK701.out (by decide)) (fun _ hk => hk.2) (.int .i64 (wrap64 (x702003_3 + 1)))) (fun _ hk => trivial)⟩, ⟨by refine zL ?_; refine blk_far ?_ NB700_701.out _; refine zL ?_; exact BK700.out⟩, ⟨by refine zL ?_; refine blk_put (cs := #[.bool x701000_2, .int .u64 x701001_2, .int .u64 x701002_2, .int .i64 x702003_3]) ?_ 3 _ rfl; refine zL ?_; exact BK701.out⟩, ⟨zB HB⟩⟩
                 · replace c19 := Bool.eq_false_iff.mpr c19
                   subst c19
                   rw [if_neg zF] at H
                   by_cases c26 : x3_2.length < 4398046511104
                   · rw [if_pos c26] at H
                     have LMc26 := Aside0.mk c26
                     clear c26
                     obtain ⟨y711, hy711⟩ : ∃ y_ : List (S45), y_ = (x3_2 ++ [(⟨(⟨x701000_2, x701001_2, x701002_2⟩ : S36), x702003_3⟩ : S45)]) := ⟨_, rfl⟩
                     rw [← hy711] at H; try dsimp only [Option.bind_some] at H
                     have Ny711 := Aside0.mk hy711
                     clear hy711
                     by_cases c27 : (y711.length : Int) > 256
                     · rw [if_pos c27] at H
                       have c27b0 : decide (256 < (y711.length : Int)) = true := decide_eq_true c27
                       have c27b1 : decide (256 < y711.length) = true := decide_eq_true (by omega)
                       clear c27
                       obtain rfl := Option.some.inj H
                       try go_wp2
                       replace HO_3 := Aside0.mk (Kd.R_drew HO_3.out)
                       replace HO_4 := Aside0.mk (Kd.R_drew HO_4.out)
                       replace BK700 := Aside0.mk (blk_drew BK700.out)
                       replace BK701 := Aside0.mk (blk_drew BK701.out)
                       replace HB := Aside0.mk (below_drew1 HB.out)
                       have p703 : 0 ≤ (x5_1 : Int) := za
                       have q703 : x5_1 < (t696.length : Int) := za
                       obtain ⟨ad703, e703, hx703_0, hx703_1, hx703_2, hx703_3, hx703_4, hx703_5⟩ := at_T66 (Kd.R_reads' HO_4.out).2.2 x5_1 p703 q703
                       obtain rfl : ad699 = ad703 := (by injection e703)
                       replace p703 := eq_true p703
                       replace q703 := eq_true q703
                       refine start_ (n := 14) (S := fun w' => w'.cell? ⟨gb701, 0, none⟩ = some (.bool x701000_2) ∧ w'.cell? ⟨gb701, 1, none⟩ = some (.int .u64 x701001_2) ∧ w'.cell? ⟨gb701, 2, none⟩ = some (.int .u64 x701002_2) ∧ w'.cell? ⟨gb701, 3, none⟩ = some (.int .i64 x702003_3) ∧ w'.cell? (ad699.add ((x5_1).toNat * 6)) = some (.bool ((rd_T66 t696 x5_1).f0.f0)) ∧ w'.cell? ⟨(ad699.add ((x5_1).toNat * 6)).block, (ad699.add ((x5_1).toNat * 6)).off + 1, none⟩ = some (.int .u64 ((rd_T66 t696 x5_1).f0.f1)) ∧ w'.cell? ⟨(ad699.add ((x5_1).toNat * 6)).block, (ad699.add ((x5_1).toNat * 6)).off + 2, none⟩ = some (.int .u64 ((rd_T66 t696 x5_1).f0.f2)) ∧ w'.cell? ⟨(ad699.add ((x5_1).toNat * 6)).block, (ad699.add ((x5_1).toNat * 6)).off + 3, none⟩ = some (.bool ((rd_T66 t696 x5_1).f1.f0)) ∧ w'.cell? ⟨(ad699.add ((x5_1).toNat * 6)).block, (ad699.add ((x5_1).toNat * 6)).off + 4, none⟩ = some (.int .u64 ((rd_T66 t696 x5_1).f1.f1)) ∧ w'.cell? ⟨(ad699.add ((x5_1).toNat * 6)).block, (ad699.add ((x5_1).toNat * 6)).off + 5, none⟩ = some (.int .u64 ((rd_T66 t696 x5_1).f1.f2))) (ds := []) #[false, false, false, false, false, false, false, false, false, false, false, false, false, false] (by kernel_rfl) rfl rfl ⟨zc BK701 0, zc BK701 1, zc BK701 2, zc BK701 3, hx703_0, hx703_1, hx703_2, hx703_3, hx703_4, hx703_5⟩ (fun hHeld => ?_); refine with_tabW intrusionref07_Prefixes.tab8 intrusionref07_Prefixes.bits8 (fun HT_ HW_ => ?_)
                       generalize wr.drew = w28 at HO_3 HO_4 BK700 BK701 HB hx703_0 hx703_1 hx703_2 hx703_3 hx703_4 hx703_5 hHeld ⊢
                       refine zt 0 24 HT_ HW_ hHeld ?_; refine zo 1 25 HT_ (fun K hK => ?_)
                       refine zg Try.func89 #[.agg #[.bool x701000_2, .int .u64 x701001_2, .int .u64 x701002_2, .int .i64 x702003_3]] ?_
                       with_reducible refine (intrusionref07_Right.calls k3 x701000_2 x701001_2 x701002_2 x702003_3 true _ A13.out).mono ?_
                       rintro e w29 ⟨rfl, hb⟩
                       have HS4_ := (hb.cell (World.block_lt_of_cell? _ _ (hHeld.2.2.2.2.1))).trans (hHeld.2.2.2.2.1)
                       have HS5_ := (hb.cell (World.block_lt_of_cell? _ _ (hHeld.2.2.2.2.2.1))).trans (hHeld.2.2.2.2.2.1)
                       have HS6_ := (hb.cell (World.block_lt_of_cell? _ _ (hHeld.2.2.2.2.2.2.1))).trans (hHeld.2.2.2.2.2.2.1)
                       have HS7_ := (hb.cell (World.block_lt_of_cell? _ _ (hHeld.2.2.2.2.2.2.2.1))).trans (hHeld.2.2.2.2.2.2.2.1)
                       have HS8_ := (hb.cell (World.block_lt_of_cell? _ _ (hHeld.2.2.2.2.2.2.2.2.1))).trans (hHeld.2.2.2.2.2.2.2.2.1)
                       have HS9_ := (hb.cell (World.block_lt_of_cell? _ _ (hHeld.2.2.2.2.2.2.2.2.2))).trans (hHeld.2.2.2.2.2.2.2.2.2)
                       refine ⟨_, rfl, ?_⟩
                       replace HO_3 := Aside0.mk (Kd.R_below (zR HO_3) hb)
                       replace HO_4 := Aside0.mk (Kd.R_below (zR HO_4) hb)
                       replace BK700 := Aside0.mk (blk_below (g := gb700) (o := .cells #[.bool x701000_2, .int .u64 x701001_2, .int .u64 x701002_2] 36 (0, 0)) (zK BK700) hb)
                       replace BK701 := Aside0.mk (blk_below (g := gb701) (o := .cells #[.bool x701000_2, .int .u64 x701001_2, .int .u64 x701002_2, .int .i64 x702003_3] 45 (0, 0)) (zK BK701) hb)
                       replace HB := Aside0.mk (below_step (zB HB) hb)
                       (try clear hb)
                       refine hK.out _ _ ⟨zc BK701 0, zc BK701 1, zc BK701 2, zc BK701 3, HS4_, HS5_, HS6_, HS7_, HS8_, HS9_⟩ (fun hHeld => ?_)
                       clear hK K
                       refine zn 25 ?_; refine zp 2 26 HT_ ?_; refine zp 3 27 HT_ ?_; refine zp 4 28 HT_ ?_; refine zp 5 29 HT_ ?_; refine zp 6 30 HT_ ?_; refine zp 7 31 HT_ ?_; refine zt 8 32 HT_ HW_ hHeld ?_; refine zt 9 33 HT_ HW_ hHeld ?_; refine zo 10 34 HT_ (fun K hK => ?_)
                       refine zg Try.func90 #[.agg #[.bool x701000_2, .int .u64 x701001_2, .int .u64 x701002_2, .int .i64 x702003_3]] ?_
                       with_reducible refine (intrusionref07_Block.calls x701000_2 x701001_2 x701002_2 x702003_3 t704 t705 t706 t707 t708 t709 _ A17.out).mono ?_
                       rintro e w30 ⟨rfl, hb⟩
                       have HS4_ := (hb.cell (World.block_lt_of_cell? _ _ (hHeld.2.2.2.2.1))).trans (hHeld.2.2.2.2.1)
                       have HS5_ := (hb.cell (World.block_lt_of_cell? _ _ (hHeld.2.2.2.2.2.1))).trans (hHeld.2.2.2.2.2.1)
                       have HS6_ := (hb.cell (World.block_lt_of_cell? _ _ (hHeld.2.2.2.2.2.2.1))).trans (hHeld.2.2.2.2.2.2.1)
                       have HS7_ := (hb.cell (World.block_lt_of_cell? _ _ (hHeld.2.2.2.2.2.2.2.1))).trans (hHeld.2.2.2.2.2.2.2.1)
                       have HS8_ := (hb.cell (World.block_lt_of_cell? _ _ (hHeld.2.2.2.2.2.2.2.2.1))).trans (hHeld.2.2.2.2.2.2.2.2.1)
                       have HS9_ := (hb.cell (World.block_lt_of_cell? _ _ (hHeld.2.2.2.2.2.2.2.2.2))).trans (hHeld.2.2.2.2.2.2.2.2.2)
                       refine ⟨_, rfl, ?_⟩
                       replace HO_3 := Aside0.mk (Kd.R_below (zR HO_3) hb)
                       replace HO_4 := Aside0.mk (Kd.R_below (zR HO_4) hb)
                       replace BK700 := Aside0.mk (blk_below (g := gb700) (o := .cells #[.bool x701000_2, .int .u64 x701001_2, .int .u64 x701002_2] 36 (0, 0)) (zK BK700) hb)
                       replace BK701 := Aside0.mk (blk_below (g := gb701) (o := .cells #[.bool x701000_2, .int .u64 x701001_2, .int .u64 x701002_2, .int .i64 x702003_3] 45 (0, 0)) (zK BK701) hb)
                       replace HB := Aside0.mk (below_step (zB HB) hb)
                       (try clear hb)
                       refine hK.out _ _ ⟨zc BK701 0, zc BK701 1, zc BK701 2, zc BK701 3, HS4_, HS5_, HS6_, HS7_, HS8_, HS9_⟩ (fun hHeld => ?_)
                       clear hK K
                       refine zn 34 ?_; refine zp 11 35 HT_ ?_; refine zo 12 36 HT_ (fun K hK => ?_)
                       refine zg Try.func80 #[.agg #[.bool ((rd_T66 t696 x5_1).f1.f0), .int .u64 ((rd_T66 t696 x5_1).f1.f1), .int .u64 ((rd_T66 t696 x5_1).f1.f2)], .agg #[.bool t707, .int .u64 t708, .int .u64 t709]] ?_
                       with_reducible refine (intrusionref07_Before.calls ((rd_T66 t696 x5_1).f1.f0) ((rd_T66 t696 x5_1).f1.f1) ((rd_T66 t696 x5_1).f1.f2) t707 t708 t709 false _ A18.out).mono ?_
                       rintro e w31 ⟨rfl, hb⟩
                       have HS4_ := (hb.cell (World.block_lt_of_cell? _ _ (hHeld.2.2.2.2.1))).trans (hHeld.2.2.2.2.1)
                       have HS5_ := (hb.cell (World.block_lt_of_cell? _ _ (hHeld.2.2.2.2.2.1))).trans (hHeld.2.2.2.2.2.1)
                       have HS6_ := (hb.cell (World.block_lt_of_cell? _ _ (hHeld.2.2.2.2.2.2.1))).trans (hHeld.2.2.2.2.2.2.1)
                       have HS7_ := (hb.cell (World.block_lt_of_cell? _ _ (hHeld.2.2.2.2.2.2.2.1))).trans (hHeld.2.2.2.2.2.2.2.1)
                       have HS8_ := (hb.cell (World.block_lt_of_cell? _ _ (hHeld.2.2.2.2.2.2.2.2.1))).trans (hHeld.2.2.2.2.2.2.2.2.1)
                       have HS9_ := (hb.cell (World.block_lt_of_cell? _ _ (hHeld.2.2.2.2.2.2.2.2.2))).trans (hHeld.2.2.2.2.2.2.2.2.2)
                       refine ⟨_, rfl, ?_⟩
                       replace HO_3 := Aside0.mk (Kd.R_below (zR HO_3) hb)
                       replace HO_4 := Aside0.mk (Kd.R_below (zR HO_4) hb)
                       replace BK700 := Aside0.mk (blk_below (g := gb700) (o := .cells #[.bool x701000_2, .int .u64 x701001_2, .int .u64 x701002_2] 36 (0, 0)) (zK BK700) hb)
                       replace BK701 := Aside0.mk (blk_below (g := gb701) (o := .cells #[.bool x701000_2, .int .u64 x701001_2, .int .u64 x701002_2, .int .i64 x702003_3] 45 (0, 0)) (zK BK701) hb)
                       replace HB := Aside0.mk (below_step (zB HB) hb)
                       (try clear hb)
                       refine hK.out _ _ ⟨zc BK701 0, zc BK701 1, zc BK701 2, zc BK701 3, HS4_, HS5_, HS6_, HS7_, HS8_, HS9_⟩ (fun hHeld => ?_)
                       clear hK K
                       refine zn 36 ?_; refine zp 13 37 HT_ ?_; refine zd HT_ ?_
                       have hnb32 := NB701_700.out
                       have hnc32 := NB700_701.out
                       obtain ⟨hcz33_0, hcz33_1, hcz33_2, hcz33_3⟩ := zc4 BK701
                       obtain ⟨hfz33_0, hfz33_1, hfz33_2, hfz33_3⟩ := zf4 BK701
                       try go_wp2_with (first | ((with_reducible refine gate_builtin (b := .append) (xs := #[.tmp 42, .tmp 44]) rfl ?_); at_builtin; refine Kd.R_append k45 (w0 := w) w.heap.size rfl (.tmp 42) (.tmp 44) 42 45 (.agg #[(.bool false), (.int .u64 0), (.int .u64 0), (.int .i64 0)]) 32 rfl Try.underlying42 info45 rfl (by decide) (by omega) u3 x3_2 (⟨(⟨x701000_2, x701001_2, x701002_2⟩ : S36), x702003_3⟩ : S45) [.bool x701000_2, .int .u64 x701001_2, .int .u64 x701002_2, .int .i64 x702003_3] (fun k_ => k_ ≠ gb701) (fun _ => False) rfl rfl ?aP (fun _ hk => hk.elim) ?aF ?aO ?aB ?aS ?aL ?_; (case aP => exact k45_mkM _ _ _ (⟨(⟨x701000_2, x701001_2, x701002_2⟩ : S36), x702003_3⟩ : S45)); (case aB => exact (zB HB)); (case aF => exact (fun k_ hk => Kd.freshB (g := gb701) (o := .cells #[.bool x701000_2, .int .u64 x701001_2, .int .u64 x701002_2, .int .i64 x702003_3] 45 (0, 0)) (zK BK701) k_ hk)); (case aO => exact (zR HO_3)); (case aS => exact (below_size (zB HB))); (case aL => have := LMc26.out; omega); intro v712 w34 ho hb hg hat; rw [← Ny711.out] at ho; replace HO_4 := Aside0.mk (Kd.R_over' (zR HO_4) (Kd.R_typed (zR HO_3)) (by decide) hg); replace BK700 := Aside0.mk (blk_grown (g := gb700) (o := .cells #[.bool x701000_2, .int .u64 x701001_2, .int .u64 x701002_2] 36 (0, 0)) (zK BK700) hg (Kd.R_ne HO_3.out BK700.out (by decide))); replace BK701 := Aside0.mk (blk_grown (g := gb701) (o := .cells #[.bool x701000_2, .int .u64 x701001_2, .int .u64 x701002_2, .int .i64 x702003_3] 45 (0, 0)) (zK BK701) hg (Kd.R_away HO_3.out (fun _ hk => hk))); replace HB := Aside0.mk (hb); have HO713 := Aside0.mk (ho); clear HO_3; clear ho hb hg hat; obtain ⟨Ao35, co35, eo35⟩ := Kd.R_slice HO713.out; subst eo35))
                       go_ret
                       exact ⟨_, by first | rfl | (simp [errW_none, errW_some] <;> rfl) | (simp [*, errW_none, errW_some] <;> rfl), by first | exact Kd.R_nil _ _ _ _ _ | exact Kd.N_nil _ _ _ _ _ | exact Kd.V_nil _ _ _ _ _ | exact Kd.Q_nil _ _ _ _ _ | exact Kd.S_nil _ _ _ _ _, by repeat (first | (with_reducible first | exact HB.out | apply below_alloc | apply pw_below_drewN | apply below_drew1 | refine below_set ?_ GE700.out | refine below_set ?_ GE701.out) | exact HB.out)⟩
                     · rw [if_neg c27] at H
                       have c27b0 : decide (256 < (y711.length : Int)) = false := decide_eq_false c27
                       have c27b1 : decide (256 < y711.length) = false := decide_eq_false (by omega)
                       clear c27
                       replace H := Option.bind_eq_some_iff.mp H
                       obtain ⟨⟨t714, t715, t716, t717, t718, t719⟩, A360, H⟩ := H
                       try dsimp only at H
                       have A36 := Aside0.mk A360
                       clear A360
                       by_cases c37 : (t717 == ((rd_T66 t696 x5_1).f1.f0) && (t718 == ((rd_T66 t696 x5_1).f1.f1) && (t719 == ((rd_T66 t696 x5_1).f1.f2)))) = true
                       · rw [if_pos c37] at H
                         have c37b0 : (t717 == ((rd_T66 t696 x5_1).f1.f0) && (t718 == ((rd_T66 t696 x5_1).f1.f1) && (t719 == ((rd_T66 t696 x5_1).f1.f2)))) = true := c37
                         (try (have c37b1 : decide (t717 = ((rd_T66 t696 x5_1).f1.f0) && (t718 == ((rd_T66 t696 x5_1).f1.f1) && (t719 == ((rd_T66 t696 x5_1).f1.f2)))) = true := by first | (simpa using c37) | exact decide_eq_true (Decidable.not_not.1 (fun hn => c37 (bne_iff_ne.2 hn))) | exact beq_iff_eq.2 (Decidable.not_not.1 (fun hn => c37 (bne_iff_ne.2 hn))) | exact decide_eq_false (bne_iff_ne.1 c37) | exact beq_eq_false_iff_ne.2 (bne_iff_ne.1 c37) | exact bne_iff_ne.1 c37))
                         (try (have c37b2 : (t717 == ((rd_T66 t696 x5_1).f1.f0) && (t718 == ((rd_T66 t696 x5_1).f1.f1) && (t719 == ((rd_T66 t696 x5_1).f1.f2)))) = true := by first | (simpa using c37) | exact decide_eq_true (Decidable.not_not.1 (fun hn => c37 (bne_iff_ne.2 hn))) | exact beq_iff_eq.2 (Decidable.not_not.1 (fun hn => c37 (bne_iff_ne.2 hn))) | exact decide_eq_false (bne_iff_ne.1 c37) | exact beq_eq_false_iff_ne.2 (bne_iff_ne.1 c37) | exact bne_iff_ne.1 c37))
                         clear c37
                         have H' := Aside0.mk H
                         clear H
                         try go_wp2
                         replace HO_3 := Aside0.mk (Kd.R_drew HO_3.out)
                         replace HO_4 := Aside0.mk (Kd.R_drew HO_4.out)
                         replace BK700 := Aside0.mk (blk_drew BK700.out)
                         replace BK701 := Aside0.mk (blk_drew BK701.out)
                         replace HB := Aside0.mk (below_drew1 HB.out)
                         have p703 : 0 ≤ (x5_1 : Int) := za
                         have q703 : x5_1 < (t696.length : Int) := za
                         obtain ⟨ad703, e703, hx703_0, hx703_1, hx703_2, hx703_3, hx703_4, hx703_5⟩ := at_T66 (Kd.R_reads' HO_4.out).2.2 x5_1 p703 q703
                         obtain rfl : ad699 = ad703 := (by injection e703)
                         replace p703 := eq_true p703
                         replace q703 := eq_true q703
                         refine start_ (n := 14) (S := fun w' => w'.cell? ⟨gb701, 0, none⟩ = some (.bool x701000_2) ∧ w'.cell? ⟨gb701, 1, none⟩ = some (.int .u64 x701001_2) ∧ w'.cell? ⟨gb701, 2, none⟩ = some (.int .u64 x701002_2) ∧ w'.cell? ⟨gb701, 3, none⟩ = some (.int .i64 x702003_3) ∧ w'.cell? (ad699.add ((x5_1).toNat * 6)) = some (.bool ((rd_T66 t696 x5_1).f0.f0)) ∧ w'.cell? ⟨(ad699.add ((x5_1).toNat * 6)).block, (ad699.add ((x5_1).toNat * 6)).off + 1, none⟩ = some (.int .u64 ((rd_T66 t696 x5_1).f0.f1)) ∧ w'.cell? ⟨(ad699.add ((x5_1).toNat * 6)).block, (ad699.add ((x5_1).toNat * 6)).off + 2, none⟩ = some (.int .u64 ((rd_T66 t696 x5_1).f0.f2)) ∧ w'.cell? ⟨(ad699.add ((x5_1).toNat * 6)).block, (ad699.add ((x5_1).toNat * 6)).off + 3, none⟩ = some (.bool ((rd_T66 t696 x5_1).f1.f0)) ∧ w'.cell? ⟨(ad699.add ((x5_1).toNat * 6)).block, (ad699.add ((x5_1).toNat * 6)).off + 4, none⟩ = some (.int .u64 ((rd_T66 t696 x5_1).f1.f1)) ∧ w'.cell? ⟨(ad699.add ((x5_1).toNat * 6)).block, (ad699.add ((x5_1).toNat * 6)).off + 5, none⟩ = some (.int .u64 ((rd_T66 t696 x5_1).f1.f2))) (ds := []) #[false, false, false, false, false, false, false, false, false, false, false, false, false, false] (by kernel_rfl) rfl rfl ⟨zc BK701 0, zc BK701 1, zc BK701 2, zc BK701 3, hx703_0, hx703_1, hx703_2, hx703_3, hx703_4, hx703_5⟩ (fun hHeld => ?_); refine with_tabW intrusionref07_Prefixes.tab8 intrusionref07_Prefixes.bits8 (fun HT_ HW_ => ?_)
                         generalize wr.drew = w38 at HO_3 HO_4 BK700 BK701 HB hx703_0 hx703_1 hx703_2 hx703_3 hx703_4 hx703_5 hHeld ⊢
                         refine zt 0 24 HT_ HW_ hHeld ?_; refine zo 1 25 HT_ (fun K hK => ?_)
                         refine zg Try.func89 #[.agg #[.bool x701000_2, .int .u64 x701001_2, .int .u64 x701002_2, .int .i64 x702003_3]] ?_
                         with_reducible refine (intrusionref07_Right.calls k3 x701000_2 x701001_2 x701002_2 x702003_3 true _ A13.out).mono ?_
                         rintro e w39 ⟨rfl, hb⟩
                         have HS4_ := (hb.cell (World.block_lt_of_cell? _ _ (hHeld.2.2.2.2.1))).trans (hHeld.2.2.2.2.1)
                         have HS5_ := (hb.cell (World.block_lt_of_cell? _ _ (hHeld.2.2.2.2.2.1))).trans (hHeld.2.2.2.2.2.1)
                         have HS6_ := (hb.cell (World.block_lt_of_cell? _ _ (hHeld.2.2.2.2.2.2.1))).trans (hHeld.2.2.2.2.2.2.1)
                         have HS7_ := (hb.cell (World.block_lt_of_cell? _ _ (hHeld.2.2.2.2.2.2.2.1))).trans (hHeld.2.2.2.2.2.2.2.1)
                         have HS8_ := (hb.cell (World.block_lt_of_cell? _ _ (hHeld.2.2.2.2.2.2.2.2.1))).trans (hHeld.2.2.2.2.2.2.2.2.1)
                         have HS9_ := (hb.cell (World.block_lt_of_cell? _ _ (hHeld.2.2.2.2.2.2.2.2.2))).trans (hHeld.2.2.2.2.2.2.2.2.2)
                         refine ⟨_, rfl, ?_⟩
                         replace HO_3 := Aside0.mk (Kd.R_below (zR HO_3) hb)
                         replace HO_4 := Aside0.mk (Kd.R_below (zR HO_4) hb)
                         replace BK700 := Aside0.mk (blk_below (g := gb700) (o := .cells #[.bool x701000_2, .int .u64 x701001_2, .int .u64 x701002_2] 36 (0, 0)) (zK BK700) hb)
                         replace BK701 := Aside0.mk (blk_below (g := gb701) (o := .cells #[.bool x701000_2, .int .u64 x701001_2, .int .u64 x701002_2, .int .i64 x702003_3] 45 (0, 0)) (zK BK701) hb)
                         replace HB := Aside0.mk (below_step (zB HB) hb)
                         (try clear hb)
                         refine hK.out _ _ ⟨zc BK701 0, zc BK701 1, zc BK701 2, zc BK701 3, HS4_, HS5_, HS6_, HS7_, HS8_, HS9_⟩ (fun hHeld => ?_)
                         clear hK K
                         refine zn 25 ?_; refine zp 2 26 HT_ ?_; refine zp 3 27 HT_ ?_; refine zp 4 28 HT_ ?_; refine zp 5 29 HT_ ?_; refine zp 6 30 HT_ ?_; refine zp 7 31 HT_ ?_; refine zt 8 32 HT_ HW_ hHeld ?_; refine zt 9 33 HT_ HW_ hHeld ?_; refine zo 10 34 HT_ (fun K hK => ?_)
                         refine zg Try.func90 #[.agg #[.bool x701000_2, .int .u64 x701001_2, .int .u64 x701002_2, .int .i64 x702003_3]] ?_
                         with_reducible refine (intrusionref07_Block.calls x701000_2 x701001_2 x701002_2 x702003_3 t704 t705 t706 t707 t708 t709 _ A17.out).mono ?_
                         rintro e w40 ⟨rfl, hb⟩
                         have HS4_ := (hb.cell (World.block_lt_of_cell? _ _ (hHeld.2.2.2.2.1))).trans (hHeld.2.2.2.2.1)
                         have HS5_ := (hb.cell (World.block_lt_of_cell? _ _ (hHeld.2.2.2.2.2.1))).trans (hHeld.2.2.2.2.2.1)
                         have HS6_ := (hb.cell (World.block_lt_of_cell? _ _ (hHeld.2.2.2.2.2.2.1))).trans (hHeld.2.2.2.2.2.2.1)
                         have HS7_ := (hb.cell (World.block_lt_of_cell? _ _ (hHeld.2.2.2.2.2.2.2.1))).trans (hHeld.2.2.2.2.2.2.2.1)
                         have HS8_ := (hb.cell (World.block_lt_of_cell? _ _ (hHeld.2.2.2.2.2.2.2.2.1))).trans (hHeld.2.2.2.2.2.2.2.2.1)
                         have HS9_ := (hb.cell (World.block_lt_of_cell? _ _ (hHeld.2.2.2.2.2.2.2.2.2))).trans (hHeld.2.2.2.2.2.2.2.2.2)
                         refine ⟨_, rfl, ?_⟩
                         replace HO_3 := Aside0.mk (Kd.R_below (zR HO_3) hb)
                         replace HO_4 := Aside0.mk (Kd.R_below (zR HO_4) hb)
                         replace BK700 := Aside0.mk (blk_below (g := gb700) (o := .cells #[.bool x701000_2, .int .u64 x701001_2, .int .u64 x701002_2] 36 (0, 0)) (zK BK700) hb)
                         replace BK701 := Aside0.mk (blk_below (g := gb701) (o := .cells #[.bool x701000_2, .int .u64 x701001_2, .int .u64 x701002_2, .int .i64 x702003_3] 45 (0, 0)) (zK BK701) hb)
                         replace HB := Aside0.mk (below_step (zB HB) hb)
                         (try clear hb)
                         refine hK.out _ _ ⟨zc BK701 0, zc BK701 1, zc BK701 2, zc BK701 3, HS4_, HS5_, HS6_, HS7_, HS8_, HS9_⟩ (fun hHeld => ?_)
                         clear hK K
                         refine zn 34 ?_; refine zp 11 35 HT_ ?_; refine zo 12 36 HT_ (fun K hK => ?_)
                         refine zg Try.func80 #[.agg #[.bool ((rd_T66 t696 x5_1).f1.f0), .int .u64 ((rd_T66 t696 x5_1).f1.f1), .int .u64 ((rd_T66 t696 x5_1).f1.f2)], .agg #[.bool t707, .int .u64 t708, .int .u64 t709]] ?_
                         with_reducible refine (intrusionref07_Before.calls ((rd_T66 t696 x5_1).f1.f0) ((rd_T66 t696 x5_1).f1.f1) ((rd_T66 t696 x5_1).f1.f2) t707 t708 t709 false _ A18.out).mono ?_
                         rintro e w41 ⟨rfl, hb⟩
                         have HS4_ := (hb.cell (World.block_lt_of_cell? _ _ (hHeld.2.2.2.2.1))).trans (hHeld.2.2.2.2.1)
                         have HS5_ := (hb.cell (World.block_lt_of_cell? _ _ (hHeld.2.2.2.2.2.1))).trans (hHeld.2.2.2.2.2.1)
                         have HS6_ := (hb.cell (World.block_lt_of_cell? _ _ (hHeld.2.2.2.2.2.2.1))).trans (hHeld.2.2.2.2.2.2.1)
                         have HS7_ := (hb.cell (World.block_lt_of_cell? _ _ (hHeld.2.2.2.2.2.2.2.1))).trans (hHeld.2.2.2.2.2.2.2.1)
                         have HS8_ := (hb.cell (World.block_lt_of_cell? _ _ (hHeld.2.2.2.2.2.2.2.2.1))).trans (hHeld.2.2.2.2.2.2.2.2.1)
                         have HS9_ := (hb.cell (World.block_lt_of_cell? _ _ (hHeld.2.2.2.2.2.2.2.2.2))).trans (hHeld.2.2.2.2.2.2.2.2.2)
                         refine ⟨_, rfl, ?_⟩
                         replace HO_3 := Aside0.mk (Kd.R_below (zR HO_3) hb)
                         replace HO_4 := Aside0.mk (Kd.R_below (zR HO_4) hb)
                         replace BK700 := Aside0.mk (blk_below (g := gb700) (o := .cells #[.bool x701000_2, .int .u64 x701001_2, .int .u64 x701002_2] 36 (0, 0)) (zK BK700) hb)
                         replace BK701 := Aside0.mk (blk_below (g := gb701) (o := .cells #[.bool x701000_2, .int .u64 x701001_2, .int .u64 x701002_2, .int .i64 x702003_3] 45 (0, 0)) (zK BK701) hb)
                         replace HB := Aside0.mk (below_step (zB HB) hb)
                         (try clear hb)
                         refine hK.out _ _ ⟨zc BK701 0, zc BK701 1, zc BK701 2, zc BK701 3, HS4_, HS5_, HS6_, HS7_, HS8_, HS9_⟩ (fun hHeld => ?_)
                         clear hK K
                         refine zn 36 ?_; refine zp 13 37 HT_ ?_; refine zd HT_ ?_
                         have hnb42 := NB701_700.out
                         have hnc42 := NB700_701.out
                         obtain ⟨hcz43_0, hcz43_1, hcz43_2, hcz43_3⟩ := zc4 BK701
                         obtain ⟨hfz43_0, hfz43_1, hfz43_2, hfz43_3⟩ := zf4 BK701
                         try go_wp2_with (first | ((with_reducible refine gate_builtin (b := .append) (xs := #[.tmp 42, .tmp 44]) rfl ?_); at_builtin; refine Kd.R_append k45 (w0 := w) w.heap.size rfl (.tmp 42) (.tmp 44) 42 45 (.agg #[(.bool false), (.int .u64 0), (.int .u64 0), (.int .i64 0)]) 32 rfl Try.underlying42 info45 rfl (by decide) (by omega) u3 x3_2 (⟨(⟨x701000_2, x701001_2, x701002_2⟩ : S36), x702003_3⟩ : S45) [.bool x701000_2, .int .u64 x701001_2, .int .u64 x701002_2, .int .i64 x702003_3] (fun k_ => k_ ≠ gb701) (fun _ => False) rfl rfl ?aP (fun _ hk => hk.elim) ?aF ?aO ?aB ?aS ?aL ?_; (case aP => exact k45_mkM _ _ _ (⟨(⟨x701000_2, x701001_2, x701002_2⟩ : S36), x702003_3⟩ : S45)); (case aB => exact (zB HB)); (case aF => exact (fun k_ hk => Kd.freshB (g := gb701) (o := .cells #[.bool x701000_2, .int .u64 x701001_2, .int .u64 x701002_2, .int .i64 x702003_3] 45 (0, 0)) (zK BK701) k_ hk)); (case aO => exact (zR HO_3)); (case aS => exact (below_size (zB HB))); (case aL => have := LMc26.out; omega); intro v712 w44 ho hb hg hat; rw [← Ny711.out] at ho; replace HO_4 := Aside0.mk (Kd.R_over' (zR HO_4) (Kd.R_typed (zR HO_3)) (by decide) hg); replace BK700 := Aside0.mk (blk_grown (g := gb700) (o := .cells #[.bool x701000_2, .int .u64 x701001_2, .int .u64 x701002_2] 36 (0, 0)) (zK BK700) hg (Kd.R_ne HO_3.out BK700.out (by decide))); replace BK701 := Aside0.mk (blk_grown (g := gb701) (o := .cells #[.bool x701000_2, .int .u64 x701001_2, .int .u64 x701002_2, .int .i64 x702003_3] 45 (0, 0)) (zK BK701) hg (Kd.R_away HO_3.out (fun _ hk => hk))); replace HB := Aside0.mk (hb); have HO713 := Aside0.mk (ho); clear HO_3; clear ho hb hg hat; obtain ⟨Ao45, co45, eo45⟩ := Kd.R_slice HO713.out; subst eo45; obtain ⟨hcz46_0, hcz46_1, hcz46_2, hcz46_3⟩ := zc4 BK701; obtain ⟨hfz46_0, hfz46_1, hfz46_2, hfz46_3⟩ := zf4 BK701) | ((with_reducible refine gate_callee (f := 90) rfl ?_); refine goesL_ (some 50) rfl rfl Try.func90 (by kernel_rfl) rfl #[.agg #[.bool x701000_2, .int .u64 x701001_2, .int .u64 x701002_2, .int .i64 x702003_3]] rfl (by (try simp only [List.map_toArray, List.map_cons, List.map_nil]); first | done | rfl | (simp only [List.length_drop, List.length_take]; rfl)) ?_; (with_reducible refine (intrusionref07_Block.calls x701000_2 x701001_2 x701002_2 x702003_3 t714 t715 t716 t717 t718 t719 _ A36.out).mono ?_); rintro e w47 ⟨rfl, hb⟩; refine ⟨_, rfl, ?_⟩; replace HO_4 := Aside0.mk (Kd.R_below (zR HO_4) hb); replace HO713 := Aside0.mk (Kd.R_below (zR HO713) hb); replace BK700 := Aside0.mk (blk_below (g := gb700) (o := .cells #[.bool x701000_2, .int .u64 x701001_2, .int .u64 x701002_2] 36 (0, 0)) (zK BK700) hb); replace BK701 := Aside0.mk (blk_below (g := gb701) (o := .cells #[.bool x701000_2, .int .u64 x701001_2, .int .u64 x701002_2, .int .i64 x702003_3] 45 (0, 0)) (zK BK701) hb); replace HB := Aside0.mk (below_step (zB HB) hb); (try clear hb)) | ((with_reducible refine gate_dst (N := 8) rfl ?_); refine zx 8 #[.bool false, .int .u64 0, .int .u64 0] 36 ?_; intro gb720 hg w48 hbox hb; replace HO_4 := Aside0.mk (Kd.R_below (zR HO_4) hb); replace HO713 := Aside0.mk (Kd.R_below (zR HO713) hb); have BK720 := Aside0.mk (hbox); have GW720 := Aside0.mk ((by rw [hg]; exact (below_size (zB HB)) : w.heap.size ≤ gb720)); have GE720 := Aside0.mk ((by rw [hg]; exact (below_size (zB HB)) : w.heap.size ≤ gb720)); replace HB := Aside0.mk (below_step (zB HB) hb); have NB700_720 := Aside0.mk ((by rw [hg]; exact Nat.ne_of_lt (blk_lt (g := gb700) (o := .cells #[.bool x701000_2, .int .u64 x701001_2, .int .u64 x701002_2] 36 (0, 0)) (zK BK700)) : gb700 ≠ gb720)); have NB720_700 := Aside0.mk ((by rw [hg]; exact Nat.ne_of_gt (blk_lt (g := gb700) (o := .cells #[.bool x701000_2, .int .u64 x701001_2, .int .u64 x701002_2] 36 (0, 0)) (zK BK700)) : gb720 ≠ gb700)); replace BK700 := Aside0.mk (blk_below (g := gb700) (o := .cells #[.bool x701000_2, .int .u64 x701001_2, .int .u64 x701002_2] 36 (0, 0)) (zK BK700) hb); have NB701_720 := Aside0.mk ((by rw [hg]; exact Nat.ne_of_lt (blk_lt (g := gb701) (o := .cells #[.bool x701000_2, .int .u64 x701001_2, .int .u64 x701002_2, .int .i64 x702003_3] 45 (0, 0)) (zK BK701)) : gb701 ≠ gb720)); have NB720_701 := Aside0.mk ((by rw [hg]; exact Nat.ne_of_gt (blk_lt (g := gb701) (o := .cells #[.bool x701000_2, .int .u64 x701001_2, .int .u64 x701002_2, .int .i64 x702003_3] 45 (0, 0)) (zK BK701)) : gb720 ≠ gb701)); replace BK701 := Aside0.mk (blk_below (g := gb701) (o := .cells #[.bool x701000_2, .int .u64 x701001_2, .int .u64 x701002_2, .int .i64 x702003_3] 45 (0, 0)) (zK BK701) hb); clear hb hbox hg; have hnb49 := NB720_700.out; have hnc49 := NB700_720.out; have hnb50 := NB720_701.out; have hnc50 := NB701_720.out; obtain ⟨hcz51_0, hcz51_1, hcz51_2⟩ := zc3 BK720; obtain ⟨hfz51_0, hfz51_1, hfz51_2⟩ := zf3 BK720))
                         have n0_ : Aside0 (Kd.R k66 66 (((w48.setCell ⟨gb720, 0, none⟩ (.bool t717)).setCell ⟨gb720, 1, none⟩ (.int .u64 t718)).setCell ⟨gb720, 2, none⟩ (.int .u64 t719)) w.heap.size (fun _ => True) (.slice (some ad699) t696.length co6) t696) := ⟨by (with_reducible repeat (first | apply Kd.R_alloc | apply Kd.R_drewN | apply Kd.R_drew)); exact Kd.R_mono (Kd.R_far (p := ⟨gb720, 2, none⟩) (Kd.R_far (p := ⟨gb720, 1, none⟩) (Kd.R_far (p := ⟨gb720, 0, none⟩) (Kd.R_types HO_4.out BK720.out (by decide)) (fun _ hk => hk.2) (.bool t717)) (fun _ hk => hk.2) (.int .u64 t718)) (fun _ hk => hk.2) (.int .u64 t719)) (fun _ hk => trivial)⟩
                         have n1_ : Aside0 (Kd.R k45 45 (((w48.setCell ⟨gb720, 0, none⟩ (.bool t717)).setCell ⟨gb720, 1, none⟩ (.int .u64 t718)).setCell ⟨gb720, 2, none⟩ (.int .u64 t719)) w.heap.size (fun k_ => k_ ≠ gb701) (.slice Ao45 y711.length co45) y711) := ⟨by (with_reducible repeat (first | apply Kd.R_alloc | apply Kd.R_drewN | apply Kd.R_drew)); exact Kd.R_mono (Kd.R_far (p := ⟨gb720, 2, none⟩) (Kd.R_far (p := ⟨gb720, 1, none⟩) (Kd.R_far (p := ⟨gb720, 0, none⟩) (Kd.R_types HO713.out BK720.out (by decide)) (fun _ hk => hk.2) (.bool t717)) (fun _ hk => hk.2) (.int .u64 t718)) (fun _ hk => hk.2) (.int .u64 t719)) (fun _ hk => hk.1)⟩
                         have n2_ : Aside0 ((((w48.setCell ⟨gb720, 0, none⟩ (.bool t717)).setCell ⟨gb720, 1, none⟩ (.int .u64 t718)).setCell ⟨gb720, 2, none⟩ (.int .u64 t719)).heap[gb700]? = some (.cells #[.bool x701000_2, .int .u64 x701001_2, .int .u64 x701002_2] 36 (0, 0))) := ⟨by refine zL ?_; refine blk_far ?_ NB700_720.out _; refine zL ?_; refine blk_far ?_ NB700_720.out _; refine zL ?_; refine blk_far ?_ NB700_720.out _; refine zL ?_; exact BK700.out⟩
                         have n3_ : Aside0 ((((w48.setCell ⟨gb720, 0, none⟩ (.bool t717)).setCell ⟨gb720, 1, none⟩ (.int .u64 t718)).setCell ⟨gb720, 2, none⟩ (.int .u64 t719)).heap[gb701]? = some (.cells #[.bool x701000_2, .int .u64 x701001_2, .int .u64 x701002_2, .int .i64 x702003_3] 45 (0, 0))) := ⟨by refine zL ?_; refine blk_far ?_ NB701_720.out _; refine zL ?_; refine blk_far ?_ NB701_720.out _; refine zL ?_; refine blk_far ?_ NB701_720.out _; refine zL ?_; exact BK701.out⟩
                         have n4_ : Aside0 ((((w48.setCell ⟨gb720, 0, none⟩ (.bool t717)).setCell ⟨gb720, 1, none⟩ (.int .u64 t718)).setCell ⟨gb720, 2, none⟩ (.int .u64 t719)).heap[gb720]? = some (.cells #[.bool t717, .int .u64 t718, .int .u64 t719] 36 (0, 0))) := ⟨by refine zL ?_; refine blk_put (cs := #[.bool t717, .int .u64 t718, .int .u64 0]) ?_ 2 _ rfl; refine zL ?_; refine blk_put (cs := #[.bool t717, .int .u64 0, .int .u64 0]) ?_ 1 _ rfl; refine zL ?_; refine blk_put (cs := #[.bool false, .int .u64 0, .int .u64 0]) ?_ 0 _ rfl; refine zL ?_; exact BK720.out⟩
                         have n5_ : Aside0 (Below w.heap.size w (((w48.setCell ⟨gb720, 0, none⟩ (.bool t717)).setCell ⟨gb720, 1, none⟩ (.int .u64 t718)).setCell ⟨gb720, 2, none⟩ (.int .u64 t719))) := ⟨zB HB⟩
                         (try clear HO_4)
                         (try clear HO713)
                         (try clear BK700)
                         (try clear BK701)
                         (try clear BK720)
                         (try clear HB)
                         generalize (((w48.setCell ⟨gb720, 0, none⟩ (.bool t717)).setCell ⟨gb720, 1, none⟩ (.int .u64 t718)).setCell ⟨gb720, 2, none⟩ (.int .u64 t719)) = w52 at n0_ n1_ n2_ n3_ n4_ n5_ ⊢
                         have HO_4 := n0_
                         have HO713 := n1_
                         have BK700 := n2_
                         have BK701 := n3_
                         have BK720 := n4_
                         have HB := n5_
                         clear n0_ n1_ n2_ n3_ n4_ n5_
                         replace HO_4 := Aside0.mk (Kd.R_drew HO_4.out)
                         replace HO713 := Aside0.mk (Kd.R_drew HO713.out)
                         replace BK700 := Aside0.mk (blk_drew BK700.out)
                         replace BK701 := Aside0.mk (blk_drew BK701.out)
                         replace BK720 := Aside0.mk (blk_drew BK720.out)
                         replace HB := Aside0.mk (below_drew1 HB.out)
                         have p721 : 0 ≤ (x5_1 : Int) := za
                         have q721 : x5_1 < (t696.length : Int) := za
                         obtain ⟨ad721, e721, hx721_0, hx721_1, hx721_2, hx721_3, hx721_4, hx721_5⟩ := at_T66 (Kd.R_reads' HO_4.out).2.2 x5_1 p721 q721
                         obtain rfl : ad699 = ad721 := (by injection e721)
                         replace p721 := eq_true p721
                         replace q721 := eq_true q721
                         refine start_ (n := 7) (S := fun w' => w'.cell? ⟨gb720, 0, none⟩ = some (.bool t717) ∧ w'.cell? ⟨gb720, 1, none⟩ = some (.int .u64 t718) ∧ w'.cell? ⟨gb720, 2, none⟩ = some (.int .u64 t719) ∧ w'.cell? (ad699.add ((x5_1).toNat * 6)) = some (.bool ((rd_T66 t696 x5_1).f0.f0)) ∧ w'.cell? ⟨(ad699.add ((x5_1).toNat * 6)).block, (ad699.add ((x5_1).toNat * 6)).off + 1, none⟩ = some (.int .u64 ((rd_T66 t696 x5_1).f0.f1)) ∧ w'.cell? ⟨(ad699.add ((x5_1).toNat * 6)).block, (ad699.add ((x5_1).toNat * 6)).off + 2, none⟩ = some (.int .u64 ((rd_T66 t696 x5_1).f0.f2)) ∧ w'.cell? ⟨(ad699.add ((x5_1).toNat * 6)).block, (ad699.add ((x5_1).toNat * 6)).off + 3, none⟩ = some (.bool ((rd_T66 t696 x5_1).f1.f0)) ∧ w'.cell? ⟨(ad699.add ((x5_1).toNat * 6)).block, (ad699.add ((x5_1).toNat * 6)).off + 4, none⟩ = some (.int .u64 ((rd_T66 t696 x5_1).f1.f1)) ∧ w'.cell? ⟨(ad699.add ((x5_1).toNat * 6)).block, (ad699.add ((x5_1).toNat * 6)).off + 5, none⟩ = some (.int .u64 ((rd_T66 t696 x5_1).f1.f2))) (ds := []) #[false, false, false, false, false, false, false] (by kernel_rfl) rfl rfl ⟨zc BK720 0, zc BK720 1, zc BK720 2, hx721_0, hx721_1, hx721_2, hx721_3, hx721_4, hx721_5⟩ (fun hHeld => ?_)
                         generalize w52.drew = w53 at HO_4 HO713 BK700 BK701 BK720 HB hx721_0 hx721_1 hx721_2 hx721_3 hx721_4 hx721_5 hHeld ⊢
                         refine zp0 1 53 ?_; refine zp0 2 54 ?_; refine zp0 3 55 ?_; refine zp0 4 56 ?_; refine zt0 0 52 hHeld ?_; refine zt0 5 57 hHeld ?_; refine zp0 6 58 ?_; refine zd0 ?_
                         try go_wp2
                         go_roundg k3
                         case measure => have := HK1.out; have := HK2.out; have := HK3.out; omega
                         case rel => exact ⟨(y711), (wrap64 (x5_1 + 1)), (by first | rfl | (simp; done) | (simp [*]; done)), H', ⟨by have := HK1.out; have := HK2.out; have := HK3.out; omega⟩, ⟨by (with_reducible repeat (first | apply Kd.R_alloc | apply Kd.R_drewN | apply Kd.R_drew)); exact Kd.R_mono HO713.out (fun _ hk => trivial)⟩, ⟨zR HO_4⟩, ⟨zB HB⟩⟩
                       · rw [if_neg c37] at H
                         have c37b0 : (t717 == ((rd_T66 t696 x5_1).f1.f0) && (t718 == ((rd_T66 t696 x5_1).f1.f1) && (t719 == ((rd_T66 t696 x5_1).f1.f2)))) = false := by simpa using c37
                         (try (have c37b1 : decide (t717 = ((rd_T66 t696 x5_1).f1.f0) && (t718 == ((rd_T66 t696 x5_1).f1.f1) && (t719 == ((rd_T66 t696 x5_1).f1.f2)))) = false := by first | (simpa using c37) | exact decide_eq_true (Decidable.not_not.1 (fun hn => c37 (bne_iff_ne.2 hn))) | exact beq_iff_eq.2 (Decidable.not_not.1 (fun hn => c37 (bne_iff_ne.2 hn))) | exact decide_eq_false (bne_iff_ne.1 c37) | exact beq_eq_false_iff_ne.2 (bne_iff_ne.1 c37) | exact bne_iff_ne.1 c37))
                         (try (have c37b2 : (t717 == ((rd_T66 t696 x5_1).f1.f0) && (t718 == ((rd_T66 t696 x5_1).f1.f1) && (t719 == ((rd_T66 t696 x5_1).f1.f2)))) = false := by first | (simpa using c37) | exact decide_eq_true (Decidable.not_not.1 (fun hn => c37 (bne_iff_ne.2 hn))) | exact beq_iff_eq.2 (Decidable.not_not.1 (fun hn => c37 (bne_iff_ne.2 hn))) | exact decide_eq_false (bne_iff_ne.1 c37) | exact beq_eq_false_iff_ne.2 (bne_iff_ne.1 c37) | exact bne_iff_ne.1 c37))
                         (try (have c37b3 : ¬ (t717 = ((rd_T66 t696 x5_1).f1.f0) && (t718 == ((rd_T66 t696 x5_1).f1.f1) && (t719 == ((rd_T66 t696 x5_1).f1.f2)))) := by first | (simpa using c37) | exact decide_eq_true (Decidable.not_not.1 (fun hn => c37 (bne_iff_ne.2 hn))) | exact beq_iff_eq.2 (Decidable.not_not.1 (fun hn => c37 (bne_iff_ne.2 hn))) | exact decide_eq_false (bne_iff_ne.1 c37) | exact beq_eq_false_iff_ne.2 (bne_iff_ne.1 c37) | exact bne_iff_ne.1 c37))
                         clear c37
                         replace H := Option.bind_eq_some_iff.mp H
                         obtain ⟨⟨t722, t723, t724⟩, A540, H⟩ := H
                         try dsimp only at H
                         have A54 := Aside0.mk A540
                         clear A540
                         have H' := Aside0.mk H
                         clear H
                         try go_wp2
                         replace HO_3 := Aside0.mk (Kd.R_drew HO_3.out)
                         replace HO_4 := Aside0.mk (Kd.R_drew HO_4.out)
                         replace BK700 := Aside0.mk (blk_drew BK700.out)
                         replace BK701 := Aside0.mk (blk_drew BK701.out)
                         replace HB := Aside0.mk (below_drew1 HB.out)
                         have p703 : 0 ≤ (x5_1 : Int) := za
                         have q703 : x5_1 < (t696.length : Int) := za
                         obtain ⟨ad703, e703, hx703_0, hx703_1, hx703_2, hx703_3, hx703_4, hx703_5⟩ := at_T66 (Kd.R_reads' HO_4.out).2.2 x5_1 p703 q703
                         obtain rfl : ad699 = ad703 := (by injection e703)
                         replace p703 := eq_true p703
                         replace q703 := eq_true q703
                         refine start_ (n := 14) (S := fun w' => w'.cell? ⟨gb701, 0, none⟩ = some (.bool x701000_2) ∧ w'.cell? ⟨gb701, 1, none⟩ = some (.int .u64 x701001_2) ∧ w'.cell? ⟨gb701, 2, none⟩ = some (.int .u64 x701002_2) ∧ w'.cell? ⟨gb701, 3, none⟩ = some (.int .i64 x702003_3) ∧ w'.cell? (ad699.add ((x5_1).toNat * 6)) = some (.bool ((rd_T66 t696 x5_1).f0.f0)) ∧ w'.cell? ⟨(ad699.add ((x5_1).toNat * 6)).block, (ad699.add ((x5_1).toNat * 6)).off + 1, none⟩ = some (.int .u64 ((rd_T66 t696 x5_1).f0.f1)) ∧ w'.cell? ⟨(ad699.add ((x5_1).toNat * 6)).block, (ad699.add ((x5_1).toNat * 6)).off + 2, none⟩ = some (.int .u64 ((rd_T66 t696 x5_1).f0.f2)) ∧ w'.cell? ⟨(ad699.add ((x5_1).toNat * 6)).block, (ad699.add ((x5_1).toNat * 6)).off + 3, none⟩ = some (.bool ((rd_T66 t696 x5_1).f1.f0)) ∧ w'.cell? ⟨(ad699.add ((x5_1).toNat * 6)).block, (ad699.add ((x5_1).toNat * 6)).off + 4, none⟩ = some (.int .u64 ((rd_T66 t696 x5_1).f1.f1)) ∧ w'.cell? ⟨(ad699.add ((x5_1).toNat * 6)).block, (ad699.add ((x5_1).toNat * 6)).off + 5, none⟩ = some (.int .u64 ((rd_T66 t696 x5_1).f1.f2))) (ds := []) #[false, false, false, false, false, false, false, false, false, false, false, false, false, false] (by kernel_rfl) rfl rfl ⟨zc BK701 0, zc BK701 1, zc BK701 2, zc BK701 3, hx703_0, hx703_1, hx703_2, hx703_3, hx703_4, hx703_5⟩ (fun hHeld => ?_); refine with_tabW intrusionref07_Prefixes.tab8 intrusionref07_Prefixes.bits8 (fun HT_ HW_ => ?_)
                         generalize wr.drew = w55 at HO_3 HO_4 BK700 BK701 HB hx703_0 hx703_1 hx703_2 hx703_3 hx703_4 hx703_5 hHeld ⊢
                         refine zt 0 24 HT_ HW_ hHeld ?_; refine zo 1 25 HT_ (fun K hK => ?_)
                         refine zg Try.func89 #[.agg #[.bool x701000_2, .int .u64 x701001_2, .int .u64 x701002_2, .int .i64 x702003_3]] ?_
                         with_reducible refine (intrusionref07_Right.calls k3 x701000_2 x701001_2 x701002_2 x702003_3 true _ A13.out).mono ?_
                         rintro e w56 ⟨rfl, hb⟩
                         have HS4_ := (hb.cell (World.block_lt_of_cell? _ _ (hHeld.2.2.2.2.1))).trans (hHeld.2.2.2.2.1)
                         have HS5_ := (hb.cell (World.block_lt_of_cell? _ _ (hHeld.2.2.2.2.2.1))).trans (hHeld.2.2.2.2.2.1)
                         have HS6_ := (hb.cell (World.block_lt_of_cell? _ _ (hHeld.2.2.2.2.2.2.1))).trans (hHeld.2.2.2.2.2.2.1)
                         have HS7_ := (hb.cell (World.block_lt_of_cell? _ _ (hHeld.2.2.2.2.2.2.2.1))).trans (hHeld.2.2.2.2.2.2.2.1)
                         have HS8_ := (hb.cell (World.block_lt_of_cell? _ _ (hHeld.2.2.2.2.2.2.2.2.1))).trans (hHeld.2.2.2.2.2.2.2.2.1)
                         have HS9_ := (hb.cell (World.block_lt_of_cell? _ _ (hHeld.2.2.2.2.2.2.2.2.2))).trans (hHeld.2.2.2.2.2.2.2.2.2)
                         refine ⟨_, rfl, ?_⟩
                         replace HO_3 := Aside0.mk (Kd.R_below (zR HO_3) hb)
                         replace HO_4 := Aside0.mk (Kd.R_below (zR HO_4) hb)
                         replace BK700 := Aside0.mk (blk_below (g := gb700) (o := .cells #[.bool x701000_2, .int .u64 x701001_2, .int .u64 x701002_2] 36 (0, 0)) (zK BK700) hb)
                         replace BK701 := Aside0.mk (blk_below (g := gb701) (o := .cells #[.bool x701000_2, .int .u64 x701001_2, .int .u64 x701002_2, .int .i64 x702003_3] 45 (0, 0)) (zK BK701) hb)
                         replace HB := Aside0.mk (below_step (zB HB) hb)
                         (try clear hb)
                         refine hK.out _ _ ⟨zc BK701 0, zc BK701 1, zc BK701 2, zc BK701 3, HS4_, HS5_, HS6_, HS7_, HS8_, HS9_⟩ (fun hHeld => ?_)
                         clear hK K
                         refine zn 25 ?_; refine zp 2 26 HT_ ?_; refine zp 3 27 HT_ ?_; refine zp 4 28 HT_ ?_; refine zp 5 29 HT_ ?_; refine zp 6 30 HT_ ?_; refine zp 7 31 HT_ ?_; refine zt 8 32 HT_ HW_ hHeld ?_; refine zt 9 33 HT_ HW_ hHeld ?_; refine zo 10 34 HT_ (fun K hK => ?_)
                         refine zg Try.func90 #[.agg #[.bool x701000_2, .int .u64 x701001_2, .int .u64 x701002_2, .int .i64 x702003_3]] ?_
                         with_reducible refine (intrusionref07_Block.calls x701000_2 x701001_2 x701002_2 x702003_3 t704 t705 t706 t707 t708 t709 _ A17.out).mono ?_
                         rintro e w57 ⟨rfl, hb⟩
                         have HS4_ := (hb.cell (World.block_lt_of_cell? _ _ (hHeld.2.2.2.2.1))).trans (hHeld.2.2.2.2.1)
                         have HS5_ := (hb.cell (World.block_lt_of_cell? _ _ (hHeld.2.2.2.2.2.1))).trans (hHeld.2.2.2.2.2.1)
                         have HS6_ := (hb.cell (World.block_lt_of_cell? _ _ (hHeld.2.2.2.2.2.2.1))).trans (hHeld.2.2.2.2.2.2.1)
                         have HS7_ := (hb.cell (World.block_lt_of_cell? _ _ (hHeld.2.2.2.2.2.2.2.1))).trans (hHeld.2.2.2.2.2.2.2.1)
                         have HS8_ := (hb.cell (World.block_lt_of_cell? _ _ (hHeld.2.2.2.2.2.2.2.2.1))).trans (hHeld.2.2.2.2.2.2.2.2.1)
                         have HS9_ := (hb.cell (World.block_lt_of_cell? _ _ (hHeld.2.2.2.2.2.2.2.2.2))).trans (hHeld.2.2.2.2.2.2.2.2.2)
                         refine ⟨_, rfl, ?_⟩
                         replace HO_3 := Aside0.mk (Kd.R_below (zR HO_3) hb)
                         replace HO_4 := Aside0.mk (Kd.R_below (zR HO_4) hb)
                         replace BK700 := Aside0.mk (blk_below (g := gb700) (o := .cells #[.bool x701000_2, .int .u64 x701001_2, .int .u64 x701002_2] 36 (0, 0)) (zK BK700) hb)
                         replace BK701 := Aside0.mk (blk_below (g := gb701) (o := .cells #[.bool x701000_2, .int .u64 x701001_2, .int .u64 x701002_2, .int .i64 x702003_3] 45 (0, 0)) (zK BK701) hb)
                         replace HB := Aside0.mk (below_step (zB HB) hb)
                         (try clear hb)
                         refine hK.out _ _ ⟨zc BK701 0, zc BK701 1, zc BK701 2, zc BK701 3, HS4_, HS5_, HS6_, HS7_, HS8_, HS9_⟩ (fun hHeld => ?_)
                         clear hK K
                         refine zn 34 ?_; refine zp 11 35 HT_ ?_; refine zo 12 36 HT_ (fun K hK => ?_)
                         refine zg Try.func80 #[.agg #[.bool ((rd_T66 t696 x5_1).f1.f0), .int .u64 ((rd_T66 t696 x5_1).f1.f1), .int .u64 ((rd_T66 t696 x5_1).f1.f2)], .agg #[.bool t707, .int .u64 t708, .int .u64 t709]] ?_
                         with_reducible refine (intrusionref07_Before.calls ((rd_T66 t696 x5_1).f1.f0) ((rd_T66 t696 x5_1).f1.f1) ((rd_T66 t696 x5_1).f1.f2) t707 t708 t709 false _ A18.out).mono ?_
                         rintro e w58 ⟨rfl, hb⟩
                         have HS4_ := (hb.cell (World.block_lt_of_cell? _ _ (hHeld.2.2.2.2.1))).trans (hHeld.2.2.2.2.1)
                         have HS5_ := (hb.cell (World.block_lt_of_cell? _ _ (hHeld.2.2.2.2.2.1))).trans (hHeld.2.2.2.2.2.1)
                         have HS6_ := (hb.cell (World.block_lt_of_cell? _ _ (hHeld.2.2.2.2.2.2.1))).trans (hHeld.2.2.2.2.2.2.1)
                         have HS7_ := (hb.cell (World.block_lt_of_cell? _ _ (hHeld.2.2.2.2.2.2.2.1))).trans (hHeld.2.2.2.2.2.2.2.1)
                         have HS8_ := (hb.cell (World.block_lt_of_cell? _ _ (hHeld.2.2.2.2.2.2.2.2.1))).trans (hHeld.2.2.2.2.2.2.2.2.1)
                         have HS9_ := (hb.cell (World.block_lt_of_cell? _ _ (hHeld.2.2.2.2.2.2.2.2.2))).trans (hHeld.2.2.2.2.2.2.2.2.2)
                         refine ⟨_, rfl, ?_⟩
                         replace HO_3 := Aside0.mk (Kd.R_below (zR HO_3) hb)
                         replace HO_4 := Aside0.mk (Kd.R_below (zR HO_4) hb)
                         replace BK700 := Aside0.mk (blk_below (g := gb700) (o := .cells #[.bool x701000_2, .int .u64 x701001_2, .int .u64 x701002_2] 36 (0, 0)) (zK BK700) hb)
                         replace BK701 := Aside0.mk (blk_below (g := gb701) (o := .cells #[.bool x701000_2, .int .u64 x701001_2, .int .u64 x701002_2, .int .i64 x702003_3] 45 (0, 0)) (zK BK701) hb)
                         replace HB := Aside0.mk (below_step (zB HB) hb)
                         (try clear hb)
                         refine hK.out _ _ ⟨zc BK701 0, zc BK701 1, zc BK701 2, zc BK701 3, HS4_, HS5_, HS6_, HS7_, HS8_, HS9_⟩ (fun hHeld => ?_)
                         clear hK K
                         refine zn 36 ?_; refine zp 13 37 HT_ ?_; refine zd HT_ ?_
                         have hnb59 := NB701_700.out
                         have hnc59 := NB700_701.out
                         obtain ⟨hcz60_0, hcz60_1, hcz60_2, hcz60_3⟩ := zc4 BK701
                         obtain ⟨hfz60_0, hfz60_1, hfz60_2, hfz60_3⟩ := zf4 BK701
                         try go_wp2_with (first | ((with_reducible refine gate_builtin (b := .append) (xs := #[.tmp 42, .tmp 44]) rfl ?_); at_builtin; refine Kd.R_append k45 (w0 := w) w.heap.size rfl (.tmp 42) (.tmp 44) 42 45 (.agg #[(.bool false), (.int .u64 0), (.int .u64 0), (.int .i64 0)]) 32 rfl Try.underlying42 info45 rfl (by decide) (by omega) u3 x3_2 (⟨(⟨x701000_2, x701001_2, x701002_2⟩ : S36), x702003_3⟩ : S45) [.bool x701000_2, .int .u64 x701001_2, .int .u64 x701002_2, .int .i64 x702003_3] (fun k_ => k_ ≠ gb701) (fun _ => False) rfl rfl ?aP (fun _ hk => hk.elim) ?aF ?aO ?aB ?aS ?aL ?_; (case aP => exact k45_mkM _ _ _ (⟨(⟨x701000_2, x701001_2, x701002_2⟩ : S36), x702003_3⟩ : S45)); (case aB => exact (zB HB)); (case aF => exact (fun k_ hk => Kd.freshB (g := gb701) (o := .cells #[.bool x701000_2, .int .u64 x701001_2, .int .u64 x701002_2, .int .i64 x702003_3] 45 (0, 0)) (zK BK701) k_ hk)); (case aO => exact (zR HO_3)); (case aS => exact (below_size (zB HB))); (case aL => have := LMc26.out; omega); intro v712 w61 ho hb hg hat; rw [← Ny711.out] at ho; replace HO_4 := Aside0.mk (Kd.R_over' (zR HO_4) (Kd.R_typed (zR HO_3)) (by decide) hg); replace BK700 := Aside0.mk (blk_grown (g := gb700) (o := .cells #[.bool x701000_2, .int .u64 x701001_2, .int .u64 x701002_2] 36 (0, 0)) (zK BK700) hg (Kd.R_ne HO_3.out BK700.out (by decide))); replace BK701 := Aside0.mk (blk_grown (g := gb701) (o := .cells #[.bool x701000_2, .int .u64 x701001_2, .int .u64 x701002_2, .int .i64 x702003_3] 45 (0, 0)) (zK BK701) hg (Kd.R_away HO_3.out (fun _ hk => hk))); replace HB := Aside0.mk (hb); have HO713 := Aside0.mk (ho); clear HO_3; clear ho hb hg hat; obtain ⟨Ao62, co62, eo62⟩ := Kd.R_slice HO713.out; subst eo62; obtain ⟨hcz63_0, hcz63_1, hcz63_2, hcz63_3⟩ := zc4 BK701; obtain ⟨hfz63_0, hfz63_1, hfz63_2, hfz63_3⟩ := zf4 BK701) | ((with_reducible refine gate_callee (f := 90) rfl ?_); refine goesL_ (some 50) rfl rfl Try.func90 (by kernel_rfl) rfl #[.agg #[.bool x701000_2, .int .u64 x701001_2, .int .u64 x701002_2, .int .i64 x702003_3]] rfl (by (try simp only [List.map_toArray, List.map_cons, List.map_nil]); first | done | rfl | (simp only [List.length_drop, List.length_take]; rfl)) ?_; (with_reducible refine (intrusionref07_Block.calls x701000_2 x701001_2 x701002_2 x702003_3 t714 t715 t716 t717 t718 t719 _ A36.out).mono ?_); rintro e w64 ⟨rfl, hb⟩; refine ⟨_, rfl, ?_⟩; replace HO_4 := Aside0.mk (Kd.R_below (zR HO_4) hb); replace HO713 := Aside0.mk (Kd.R_below (zR HO713) hb); replace BK700 := Aside0.mk (blk_below (g := gb700) (o := .cells #[.bool x701000_2, .int .u64 x701001_2, .int .u64 x701002_2] 36 (0, 0)) (zK BK700) hb); replace BK701 := Aside0.mk (blk_below (g := gb701) (o := .cells #[.bool x701000_2, .int .u64 x701001_2, .int .u64 x701002_2, .int .i64 x702003_3] 45 (0, 0)) (zK BK701) hb); replace HB := Aside0.mk (below_step (zB HB) hb); (try clear hb)) | ((with_reducible refine gate_dst (N := 8) rfl ?_); refine zx 8 #[.bool false, .int .u64 0, .int .u64 0] 36 ?_; intro gb720 hg w65 hbox hb; replace HO_4 := Aside0.mk (Kd.R_below (zR HO_4) hb); replace HO713 := Aside0.mk (Kd.R_below (zR HO713) hb); have BK720 := Aside0.mk (hbox); have GW720 := Aside0.mk ((by rw [hg]; exact (below_size (zB HB)) : w.heap.size ≤ gb720)); have GE720 := Aside0.mk ((by rw [hg]; exact (below_size (zB HB)) : w.heap.size ≤ gb720)); replace HB := Aside0.mk (below_step (zB HB) hb); have NB700_720 := Aside0.mk ((by rw [hg]; exact Nat.ne_of_lt (blk_lt (g := gb700) (o := .cells #[.bool x701000_2, .int .u64 x701001_2, .int .u64 x701002_2] 36 (0, 0)) (zK BK700)) : gb700 ≠ gb720)); have NB720_700 := Aside0.mk ((by rw [hg]; exact Nat.ne_of_gt (blk_lt (g := gb700) (o := .cells #[.bool x701000_2, .int .u64 x701001_2, .int .u64 x701002_2] 36 (0, 0)) (zK BK700)) : gb720 ≠ gb700)); replace BK700 := Aside0.mk (blk_below (g := gb700) (o := .cells #[.bool x701000_2, .int .u64 x701001_2, .int .u64 x701002_2] 36 (0, 0)) (zK BK700) hb); have NB701_720 := Aside0.mk ((by rw [hg]; exact Nat.ne_of_lt (blk_lt (g := gb701) (o := .cells #[.bool x701000_2, .int .u64 x701001_2, .int .u64 x701002_2, .int .i64 x702003_3] 45 (0, 0)) (zK BK701)) : gb701 ≠ gb720)); have NB720_701 := Aside0.mk ((by rw [hg]; exact Nat.ne_of_gt (blk_lt (g := gb701) (o := .cells #[.bool x701000_2, .int .u64 x701001_2, .int .u64 x701002_2, .int .i64 x702003_3] 45 (0, 0)) (zK BK701)) : gb720 ≠ gb701)); replace BK701 := Aside0.mk (blk_below (g := gb701) (o := .cells #[.bool x701000_2, .int .u64 x701001_2, .int .u64 x701002_2, .int .i64 x702003_3] 45 (0, 0)) (zK BK701) hb); clear hb hbox hg; have hnb66 := NB720_700.out; have hnc66 := NB700_720.out; have hnb67 := NB720_701.out; have hnc67 := NB701_720.out; obtain ⟨hcz68_0, hcz68_1, hcz68_2⟩ := zc3 BK720; obtain ⟨hfz68_0, hfz68_1, hfz68_2⟩ := zf3 BK720))
                         have n0_ : Aside0 (Kd.R k66 66 (((w65.setCell ⟨gb720, 0, none⟩ (.bool t717)).setCell ⟨gb720, 1, none⟩ (.int .u64 t718)).setCell ⟨gb720, 2, none⟩ (.int .u64 t719)) w.heap.size (fun _ => True) (.slice (some ad699) t696.length co6) t696) := ⟨by (with_reducible repeat (first | apply Kd.R_alloc | apply Kd.R_drewN | apply Kd.R_drew)); exact Kd.R_mono (Kd.R_far (p := ⟨gb720, 2, none⟩) (Kd.R_far (p := ⟨gb720, 1, none⟩) (Kd.R_far (p := ⟨gb720, 0, none⟩) (Kd.R_types HO_4.out BK720.out (by decide)) (fun _ hk => hk.2) (.bool t717)) (fun _ hk => hk.2) (.int .u64 t718)) (fun _ hk => hk.2) (.int .u64 t719)) (fun _ hk => trivial)⟩
                         have n1_ : Aside0 (Kd.R k45 45 (((w65.setCell ⟨gb720, 0, none⟩ (.bool t717)).setCell ⟨gb720, 1, none⟩ (.int .u64 t718)).setCell ⟨gb720, 2, none⟩ (.int .u64 t719)) w.heap.size (fun k_ => k_ ≠ gb701) (.slice Ao62 y711.length co62) y711) := ⟨by (with_reducible repeat (first | apply Kd.R_alloc | apply Kd.R_drewN | apply Kd.R_drew)); exact Kd.R_mono (Kd.R_far (p := ⟨gb720, 2, none⟩) (Kd.R_far (p := ⟨gb720, 1, none⟩) (Kd.R_far (p := ⟨gb720, 0, none⟩) (Kd.R_types HO713.out BK720.out (by decide)) (fun _ hk => hk.2) (.bool t717)) (fun _ hk => hk.2) (.int .u64 t718)) (fun _ hk => hk.2) (.int .u64 t719)) (fun _ hk => hk.1)⟩
                         have n2_ : Aside0 ((((w65.setCell ⟨gb720, 0, none⟩ (.bool t717)).setCell ⟨gb720, 1, none⟩ (.int .u64 t718)).setCell ⟨gb720, 2, none⟩ (.int .u64 t719)).heap[gb700]? = some (.cells #[.bool x701000_2, .int .u64 x701001_2, .int .u64 x701002_2] 36 (0, 0))) := ⟨by refine zL ?_; refine blk_far ?_ NB700_720.out _; refine zL ?_; refine blk_far ?_ NB700_720.out _; refine zL ?_; refine blk_far ?_ NB700_720.out _; refine zL ?_; exact BK700.out⟩
                         have n3_ : Aside0 ((((w65.setCell ⟨gb720, 0, none⟩ (.bool t717)).setCell ⟨gb720, 1, none⟩ (.int .u64 t718)).setCell ⟨gb720, 2, none⟩ (.int .u64 t719)).heap[gb701]? = some (.cells #[.bool x701000_2, .int .u64 x701001_2, .int .u64 x701002_2, .int .i64 x702003_3] 45 (0, 0))) := ⟨by refine zL ?_; refine blk_far ?_ NB701_720.out _; refine zL ?_; refine blk_far ?_ NB701_720.out _; refine zL ?_; refine blk_far ?_ NB701_720.out _; refine zL ?_; exact BK701.out⟩
                         have n4_ : Aside0 ((((w65.setCell ⟨gb720, 0, none⟩ (.bool t717)).setCell ⟨gb720, 1, none⟩ (.int .u64 t718)).setCell ⟨gb720, 2, none⟩ (.int .u64 t719)).heap[gb720]? = some (.cells #[.bool t717, .int .u64 t718, .int .u64 t719] 36 (0, 0))) := ⟨by refine zL ?_; refine blk_put (cs := #[.bool t717, .int .u64 t718, .int .u64 0]) ?_ 2 _ rfl; refine zL ?_; refine blk_put (cs := #[.bool t717, .int .u64 0, .int .u64 0]) ?_ 1 _ rfl; refine zL ?_; refine blk_put (cs := #[.bool false, .int .u64 0, .int .u64 0]) ?_ 0 _ rfl; refine zL ?_; exact BK720.out⟩
                         have n5_ : Aside0 (Below w.heap.size w (((w65.setCell ⟨gb720, 0, none⟩ (.bool t717)).setCell ⟨gb720, 1, none⟩ (.int .u64 t718)).setCell ⟨gb720, 2, none⟩ (.int .u64 t719))) := ⟨zB HB⟩
                         (try clear HO_4)
                         (try clear HO713)
                         (try clear BK700)
                         (try clear BK701)
                         (try clear BK720)
                         (try clear HB)
                         generalize (((w65.setCell ⟨gb720, 0, none⟩ (.bool t717)).setCell ⟨gb720, 1, none⟩ (.int .u64 t718)).setCell ⟨gb720, 2, none⟩ (.int .u64 t719)) = w69 at n0_ n1_ n2_ n3_ n4_ n5_ ⊢
                         have HO_4 := n0_
                         have HO713 := n1_
                         have BK700 := n2_
                         have BK701 := n3_
                         have BK720 := n4_
                         have HB := n5_
                         clear n0_ n1_ n2_ n3_ n4_ n5_
                         replace HO_4 := Aside0.mk (Kd.R_drew HO_4.out)
                         replace HO713 := Aside0.mk (Kd.R_drew HO713.out)
                         replace BK700 := Aside0.mk (blk_drew BK700.out)
                         replace BK701 := Aside0.mk (blk_drew BK701.out)
                         replace BK720 := Aside0.mk (blk_drew BK720.out)
                         replace HB := Aside0.mk (below_drew1 HB.out)
                         have p721 : 0 ≤ (x5_1 : Int) := za
                         have q721 : x5_1 < (t696.length : Int) := za
                         obtain ⟨ad721, e721, hx721_0, hx721_1, hx721_2, hx721_3, hx721_4, hx721_5⟩ := at_T66 (Kd.R_reads' HO_4.out).2.2 x5_1 p721 q721
                         obtain rfl : ad699 = ad721 := (by injection e721)
                         replace p721 := eq_true p721
                         replace q721 := eq_true q721
                         refine start_ (n := 7) (S := fun w' => w'.cell? ⟨gb720, 0, none⟩ = some (.bool t717) ∧ w'.cell? ⟨gb720, 1, none⟩ = some (.int .u64 t718) ∧ w'.cell? ⟨gb720, 2, none⟩ = some (.int .u64 t719) ∧ w'.cell? (ad699.add ((x5_1).toNat * 6)) = some (.bool ((rd_T66 t696 x5_1).f0.f0)) ∧ w'.cell? ⟨(ad699.add ((x5_1).toNat * 6)).block, (ad699.add ((x5_1).toNat * 6)).off + 1, none⟩ = some (.int .u64 ((rd_T66 t696 x5_1).f0.f1)) ∧ w'.cell? ⟨(ad699.add ((x5_1).toNat * 6)).block, (ad699.add ((x5_1).toNat * 6)).off + 2, none⟩ = some (.int .u64 ((rd_T66 t696 x5_1).f0.f2)) ∧ w'.cell? ⟨(ad699.add ((x5_1).toNat * 6)).block, (ad699.add ((x5_1).toNat * 6)).off + 3, none⟩ = some (.bool ((rd_T66 t696 x5_1).f1.f0)) ∧ w'.cell? ⟨(ad699.add ((x5_1).toNat * 6)).block, (ad699.add ((x5_1).toNat * 6)).off + 4, none⟩ = some (.int .u64 ((rd_T66 t696 x5_1).f1.f1)) ∧ w'.cell? ⟨(ad699.add ((x5_1).toNat * 6)).block, (ad699.add ((x5_1).toNat * 6)).off + 5, none⟩ = some (.int .u64 ((rd_T66 t696 x5_1).f1.f2))) (ds := []) #[false, false, false, false, false, false, false] (by kernel_rfl) rfl rfl ⟨zc BK720 0, zc BK720 1, zc BK720 2, hx721_0, hx721_1, hx721_2, hx721_3, hx721_4, hx721_5⟩ (fun hHeld => ?_)
                         generalize w69.drew = w70 at HO_4 HO713 BK700 BK701 BK720 HB hx721_0 hx721_1 hx721_2 hx721_3 hx721_4 hx721_5 hHeld ⊢
                         refine zp0 1 53 ?_; refine zp0 2 54 ?_; refine zp0 3 55 ?_; refine zp0 4 56 ?_; refine zt0 0 52 hHeld ?_; refine zt0 5 57 hHeld ?_; refine zp0 6 58 ?_; refine zd0 ?_
                         obtain ⟨hcz71_0, hcz71_1, hcz71_2⟩ := zc3 BK720
                         obtain ⟨hfz71_0, hfz71_1, hfz71_2⟩ := zf3 BK720
                         try go_wp2_with (first | ((with_reducible refine gate_callee (f := 91) rfl ?_); refine goesL_ (some 60) rfl rfl Try.func91 (by kernel_rfl) rfl #[.agg #[.bool t717, .int .u64 t718, .int .u64 t719]] rfl (by (try simp only [List.map_toArray, List.map_cons, List.map_nil]); first | done | rfl | (simp only [List.length_drop, List.length_take]; rfl)) ?_; (with_reducible refine (intrusionref07_After.calls t717 t718 t719 t722 t723 t724 _ A54.out).mono ?_); rintro e w72 ⟨rfl, hb⟩; refine ⟨_, rfl, ?_⟩; replace HO_4 := Aside0.mk (Kd.R_below (zR HO_4) hb); replace HO713 := Aside0.mk (Kd.R_below (zR HO713) hb); replace BK700 := Aside0.mk (blk_below (g := gb700) (o := .cells #[.bool x701000_2, .int .u64 x701001_2, .int .u64 x701002_2] 36 (0, 0)) (zK BK700) hb); replace BK701 := Aside0.mk (blk_below (g := gb701) (o := .cells #[.bool x701000_2, .int .u64 x701001_2, .int .u64 x701002_2, .int .i64 x702003_3] 45 (0, 0)) (zK BK701) hb); replace BK720 := Aside0.mk (blk_below (g := gb720) (o := .cells #[.bool t717, .int .u64 t718, .int .u64 t719] 36 (0, 0)) (zK BK720) hb); replace HB := Aside0.mk (below_step (zB HB) hb); (try clear hb); obtain ⟨hcz73_0, hcz73_1, hcz73_2⟩ := zc3 BK700; obtain ⟨hfz73_0, hfz73_1, hfz73_2⟩ := zf3 BK700))
                         go_roundg k3
                         case measure => have := HK1.out; have := HK2.out; have := HK3.out; omega
                         case rel => exact ⟨(y711), (t722), (t723), (t724), H', ⟨by have := HK1.out; have := HK2.out; have := HK3.out; omega⟩, ⟨by (with_reducible repeat (first | apply Kd.R_alloc | apply Kd.R_drewN | apply Kd.R_drew)); exact Kd.R_mono (Kd.R_far (p := ⟨gb700, 2, none⟩) (Kd.R_far (p := ⟨gb700, 1, none⟩) (Kd.R_far (p := ⟨gb700, 0, none⟩) (Kd.R_types HO713.out BK700.out (by decide)) (fun _ hk => hk.2) (.bool t722)) (fun _ hk => hk.2) (.int .u64 t723)) (fun _ hk => hk.2) (.int .u64 t724)) (fun _ hk => trivial)⟩, ⟨by (with_reducible repeat (first | apply Kd.R_alloc | apply Kd.R_drewN | apply Kd.R_drew)); exact Kd.R_mono (Kd.R_far (p := ⟨gb700, 2, none⟩) (Kd.R_far (p := ⟨gb700, 1, none⟩) (Kd.R_far (p := ⟨gb700, 0, none⟩) (Kd.R_types HO_4.out BK700.out (by decide)) (fun _ hk => hk.2) (.bool t722)) (fun _ hk => hk.2) (.int .u64 t723)) (fun _ hk => hk.2) (.int .u64 t724)) (fun _ hk => trivial)⟩, ⟨by refine zL ?_; refine blk_put (cs := #[.bool t722, .int .u64 t723, .int .u64 x701002_2]) ?_ 2 _ rfl; refine zL ?_; refine blk_put (cs := #[.bool t722, .int .u64 x701001_2, .int .u64 x701002_2]) ?_ 1 _ rfl; refine zL ?_; refine blk_put (cs := #[.bool x701000_2, .int .u64 x701001_2, .int .u64 x701002_2]) ?_ 0 _ rfl; refine zL ?_; exact BK700.out⟩, ⟨zB HB⟩⟩
                   · rw [if_neg c26] at H
                     exact absurd H (by simp)
               · rw [if_neg c16] at H
                 exact absurd H (by simp)
             · rw [if_neg c15] at H
               exact absurd H (by simp)
           · replace c14 := Bool.eq_false_iff.mpr c14
             subst c14
             rw [if_neg zF] at H
             have H' := Aside0.mk H
             clear H
             try go_wp2
             replace HO_3 := Aside0.mk (Kd.R_drew HO_3.out)
             replace HO_4 := Aside0.mk (Kd.R_drew HO_4.out)
             replace BK700 := Aside0.mk (blk_drew BK700.out)
             replace BK701 := Aside0.mk (blk_drew BK701.out)
             replace HB := Aside0.mk (below_drew1 HB.out)
             refine start_ (n := 14) (S := fun w' => w'.cell? ⟨gb701, 0, none⟩ = some (.bool x701000_2) ∧ w'.cell? ⟨gb701, 1, none⟩ = some (.int .u64 x701001_2) ∧ w'.cell? ⟨gb701, 2, none⟩ = some (.int .u64 x701002_2) ∧ w'.cell? ⟨gb701, 3, none⟩ = some (.int .i64 x702003_3)) (ds := []) #[false, false, false, false, false, false, false, false, false, false, false, false, false, false] (by kernel_rfl) rfl rfl ⟨zc BK701 0, zc BK701 1, zc BK701 2, zc BK701 3⟩ (fun hHeld => ?_); refine with_tabW intrusionref07_Prefixes.tab8 intrusionref07_Prefixes.bits8 (fun HT_ HW_ => ?_)
             generalize wr.drew = w74 at HO_3 HO_4 BK700 BK701 HB hHeld ⊢
             refine zt 0 24 HT_ HW_ hHeld ?_; refine zo 1 25 HT_ (fun K hK => ?_)
             refine zg Try.func89 #[.agg #[.bool x701000_2, .int .u64 x701001_2, .int .u64 x701002_2, .int .i64 x702003_3]] ?_
             with_reducible refine (intrusionref07_Right.calls k3 x701000_2 x701001_2 x701002_2 x702003_3 false _ A13.out).mono ?_
             rintro e w75 ⟨rfl, hb⟩
             refine ⟨_, rfl, ?_⟩
             replace HO_3 := Aside0.mk (Kd.R_below (zR HO_3) hb)
             replace HO_4 := Aside0.mk (Kd.R_below (zR HO_4) hb)
             replace BK700 := Aside0.mk (blk_below (g := gb700) (o := .cells #[.bool x701000_2, .int .u64 x701001_2, .int .u64 x701002_2] 36 (0, 0)) (zK BK700) hb)
             replace BK701 := Aside0.mk (blk_below (g := gb701) (o := .cells #[.bool x701000_2, .int .u64 x701001_2, .int .u64 x701002_2, .int .i64 x702003_3] 45 (0, 0)) (zK BK701) hb)
             replace HB := Aside0.mk (below_step (zB HB) hb)
             (try clear hb)
             refine hK.out _ _ ⟨zc BK701 0, zc BK701 1, zc BK701 2, zc BK701 3⟩ (fun hHeld => ?_)
             clear hK K
             refine zn 25 ?_; refine zp 2 26 HT_ ?_; refine zp 3 27 HT_ ?_; refine zu 4 28 HT_ ?_; refine zu 5 29 HT_ ?_; refine zu 6 30 HT_ ?_; refine zu 7 31 HT_ ?_; refine zu 8 32 HT_ ?_; refine zu 9 33 HT_ ?_; refine zu 10 34 HT_ ?_; refine zu 11 35 HT_ ?_; refine zu 12 36 HT_ ?_; refine zp 13 37 HT_ ?_; refine zd HT_ ?_
             have hnb76 := NB701_700.out
             have hnc76 := NB700_701.out
             obtain ⟨hcz77_0, hcz77_1, hcz77_2, hcz77_3⟩ := zc4 BK701
             obtain ⟨hfz77_0, hfz77_1, hfz77_2, hfz77_3⟩ := zf4 BK701
             try go_wp2
             go_roundg k3
             case measure => have := HK1.out; have := HK2.out; have := HK3.out; omega
             case rel => exact ⟨(wrap64 (x702003_3 + 1)), H', ⟨by have := HK1.out; have := HK2.out; have := HK3.out; omega⟩, ⟨by (with_reducible repeat (first | apply Kd.R_alloc | apply Kd.R_drewN | apply Kd.R_drew)); exact Kd.R_mono (Kd.R_far (p := ⟨gb701, 3, none⟩) (Kd.R_mono HO_3.out (fun k_ hk => (⟨hk, hk⟩ : _ ∧ k_ ≠ gb701))) (fun _ hk => hk.2) (.int .i64 (wrap64 (x702003_3 + 1)))) (fun _ hk => hk.1)⟩, ⟨by (with_reducible repeat (first | apply Kd.R_alloc | apply Kd.R_drewN | apply Kd.R_drew)); exact Kd.R_mono (Kd.R_far (p := ⟨gb701, 3, none⟩) (Kd.R_types HO_4.out BK701.out (by decide)) (fun _ hk => hk.2) (.int .i64 (wrap64 (x702003_3 + 1)))) (fun _ hk => trivial)⟩, ⟨by refine zL ?_; refine blk_far ?_ NB700_701.out _; refine zL ?_; exact BK700.out⟩, ⟨by refine zL ?_; refine blk_put (cs := #[.bool x701000_2, .int .u64 x701001_2, .int .u64 x701002_2, .int .i64 x702003_3]) ?_ 3 _ rfl; refine zL ?_; exact BK701.out⟩, ⟨zB HB⟩⟩
     · rw [if_neg c5] at H
       exact absurd H (by simp)
   · rw [if_neg c4] at H
     have c4b0 : decide (x5_1 < (t696.length : Int)) = false := decide_eq_false c4
     clear c4
     obtain rfl := Option.some.inj H
     obtain ⟨Ao78, co78, eo78⟩ := Kd.R_slice HO_4.out
     subst eo78
     go_wp2
     go_ret
     exact ⟨_, by first | rfl | (simp [errW_none, errW_some] <;> rfl) | (simp [*, errW_none, errW_some] <;> rfl), by (with_reducible repeat (first | apply Kd.R_alloc | apply Kd.R_drewN | apply Kd.R_drew)); exact HO_3.out, by repeat (first | (with_reducible first | exact HB.out | apply below_alloc | apply pw_below_drewN | apply below_drew1) | exact HB.out)⟩
end Go.Proofs.Ytcgfpffgiimgmaa.Q
end

section
namespace Go.Proofs.Ytcgfpffgiimgmaa.Q
open Go.RowKit Go.Proofs.YtcgfpffgiimgmaaW.PrintWords Go.Proofs.YtcgfpffgiimgmaaW.PrintLast Go.Proofs.YtcgfpffgiimgmaaW.PrintMore
attribute [local go_sem] max2_int min2_int max_two min_two max_three min_three max_four min_four
set_option linter.unusedVariables false
set_option linter.unusedSimpArgs false
def address_ValidPrefix.f (a0_0 : Bool) (a0_1 : Int) (a0_2 : Int) (a0_3 : Int) : Option (Bool) := (address_Valid.f a0_0 a0_1 a0_2).bind fun t726 => (if t726 = true then (if a0_3 < 0 then (some false) else ((address_size.f a0_0 a0_1 a0_2).bind fun t727 => (if a0_3 > t727 then (some false) else ((address_mask.f a0_0 a0_1 a0_2 a0_3).bind fun bt728 => (if (Go.bits .and .u64 a0_1 bt728.1) = 0 then (some ((Go.bits .and .u64 a0_2 bt728.2) == 0)) else (some false)))))) else (some false))
def address_ValidPrefix.T1 : Bool × List (List Nat × List Nat) := (true, [([], []), ([0], [0]), ([1], [1]), ([2], [2]), ([3, 2], [3]), ([4], [4]), ([5, 4], [4, 5]), ([6, 4], [4, 6]), ([4, 7], [4, 7]), ([8, 4], [8]), ([9], [9]), ([10, 9], [9, 10]), ([9], [9]), ([12, 9], [9, 12]), ([13, 9, 9], [9, 13]), ([11, 14, 9], [9, 11, 14]), ([9, 15], [9, 15])])
def address_ValidPrefix.B1 : List Nat := [0, 1, 3, 7, 15, 31, 63, 127, 255, 511, 1023, 2047, 1023, 5119, 13311, 32767, 65535]
theorem address_ValidPrefix.tab1 : rtab .any (opsOf Try.f92 1) = address_ValidPrefix.T1 := by kernel_rfl
theorem address_ValidPrefix.bits1 : waitsOk address_ValidPrefix.T1.2 address_ValidPrefix.B1 = true := by kernel_rfl
set_option maxHeartbeats 8000000 in
set_option maxRecDepth 100000 in
theorem address_ValidPrefix.calls (a0_0 : Bool) (a0_1 : Int) (a0_2 : Int) (a0_3 : Int) (r : Bool) (w : World) (h : address_ValidPrefix.f a0_0 a0_1 a0_2 a0_3 = some r) :
 Calls Try.prog 92 #[.agg #[.bool a0_0, .int .u64 a0_1, .int .u64 a0_2, .int .i64 a0_3]] w fun e w' => e = .returned (.bool r) ∧ Below w.heap.size w w' := by
 have hu45 := Try.underlying45
 have hu36 := Try.underlying36
 have HB := Aside0.mk (Below.refl w.heap.size w)
 unfold address_ValidPrefix.f at h; have H := h
 clear h
 replace H := Option.bind_eq_some_iff.mp H
 obtain ⟨t726, A20, H⟩ := H
 try dsimp only at H
 have A2 := Aside0.mk A20
 clear A20
 by_cases c3 : t726 = true
 · subst c3
   rw [if_pos rfl] at H
   by_cases c4 : a0_3 < 0
   · rw [if_pos c4] at H
     have c4b0 : decide (a0_3 < 0) = true := decide_eq_true c4
     clear c4
     obtain rfl := Option.some.inj H
     go_enter Try.func92, Try.ntmps92
     try go_wp2_with (first | ((with_reducible refine gate_dst (N := 1) rfl ?_); refine zx 1 #[.bool a0_0, .int .u64 a0_1, .int .u64 a0_2, .int .i64 a0_3] 45 ?_; intro gb725 hg w5 hbox hb; have BK725 := Aside0.mk (hbox); have GW725 := Aside0.mk ((by rw [hg]; exact (below_size (zB HB)) : w.heap.size ≤ gb725)); have GE725 := Aside0.mk ((by rw [hg]; exact (below_size (zB HB)) : w.heap.size ≤ gb725)); replace HB := Aside0.mk (below_step (zB HB) hb); clear hb hbox hg))
     replace BK725 := Aside0.mk (blk_drew BK725.out)
     replace HB := Aside0.mk (below_drew1 HB.out)
     refine start_ (n := 17) (S := fun w' => w'.cell? ⟨gb725, 0, none⟩ = some (.bool a0_0) ∧ w'.cell? ⟨gb725, 1, none⟩ = some (.int .u64 a0_1) ∧ w'.cell? ⟨gb725, 2, none⟩ = some (.int .u64 a0_2) ∧ w'.cell? ⟨gb725, 3, none⟩ = some (.int .i64 a0_3)) (ds := []) #[false, false, false, false, false, false, false, false, false, false, false, false, false, false, false, false, false] (by kernel_rfl) rfl rfl ⟨zc BK725 0, zc BK725 1, zc BK725 2, zc BK725 3⟩ (fun hHeld => ?_); refine with_tabW address_ValidPrefix.tab1 address_ValidPrefix.bits1 (fun HT_ HW_ => ?_)
     generalize w5.drew = w6 at BK725 HB hHeld ⊢
     refine zp 0 5 HT_ ?_; refine zt 1 6 HT_ HW_ hHeld ?_; refine zo 2 7 HT_ (fun K hK => ?_)
     refine zg Try.func82 #[.agg #[.bool a0_0, .int .u64 a0_1, .int .u64 a0_2]] ?_
     with_reducible refine (address_Valid.calls a0_0 a0_1 a0_2 true _ A2.out).mono ?_
     rintro e w7 ⟨rfl, hb⟩
     refine ⟨_, rfl, ?_⟩
     replace BK725 := Aside0.mk (blk_below (g := gb725) (o := .cells #[.bool a0_0, .int .u64 a0_1, .int .u64 a0_2, .int .i64 a0_3] 45 (0, 0)) (zK BK725) hb)
     replace HB := Aside0.mk (below_step (zB HB) hb)
     (try clear hb)
     refine hK.out _ _ ⟨zc BK725 0, zc BK725 1, zc BK725 2, zc BK725 3⟩ (fun hHeld => ?_)
     clear hK K
     refine zn 7 ?_; refine zp 3 8 HT_ ?_; refine zp 4 9 HT_ ?_; refine zp 5 10 HT_ ?_; refine zt 6 11 HT_ HW_ hHeld ?_; refine zp 7 12 HT_ ?_; refine zp 8 13 HT_ ?_; refine zp 9 14 HT_ ?_; refine zu 10 15 HT_ ?_; refine zu 11 16 HT_ ?_; refine zu 12 17 HT_ ?_; refine zu 13 18 HT_ ?_; refine zu 14 19 HT_ ?_; refine zu 15 20 HT_ ?_; refine zp 16 21 HT_ ?_; refine zd HT_ ?_
     try go_wp2
     go_ret
     exact ⟨by first | rfl | (simp [errW_none, errW_some] <;> rfl) | (simp [*, errW_none, errW_some] <;> rfl), by repeat (first | (with_reducible first | exact HB.out | apply below_alloc | apply pw_below_drewN | apply below_drew1 | refine below_set ?_ GE725.out) | exact HB.out)⟩
   · rw [if_neg c4] at H
     have c4b0 : decide (a0_3 < 0) = false := decide_eq_false c4
     clear c4
     replace H := Option.bind_eq_some_iff.mp H
     obtain ⟨t727, A80, H⟩ := H
     try dsimp only at H
     have A8 := Aside0.mk A80
     clear A80
     by_cases c9 : a0_3 > t727
     · rw [if_pos c9] at H
       have c9b0 : decide (t727 < a0_3) = true := decide_eq_true c9
       clear c9
       obtain rfl := Option.some.inj H
       go_enter Try.func92, Try.ntmps92
       try go_wp2_with (first | ((with_reducible refine gate_dst (N := 1) rfl ?_); refine zx 1 #[.bool a0_0, .int .u64 a0_1, .int .u64 a0_2, .int .i64 a0_3] 45 ?_; intro gb725 hg w10 hbox hb; have BK725 := Aside0.mk (hbox); have GW725 := Aside0.mk ((by rw [hg]; exact (below_size (zB HB)) : w.heap.size ≤ gb725)); have GE725 := Aside0.mk ((by rw [hg]; exact (below_size (zB HB)) : w.heap.size ≤ gb725)); replace HB := Aside0.mk (below_step (zB HB) hb); clear hb hbox hg))
       replace BK725 := Aside0.mk (blk_drew BK725.out)
       replace HB := Aside0.mk (below_drew1 HB.out)
       refine start_ (n := 17) (S := fun w' => w'.cell? ⟨gb725, 0, none⟩ = some (.bool a0_0) ∧ w'.cell? ⟨gb725, 1, none⟩ = some (.int .u64 a0_1) ∧ w'.cell? ⟨gb725, 2, none⟩ = some (.int .u64 a0_2) ∧ w'.cell? ⟨gb725, 3, none⟩ = some (.int .i64 a0_3)) (ds := []) #[false, false, false, false, false, false, false, false, false, false, false, false, false, false, false, false, false] (by kernel_rfl) rfl rfl ⟨zc BK725 0, zc BK725 1, zc BK725 2, zc BK725 3⟩ (fun hHeld => ?_); refine with_tabW address_ValidPrefix.tab1 address_ValidPrefix.bits1 (fun HT_ HW_ => ?_)
       generalize w10.drew = w11 at BK725 HB hHeld ⊢
       refine zp 0 5 HT_ ?_; refine zt 1 6 HT_ HW_ hHeld ?_; refine zo 2 7 HT_ (fun K hK => ?_)
       refine zg Try.func82 #[.agg #[.bool a0_0, .int .u64 a0_1, .int .u64 a0_2]] ?_
       with_reducible refine (address_Valid.calls a0_0 a0_1 a0_2 true _ A2.out).mono ?_
       rintro e w12 ⟨rfl, hb⟩
       refine ⟨_, rfl, ?_⟩
       replace BK725 := Aside0.mk (blk_below (g := gb725) (o := .cells #[.bool a0_0, .int .u64 a0_1, .int .u64 a0_2, .int .i64 a0_3] 45 (0, 0)) (zK BK725) hb)
       replace HB := Aside0.mk (below_step (zB HB) hb)
       (try clear hb)
       refine hK.out _ _ ⟨zc BK725 0, zc BK725 1, zc BK725 2, zc BK725 3⟩ (fun hHeld => ?_)
       clear hK K
       refine zn 7 ?_; refine zp 3 8 HT_ ?_; refine zp 4 9 HT_ ?_; refine zp 5 10 HT_ ?_; refine zt 6 11 HT_ HW_ hHeld ?_; refine zp 7 12 HT_ ?_; refine zp 8 13 HT_ ?_; refine zp 9 14 HT_ ?_; refine zp 10 15 HT_ ?_; refine zp 12 17 HT_ ?_; refine zt 11 16 HT_ HW_ hHeld ?_; refine zt 13 18 HT_ HW_ hHeld ?_; refine zo 14 19 HT_ (fun K hK => ?_)
       refine zg Try.func113 #[.agg #[.bool a0_0, .int .u64 a0_1, .int .u64 a0_2]] ?_
       with_reducible refine (address_size.calls a0_0 a0_1 a0_2 t727 _ A8.out).mono ?_
       rintro e w13 ⟨rfl, hb⟩
       refine ⟨_, rfl, ?_⟩
       replace BK725 := Aside0.mk (blk_below (g := gb725) (o := .cells #[.bool a0_0, .int .u64 a0_1, .int .u64 a0_2, .int .i64 a0_3] 45 (0, 0)) (zK BK725) hb)
       replace HB := Aside0.mk (below_step (zB HB) hb)
       (try clear hb)
       refine hK.out _ _ ⟨zc BK725 0, zc BK725 1, zc BK725 2, zc BK725 3⟩ (fun hHeld => ?_)
       clear hK K
       refine zn 19 ?_; refine zp 15 20 HT_ ?_; refine zp 16 21 HT_ ?_; refine zd HT_ ?_
       try go_wp2
       go_ret
       exact ⟨by first | rfl | (simp [errW_none, errW_some] <;> rfl) | (simp [*, errW_none, errW_some] <;> rfl), by repeat (first | (with_reducible first | exact HB.out | apply below_alloc | apply pw_below_drewN | apply below_drew1 | refine below_set ?_ GE725.out) | exact HB.out)⟩
     · rw [if_neg c9] at H
       have c9b0 : decide (t727 < a0_3) = false := decide_eq_false c9
       clear c9
       replace H := Option.bind_eq_some_iff.mp H
       obtain ⟨⟨t728, t729⟩, A140, H⟩ := H
       try dsimp only at H
       have A14 := Aside0.mk A140
       clear A140
       by_cases c15 : (Go.bits .and .u64 a0_1 t728) = 0
       · rw [if_pos c15] at H
         have c15b0 : ((Go.bits .and .u64 a0_1 t728) == 0) = true := beq_iff_eq.mpr c15
         have c15b1 : ((Go.bits .and .u64 a0_1 t728) != 0) = false := bne_eq_false_iff_eq.mpr c15
         clear c15
         obtain rfl := Option.some.inj H
         go_enter Try.func92, Try.ntmps92
         try go_wp2_with (first | ((with_reducible refine gate_dst (N := 1) rfl ?_); refine zx 1 #[.bool a0_0, .int .u64 a0_1, .int .u64 a0_2, .int .i64 a0_3] 45 ?_; intro gb725 hg w16 hbox hb; have BK725 := Aside0.mk (hbox); have GW725 := Aside0.mk ((by rw [hg]; exact (below_size (zB HB)) : w.heap.size ≤ gb725)); have GE725 := Aside0.mk ((by rw [hg]; exact (below_size (zB HB)) : w.heap.size ≤ gb725)); replace HB := Aside0.mk (below_step (zB HB) hb); clear hb hbox hg))
         replace BK725 := Aside0.mk (blk_drew BK725.out)
         replace HB := Aside0.mk (below_drew1 HB.out)
         refine start_ (n := 17) (S := fun w' => w'.cell? ⟨gb725, 0, none⟩ = some (.bool a0_0) ∧ w'.cell? ⟨gb725, 1, none⟩ = some (.int .u64 a0_1) ∧ w'.cell? ⟨gb725, 2, none⟩ = some (.int .u64 a0_2) ∧ w'.cell? ⟨gb725, 3, none⟩ = some (.int .i64 a0_3)) (ds := []) #[false, false, false, false, false, false, false, false, false, false, false, false, false, false, false, false, false] (by kernel_rfl) rfl rfl ⟨zc BK725 0, zc BK725 1, zc BK725 2, zc BK725 3⟩ (fun hHeld => ?_); refine with_tabW address_ValidPrefix.tab1 address_ValidPrefix.bits1 (fun HT_ HW_ => ?_)
         generalize w16.drew = w17 at BK725 HB hHeld ⊢
         refine zp 0 5 HT_ ?_; refine zt 1 6 HT_ HW_ hHeld ?_; refine zo 2 7 HT_ (fun K hK => ?_)
         refine zg Try.func82 #[.agg #[.bool a0_0, .int .u64 a0_1, .int .u64 a0_2]] ?_
         with_reducible refine (address_Valid.calls a0_0 a0_1 a0_2 true _ A2.out).mono ?_
         rintro e w18 ⟨rfl, hb⟩
         refine ⟨_, rfl, ?_⟩
         replace BK725 := Aside0.mk (blk_below (g := gb725) (o := .cells #[.bool a0_0, .int .u64 a0_1, .int .u64 a0_2, .int .i64 a0_3] 45 (0, 0)) (zK BK725) hb)
         replace HB := Aside0.mk (below_step (zB HB) hb)
         (try clear hb)
         refine hK.out _ _ ⟨zc BK725 0, zc BK725 1, zc BK725 2, zc BK725 3⟩ (fun hHeld => ?_)
         clear hK K
         refine zn 7 ?_; refine zp 3 8 HT_ ?_; refine zp 4 9 HT_ ?_; refine zp 5 10 HT_ ?_; refine zt 6 11 HT_ HW_ hHeld ?_; refine zp 7 12 HT_ ?_; refine zp 8 13 HT_ ?_; refine zp 9 14 HT_ ?_; refine zp 10 15 HT_ ?_; refine zp 12 17 HT_ ?_; refine zt 11 16 HT_ HW_ hHeld ?_; refine zt 13 18 HT_ HW_ hHeld ?_; refine zo 14 19 HT_ (fun K hK => ?_)
         refine zg Try.func113 #[.agg #[.bool a0_0, .int .u64 a0_1, .int .u64 a0_2]] ?_
         with_reducible refine (address_size.calls a0_0 a0_1 a0_2 t727 _ A8.out).mono ?_
         rintro e w19 ⟨rfl, hb⟩
         refine ⟨_, rfl, ?_⟩
         replace BK725 := Aside0.mk (blk_below (g := gb725) (o := .cells #[.bool a0_0, .int .u64 a0_1, .int .u64 a0_2, .int .i64 a0_3] 45 (0, 0)) (zK BK725) hb)
         replace HB := Aside0.mk (below_step (zB HB) hb)
         (try clear hb)
         refine hK.out _ _ ⟨zc BK725 0, zc BK725 1, zc BK725 2, zc BK725 3⟩ (fun hHeld => ?_)
         clear hK K
         refine zn 19 ?_; refine zp 15 20 HT_ ?_; refine zp 16 21 HT_ ?_; refine zd HT_ ?_
         obtain ⟨hcz20_0, hcz20_1, hcz20_2, hcz20_3⟩ := zc4 BK725
         obtain ⟨hfz20_0, hfz20_1, hfz20_2, hfz20_3⟩ := zf4 BK725
         try go_wp2_with (first | ((with_reducible refine gate_callee (f := 109) rfl ?_); refine goesL_ (some 27) rfl rfl Try.func109 (by kernel_rfl) rfl #[.agg #[.bool a0_0, .int .u64 a0_1, .int .u64 a0_2], .int .i64 a0_3] rfl (by (try simp only [List.map_toArray, List.map_cons, List.map_nil]); first | done | rfl | (simp only [List.length_drop, List.length_take]; rfl)) ?_; (with_reducible refine (address_mask.calls a0_0 a0_1 a0_2 a0_3 t728 t729 _ A14.out).mono ?_); rintro e w21 ⟨rfl, hb⟩; refine ⟨_, rfl, ?_⟩; replace BK725 := Aside0.mk (blk_below (g := gb725) (o := .cells #[.bool a0_0, .int .u64 a0_1, .int .u64 a0_2, .int .i64 a0_3] 45 (0, 0)) (zK BK725) hb); replace HB := Aside0.mk (below_step (zB HB) hb); (try clear hb); obtain ⟨hcz22_0, hcz22_1, hcz22_2, hcz22_3⟩ := zc4 BK725; obtain ⟨hfz22_0, hfz22_1, hfz22_2, hfz22_3⟩ := zf4 BK725))
         go_ret
         exact ⟨by first | rfl | (simp [errW_none, errW_some] <;> rfl) | (simp [*, errW_none, errW_some] <;> rfl), by repeat (first | (with_reducible first | exact HB.out | apply below_alloc | apply pw_below_drewN | apply below_drew1 | refine below_set ?_ GE725.out) | exact HB.out)⟩
       · rw [if_neg c15] at H
         have c15b0 : ((Go.bits .and .u64 a0_1 t728) == 0) = false := beq_eq_false_iff_ne.mpr c15
         have c15b1 : ((Go.bits .and .u64 a0_1 t728) != 0) = true := bne_iff_ne.mpr c15
         obtain rfl := Option.some.inj H
         go_enter Try.func92, Try.ntmps92
         try go_wp2_with (first | ((with_reducible refine gate_dst (N := 1) rfl ?_); refine zx 1 #[.bool a0_0, .int .u64 a0_1, .int .u64 a0_2, .int .i64 a0_3] 45 ?_; intro gb725 hg w23 hbox hb; have BK725 := Aside0.mk (hbox); have GW725 := Aside0.mk ((by rw [hg]; exact (below_size (zB HB)) : w.heap.size ≤ gb725)); have GE725 := Aside0.mk ((by rw [hg]; exact (below_size (zB HB)) : w.heap.size ≤ gb725)); replace HB := Aside0.mk (below_step (zB HB) hb); clear hb hbox hg))
         replace BK725 := Aside0.mk (blk_drew BK725.out)
         replace HB := Aside0.mk (below_drew1 HB.out)
         refine start_ (n := 17) (S := fun w' => w'.cell? ⟨gb725, 0, none⟩ = some (.bool a0_0) ∧ w'.cell? ⟨gb725, 1, none⟩ = some (.int .u64 a0_1) ∧ w'.cell? ⟨gb725, 2, none⟩ = some (.int .u64 a0_2) ∧ w'.cell? ⟨gb725, 3, none⟩ = some (.int .i64 a0_3)) (ds := []) #[false, false, false, false, false, false, false, false, false, false, false, false, false, false, false, false, false] (by kernel_rfl) rfl rfl ⟨zc BK725 0, zc BK725 1, zc BK725 2, zc BK725 3⟩ (fun hHeld => ?_); refine with_tabW address_ValidPrefix.tab1 address_ValidPrefix.bits1 (fun HT_ HW_ => ?_)
         generalize w23.drew = w24 at BK725 HB hHeld ⊢
         refine zp 0 5 HT_ ?_; refine zt 1 6 HT_ HW_ hHeld ?_; refine zo 2 7 HT_ (fun K hK => ?_)
         refine zg Try.func82 #[.agg #[.bool a0_0, .int .u64 a0_1, .int .u64 a0_2]] ?_
         with_reducible refine (address_Valid.calls a0_0 a0_1 a0_2 true _ A2.out).mono ?_
         rintro e w25 ⟨rfl, hb⟩
         refine ⟨_, rfl, ?_⟩
         replace BK725 := Aside0.mk (blk_below (g := gb725) (o := .cells #[.bool a0_0, .int .u64 a0_1, .int .u64 a0_2, .int .i64 a0_3] 45 (0, 0)) (zK BK725) hb)
         replace HB := Aside0.mk (below_step (zB HB) hb)
         (try clear hb)
         refine hK.out _ _ ⟨zc BK725 0, zc BK725 1, zc BK725 2, zc BK725 3⟩ (fun hHeld => ?_)
         clear hK K
         refine zn 7 ?_; refine zp 3 8 HT_ ?_; refine zp 4 9 HT_ ?_; refine zp 5 10 HT_ ?_; refine zt 6 11 HT_ HW_ hHeld ?_; refine zp 7 12 HT_ ?_; refine zp 8 13 HT_ ?_; refine zp 9 14 HT_ ?_; refine zp 10 15 HT_ ?_; refine zp 12 17 HT_ ?_; refine zt 11 16 HT_ HW_ hHeld ?_; refine zt 13 18 HT_ HW_ hHeld ?_; refine zo 14 19 HT_ (fun K hK => ?_)
         refine zg Try.func113 #[.agg #[.bool a0_0, .int .u64 a0_1, .int .u64 a0_2]] ?_
         with_reducible refine (address_size.calls a0_0 a0_1 a0_2 t727 _ A8.out).mono ?_
         rintro e w26 ⟨rfl, hb⟩
         refine ⟨_, rfl, ?_⟩
         replace BK725 := Aside0.mk (blk_below (g := gb725) (o := .cells #[.bool a0_0, .int .u64 a0_1, .int .u64 a0_2, .int .i64 a0_3] 45 (0, 0)) (zK BK725) hb)
         replace HB := Aside0.mk (below_step (zB HB) hb)
         (try clear hb)
         refine hK.out _ _ ⟨zc BK725 0, zc BK725 1, zc BK725 2, zc BK725 3⟩ (fun hHeld => ?_)
         clear hK K
         refine zn 19 ?_; refine zp 15 20 HT_ ?_; refine zp 16 21 HT_ ?_; refine zd HT_ ?_
         obtain ⟨hcz27_0, hcz27_1, hcz27_2, hcz27_3⟩ := zc4 BK725
         obtain ⟨hfz27_0, hfz27_1, hfz27_2, hfz27_3⟩ := zf4 BK725
         try go_wp2_with (first | ((with_reducible refine gate_callee (f := 109) rfl ?_); refine goesL_ (some 27) rfl rfl Try.func109 (by kernel_rfl) rfl #[.agg #[.bool a0_0, .int .u64 a0_1, .int .u64 a0_2], .int .i64 a0_3] rfl (by (try simp only [List.map_toArray, List.map_cons, List.map_nil]); first | done | rfl | (simp only [List.length_drop, List.length_take]; rfl)) ?_; (with_reducible refine (address_mask.calls a0_0 a0_1 a0_2 a0_3 t728 t729 _ A14.out).mono ?_); rintro e w28 ⟨rfl, hb⟩; refine ⟨_, rfl, ?_⟩; replace BK725 := Aside0.mk (blk_below (g := gb725) (o := .cells #[.bool a0_0, .int .u64 a0_1, .int .u64 a0_2, .int .i64 a0_3] 45 (0, 0)) (zK BK725) hb); replace HB := Aside0.mk (below_step (zB HB) hb); (try clear hb); obtain ⟨hcz29_0, hcz29_1, hcz29_2, hcz29_3⟩ := zc4 BK725; obtain ⟨hfz29_0, hfz29_1, hfz29_2, hfz29_3⟩ := zf4 BK725))
         go_ret
         exact ⟨by first | rfl | (simp [errW_none, errW_some] <;> rfl) | (simp [*, errW_none, errW_some] <;> rfl), by repeat (first | (with_reducible first | exact HB.out | apply below_alloc | apply pw_below_drewN | apply below_drew1 | refine below_set ?_ GE725.out) | exact HB.out)⟩
 · replace c3 := Bool.eq_false_iff.mpr c3
   subst c3
   rw [if_neg zF] at H
   obtain rfl := Option.some.inj H
   go_enter Try.func92, Try.ntmps92
   try go_wp2_with (first | ((with_reducible refine gate_dst (N := 1) rfl ?_); refine zx 1 #[.bool a0_0, .int .u64 a0_1, .int .u64 a0_2, .int .i64 a0_3] 45 ?_; intro gb725 hg w30 hbox hb; have BK725 := Aside0.mk (hbox); have GW725 := Aside0.mk ((by rw [hg]; exact (below_size (zB HB)) : w.heap.size ≤ gb725)); have GE725 := Aside0.mk ((by rw [hg]; exact (below_size (zB HB)) : w.heap.size ≤ gb725)); replace HB := Aside0.mk (below_step (zB HB) hb); clear hb hbox hg))
   replace BK725 := Aside0.mk (blk_drew BK725.out)
   replace HB := Aside0.mk (below_drew1 HB.out)
   refine start_ (n := 17) (S := fun w' => w'.cell? ⟨gb725, 0, none⟩ = some (.bool a0_0) ∧ w'.cell? ⟨gb725, 1, none⟩ = some (.int .u64 a0_1) ∧ w'.cell? ⟨gb725, 2, none⟩ = some (.int .u64 a0_2) ∧ w'.cell? ⟨gb725, 3, none⟩ = some (.int .i64 a0_3)) (ds := []) #[false, false, false, false, false, false, false, false, false, false, false, false, false, false, false, false, false] (by kernel_rfl) rfl rfl ⟨zc BK725 0, zc BK725 1, zc BK725 2, zc BK725 3⟩ (fun hHeld => ?_); refine with_tabW address_ValidPrefix.tab1 address_ValidPrefix.bits1 (fun HT_ HW_ => ?_)
   generalize w30.drew = w31 at BK725 HB hHeld ⊢
   refine zp 0 5 HT_ ?_; refine zt 1 6 HT_ HW_ hHeld ?_; refine zo 2 7 HT_ (fun K hK => ?_)
   refine zg Try.func82 #[.agg #[.bool a0_0, .int .u64 a0_1, .int .u64 a0_2]] ?_
   with_reducible refine (address_Valid.calls a0_0 a0_1 a0_2 false _ A2.out).mono ?_
   rintro e w32 ⟨rfl, hb⟩
   refine ⟨_, rfl, ?_⟩
   replace BK725 := Aside0.mk (blk_below (g := gb725) (o := .cells #[.bool a0_0, .int .u64 a0_1, .int .u64 a0_2, .int .i64 a0_3] 45 (0, 0)) (zK BK725) hb)
   replace HB := Aside0.mk (below_step (zB HB) hb)
   (try clear hb)
   refine hK.out _ _ ⟨zc BK725 0, zc BK725 1, zc BK725 2, zc BK725 3⟩ (fun hHeld => ?_)
   clear hK K
   refine zn 7 ?_; refine zp 3 8 HT_ ?_; refine zp 4 9 HT_ ?_; refine zu 5 10 HT_ ?_; refine zu 6 11 HT_ ?_; refine zu 7 12 HT_ ?_; refine zp 8 13 HT_ ?_; refine zp 9 14 HT_ ?_; refine zu 10 15 HT_ ?_; refine zu 11 16 HT_ ?_; refine zu 12 17 HT_ ?_; refine zu 13 18 HT_ ?_; refine zu 14 19 HT_ ?_; refine zu 15 20 HT_ ?_; refine zp 16 21 HT_ ?_; refine zd HT_ ?_
   try go_wp2
   go_ret
   exact ⟨by first | rfl | (simp [errW_none, errW_some] <;> rfl) | (simp [*, errW_none, errW_some] <;> rfl), by repeat (first | (with_reducible first | exact HB.out | apply below_alloc | apply pw_below_drewN | apply below_drew1 | refine below_set ?_ GE725.out) | exact HB.out)⟩
end Go.Proofs.Ytcgfpffgiimgmaa.Q
end

section
set_option linter.unusedVariables false
set_option linter.unusedSimpArgs false
namespace Go.Proofs.Ytcgfpffgiimgmaa.Q
open Go.RowKit Go.Proofs.YtcgfpffgiimgmaaW.PrintWords Go.Proofs.YtcgfpffgiimgmaaW.PrintLast Go.Proofs.YtcgfpffgiimgmaaW.PrintMore
def vpB (x : S45) : Bool := (address_ValidPrefix.f x.f0.f0 x.f0.f1 x.f0.f2 x.f1).getD false
theorem low_tot (n : Int) : ∃ b, address_low.f n = some b := by
  unfold address_low.f
  split
  · exact ⟨_, rfl⟩
  · split
    · exact ⟨_, rfl⟩
    · split
      · exact ⟨_, rfl⟩
      · omega
theorem vp_eq (x : S45) : address_ValidPrefix.f x.f0.f0 x.f0.f1 x.f0.f2 x.f1 = some (vpB x) := by
  unfold vpB
  suffices h : ∃ b, address_ValidPrefix.f x.f0.f0 x.f0.f1 x.f0.f2 x.f1 = some b by
    obtain ⟨b, hb⟩ := h
    rw [hb]; rfl
  have hs : ∃ n, address_size.f x.f0.f0 x.f0.f1 x.f0.f2 = some n := by
    unfold address_size.f
    split <;> exact ⟨_, rfl⟩
  obtain ⟨n, hn⟩ := hs
  have hm : ∃ m, address_mask.f x.f0.f0 x.f0.f1 x.f0.f2 x.f1 = some m := by
    unfold address_mask.f
    rw [hn]
    simp only [Option.bind_some]
    obtain ⟨b1, h1⟩ := low_tot (wrap64 ((wrap64 (n - x.f1)) - 64))
    obtain ⟨b2, h2⟩ := low_tot (wrap64 (n - x.f1))
    rw [h1, h2]
    exact ⟨_, rfl⟩
  obtain ⟨m, hm⟩ := hm
  unfold address_ValidPrefix.f
  rw [fine_eq x.f0, hn, hm]
  simp only [Option.bind_some]
  repeat' (first | exact ⟨_, rfl⟩ | split)
def addPrefix.T1 : Bool × List (List Nat × List Nat) := (true, [([], []), ([0], [0]), ([1], [1]), ([2], [2]), ([], []), ([3, 4], [3, 4])])
def addPrefix.B1 : List Nat := [0, 1, 3, 7, 0, 31]
theorem addPrefix.tab1 : rtab .any (opsOf Try.f93 1) = addPrefix.T1 := by kernel_rfl
theorem addPrefix.bits1 : waitsOk addPrefix.T1.2 addPrefix.B1 = true := by kernel_rfl
def addPrefix.T2 : Bool × List (List Nat × List Nat) := (true, [([], []), ([], []), ([1], [1]), ([2], [2]), ([3], [3]), ([], []), ([5], [5]), ([4, 6], [4, 6]), ([0, 0, 1, 2, 3, 4, 5, 6, 7], [0]), ([8, 0, 1, 2, 3, 4, 5, 6, 7], [8]), ([9, 7, 7, 0, 1, 2, 3, 4, 5, 6, 7], [7, 9])])
def addPrefix.B2 : List Nat := [0, 0, 2, 6, 14, 0, 32, 126, 255, 511, 1023]
theorem addPrefix.tab2 : rtab .any (opsOf Try.f93 2) = addPrefix.T2 := by kernel_rfl
theorem addPrefix.bits2 : waitsOk addPrefix.T2.2 addPrefix.B2 = true := by kernel_rfl
def addIfP (xs : List S45) (x : S45) : List S45 := if vpB x then xs ++ [x] else xs
structure AddedP (w0 W w' : World) (B : Nat) (v v' : Value) (xs : List S45) : Prop where
  cell : w'.heap[B]? = some (.cells #[v', .func (.func 92) #[] #[]] 87 (0, 0))
  row : Kd.R k45 45 w' w0.heap.size (fun _ => True) v' xs
  bel : Below w0.heap.size w0 w'
  size : W.heap.size ≤ w'.heap.size
  kept : ∀ k, k < W.heap.size → some k ≠ v.ownBlock → k ≠ B → w'.heap[k]? = W.heap[k]?
  own : v'.ownBlock = v.ownBlock ∨ ∃ b, v'.ownBlock = some b ∧ W.heap.size ≤ b
set_option maxHeartbeats 8000000 in
set_option maxRecDepth 100000 in
theorem addPrefix (x : S45) (B : Nat) (v : Value) (xs : List S45) (w0 W : World) (hB : W.heap[B]? = some (.cells #[v, .func (.func 92) #[] #[]] 87 (0, 0))) (hR : Kd.R k45 45 W w0.heap.size (fun _ => True) v xs)
    (hbel : Below w0.heap.size w0 W) (hge : w0.heap.size ≤ B) (hlim : xs.length < 4398046511104) :
    Calls Try.prog 93 #[.pointer (some ⟨B, 0, none⟩), .agg #[.bool x.f0.f0, .int .u64 x.f0.f1, .int .u64 x.f0.f2, .int .i64 x.f1]] W fun e w' => e = .returned (.tuple #[]) ∧ ∃ v', AddedP w0 W w' B v v' (addIfP xs x) := by
  have hu45 := Try.underlying45
  obtain ⟨A, c, rfl⟩ := Kd.R_slice hR
  have HX1 : Aside0 ((W.alloc (.cells #[.bool x.f0.f0, .int .u64 x.f0.f1, .int .u64 x.f0.f2, .int .i64 x.f1] 45)).heap[W.heap.size]? = some (.cells #[.bool x.f0.f0, .int .u64 x.f0.f1, .int .u64 x.f0.f2, .int .i64 x.f1] 45 (0, 0))) := ⟨heap_alloc_new _ _⟩
  have HB1 := Aside0.mk (blk_alloc hB (.cells #[.bool x.f0.f0, .int .u64 x.f0.f1, .int .u64 x.f0.f2, .int .i64 x.f1] 45))
  have HR1 := Aside0.mk (Kd.R_alloc hR (.cells #[.bool x.f0.f0, .int .u64 x.f0.f1, .int .u64 x.f0.f2, .int .i64 x.f1] 45))
  have HL1 := Aside0.mk (hbel.alloc hbel.size (.cells #[.bool x.f0.f0, .int .u64 x.f0.f1, .int .u64 x.f0.f2, .int .i64 x.f1] 45))
  have HZ1 : Aside0 (W.heap.size ≤ (W.alloc (.cells #[.bool x.f0.f0, .int .u64 x.f0.f1, .int .u64 x.f0.f2, .int .i64 x.f1] 45)).heap.size) := ⟨by simp⟩
  have HK1 : Aside0 (∀ k, k < W.heap.size → some k ≠ (Value.slice A xs.length c).ownBlock → k ≠ B → (W.alloc (.cells #[.bool x.f0.f0, .int .u64 x.f0.f1, .int .u64 x.f0.f2, .int .i64 x.f1] 45)).heap[k]? = W.heap[k]?) := ⟨fun k hk _ _ => Below.heap_alloc _ _ _ hk⟩
  have HG0 := Aside0.mk hge
  have HM := Aside0.mk hlim
  clear hB hR hbel hge hlim
  go_enter Try.func93, Try.ntmps93
  go_wp2
  obtain ⟨gb, hgb⟩ : ∃ gb, W.heap.size = gb := ⟨_, rfl⟩
  generalize W.alloc (.cells #[.bool x.f0.f0, .int .u64 x.f0.f1, .int .u64 x.f0.f2, .int .i64 x.f1] 45) = w1 at HX1 HB1 HR1 HL1 HZ1 HK1 ⊢
  rw [hgb] at HX1
  simp only [hgb]
  refine start_ (n := 6) (S := fun w' => w'.cell? ⟨B, 1, none⟩ = some (.func (.func 92) #[] #[]) ∧ w'.cell? ⟨gb, 0, none⟩ = some (.bool x.f0.f0) ∧ w'.cell? ⟨gb, 1, none⟩ = some (.int .u64 x.f0.f1) ∧ w'.cell? ⟨gb, 2, none⟩ = some (.int .u64 x.f0.f2) ∧ w'.cell? ⟨gb, 3, none⟩ = some (.int .i64 x.f1)) (ds := []) #[false, false, false, false, false, false] (by kernel_rfl) rfl rfl ⟨(blk_cell HB1.out 1).trans rfl, (blk_cell HX1.out 0).trans rfl, (blk_cell HX1.out 1).trans rfl, (blk_cell HX1.out 2).trans rfl, (blk_cell HX1.out 3).trans rfl⟩ (fun hHeld => ?_)
  refine with_tabW addPrefix.tab1 addPrefix.bits1 (fun HT_ HW_ => ?_)
  have n0_ := Aside0.mk (blk_drew HB1.out)
  have n1_ := Aside0.mk (blk_drew HX1.out)
  have n2_ := Aside0.mk (Kd.R_drew HR1.out)
  have n3_ := Aside0.mk (below_drew1 HL1.out)
  have n4_ : Aside0 (W.heap.size ≤ w1.drew.heap.size) := ⟨HZ1.out⟩
  have n5_ : Aside0 (∀ k, k < W.heap.size → some k ≠ (Value.slice A xs.length c).ownBlock → k ≠ B → w1.drew.heap[k]? = W.heap[k]?) := ⟨HK1.out⟩
  clear HB1 HX1 HR1 HL1 HZ1 HK1
  generalize w1.drew = w1 at n0_ n1_ n2_ n3_ n4_ n5_ hHeld ⊢
  have HB1 := n0_
  have HX1 := n1_
  have HR1 := n2_
  have HL1 := n3_
  have HZ1 := n4_
  have HK1 := n5_
  clear n0_ n1_ n2_ n3_ n4_ n5_
  refine pure_ (i := 0) (N := some 4) (v := ?_) (a' := ?_) #[true, false, false, false, false, false] rfl rfl (any_of HT_.out (by kernel_rfl)) (fun _ _ _ h => h) (Or.inl ⟨by rfl, ?_⟩) ?_ ?_
  rotate_left
  · intro w'
    go_simp
    with_reducible rfl
  rotate_left
  · simp only [Act.put, List.setIfInBounds_toArray, List.set_cons_zero, List.set_cons_succ, i64_w, i32_w]
    rfl
  refine pure_ (i := 1) (N := some 5) (v := ?_) (a' := ?_) #[true, true, false, false, false, false] rfl rfl (any_of HT_.out (by kernel_rfl)) (fun _ _ _ h => h) (Or.inl ⟨by rfl, ?_⟩) ?_ ?_
  rotate_left
  · intro w'
    go_simp
    with_reducible rfl
  rotate_left
  · simp only [Act.put, List.setIfInBounds_toArray, List.set_cons_zero, List.set_cons_succ, i64_w, i32_w]
    rfl
  refine pure_ (i := 2) (N := some 6) (v := ?_) (a' := ?_) #[true, true, true, false, false, false] rfl rfl (any_of HT_.out (by kernel_rfl)) (fun _ _ _ h => h) (Or.inl ⟨by rfl, ?_⟩) ?_ ?_
  rotate_left
  · intro w'
    go_simp
    with_reducible rfl
  rotate_left
  · simp only [Act.put, List.setIfInBounds_toArray, List.set_cons_zero, List.set_cons_succ, i64_w, i32_w]
    rfl
  refine take_ (i := 3) (N := some 7) (v := ?_) (a' := ?_) #[true, true, true, true, false, false] rfl rfl (take_ofW HT_.out HW_.out (by kernel_rfl)) (fun _ _ _ h => h) (Or.inl ⟨by rfl, ?_⟩) hHeld ?_ ?_
  rotate_left
  · rintro w' ⟨s0, s1, s2, s3, s4⟩
    go_simp
    with_reducible rfl
  rotate_left
  · simp only [Act.put, List.setIfInBounds_toArray, List.set_cons_zero, List.set_cons_succ, i64_w, i32_w]
    rfl
  refine take_ (i := 4) (N := some 8) (v := ?_) (a' := ?_) #[true, true, true, true, true, false] rfl rfl (take_ofW HT_.out HW_.out (by kernel_rfl)) (fun _ _ _ h => h) (Or.inl ⟨by rfl, ?_⟩) hHeld ?_ ?_
  rotate_left
  · rintro w' ⟨s0, s1, s2, s3, s4⟩
    go_simp
    with_reducible rfl
  rotate_left
  · simp only [Act.put, List.setIfInBounds_toArray, List.set_cons_zero, List.set_cons_succ, i64_w, i32_w]
    rfl
  refine one_ (i := 5) (N := some 9) #[true, true, true, true, true, true] rfl rfl (one_of HT_.out (by kernel_rfl)) (by decide) (fun K hK => ?_)
  refine goesS_ (s := 7) rfl Try.func92 (by kernel_rfl) rfl #[.agg #[.bool x.f0.f0, .int .u64 x.f0.f1, .int .u64 x.f0.f2, .int .i64 x.f1]] (by rfl) rfl rfl (by (try simp only [List.map_toArray, List.map_cons, List.map_nil]); rfl) ?_
  refine (address_ValidPrefix.calls x.f0.f0 x.f0.f1 x.f0.f2 x.f1 (vpB x) _ (vp_eq x)).mono ?_
  rintro e w2 ⟨rfl, hb⟩
  refine ⟨_, rfl, ?_⟩
  have HB2 := Aside0.mk (blk_below HB1.out hb)
  have HX2 := Aside0.mk (blk_below HX1.out hb)
  have HR2 := Aside0.mk (Kd.R_below HR1.out hb)
  have HL2 := Aside0.mk (HL1.out.trans (hb.mono HL1.out.size))
  have HZ2 := Aside0.mk (Nat.le_trans HZ1.out hb.size)
  have HK2 : Aside0 (∀ k, k < W.heap.size → some k ≠ (Value.slice A xs.length c).ownBlock → k ≠ B → w2.heap[k]? = W.heap[k]?) := ⟨fun k hk h1 h2 => (hb.block k (Nat.lt_of_lt_of_le hk HZ1.out)).trans (HK1.out k hk h1 h2)⟩
  refine hK.out _ _ ⟨(blk_cell HB2.out 1).trans rfl, (blk_cell HX2.out 0).trans rfl, (blk_cell HX2.out 1).trans rfl, (blk_cell HX2.out 2).trans rfl, (blk_cell HX2.out 3).trans rfl⟩ (fun hHeld => ?_)
  clear hK K
  refine norm_ (a' := ?_) ?_ ?_
  rotate_left
  · show Act.put _ (some 9) _ = _
    simp only [Act.put, List.setIfInBounds_toArray, List.set_cons_zero, List.set_cons_succ, i64_w, i32_w]
    rfl
  refine done_ (done_of HT_.out (by kernel_rfl)) ?_
  cases hs : vpB x with
  | false =>
    have HE : Aside0 (addIfP xs x = xs) := ⟨by simp [addIfP, hs]⟩
    clear hs
    go_wp2
    go_end0
    exact ⟨rfl, _, HB2.out, by rw [HE.out]; exact HR2.out, HL2.out, HZ2.out, HK2.out, .inl rfl⟩
  | true =>
    have HE : Aside0 (addIfP xs x = xs ++ [x]) := ⟨by simp [addIfP, hs]⟩
    clear hs
    go_wp2
    refine start_ (n := 11) (S := fun w' => w'.cell? ⟨B, 0, none⟩ = some (.slice A xs.length c) ∧ w'.cell? ⟨gb, 0, none⟩ = some (.bool x.f0.f0) ∧ w'.cell? ⟨gb, 1, none⟩ = some (.int .u64 x.f0.f1) ∧ w'.cell? ⟨gb, 2, none⟩ = some (.int .u64 x.f0.f2) ∧ w'.cell? ⟨gb, 3, none⟩ = some (.int .i64 x.f1)) (ds := [7, 10]) #[false, false, false, false, false, false, false, false, false, false, false] (by kernel_rfl) rfl rfl ⟨(blk_cell HB2.out 0).trans rfl, (blk_cell HX2.out 0).trans rfl, (blk_cell HX2.out 1).trans rfl, (blk_cell HX2.out 2).trans rfl, (blk_cell HX2.out 3).trans rfl⟩ (fun hHeld => ?_)
    refine with_tabW addPrefix.tab2 addPrefix.bits2 (fun HT_ HW_ => ?_)
    have n0_ := Aside0.mk (blk_drew HB2.out)
    have n1_ := Aside0.mk (blk_drew HX2.out)
    have n2_ := Aside0.mk (Kd.R_drew HR2.out)
    have n3_ := Aside0.mk (below_drew1 HL2.out)
    have n4_ : Aside0 (W.heap.size ≤ w2.drew.heap.size) := ⟨HZ2.out⟩
    have n5_ : Aside0 (∀ k, k < W.heap.size → some k ≠ (Value.slice A xs.length c).ownBlock → k ≠ B → w2.drew.heap[k]? = W.heap[k]?) := ⟨HK2.out⟩
    clear HB2 HX2 HR2 HL2 HZ2 HK2
    generalize w2.drew = w2 at n0_ n1_ n2_ n3_ n4_ n5_ hHeld ⊢
    have HB2 := n0_
    have HX2 := n1_
    have HR2 := n2_
    have HL2 := n3_
    have HZ2 := n4_
    have HK2 := n5_
    clear n0_ n1_ n2_ n3_ n4_ n5_
    refine pure_ (i := 0) (N := some 10) (v := ?_) (a' := ?_) #[true, false, false, false, false, false, false, false, false, false, false] rfl rfl (any_of HT_.out (by kernel_rfl)) (fun _ _ _ h => h) (Or.inl ⟨by rfl, ?_⟩) ?_ ?_
    rotate_left
    · intro w'
      go_simp
      with_reducible rfl
    rotate_left
    · simp only [Act.put, List.setIfInBounds_toArray, List.set_cons_zero, List.set_cons_succ, i64_w, i32_w]
      rfl
    refine pure_ (i := 1) (N := some 11) (v := ?_) (a' := ?_) #[true, true, false, false, false, false, false, false, false, false, false] rfl rfl (any_of HT_.out (by kernel_rfl)) (fun _ _ _ h => h) (Or.inl ⟨by rfl, ?_⟩) ?_ ?_
    rotate_left
    · intro w'
      go_simp
      with_reducible rfl
    rotate_left
    · simp only [Act.put, List.setIfInBounds_toArray, List.set_cons_zero, List.set_cons_succ, i64_w, i32_w]
      rfl
    refine pure_ (i := 2) (N := some 12) (v := ?_) (a' := ?_) #[true, true, true, false, false, false, false, false, false, false, false] rfl rfl (any_of HT_.out (by kernel_rfl)) (fun _ _ _ h => h) (Or.inl ⟨by rfl, ?_⟩) ?_ ?_
    rotate_left
    · intro w'
      go_simp
      with_reducible rfl
    rotate_left
    · simp only [Act.put, List.setIfInBounds_toArray, List.set_cons_zero, List.set_cons_succ, i64_w, i32_w]
      rfl
    refine pure_ (i := 3) (N := some 13) (v := ?_) (a' := ?_) #[true, true, true, true, false, false, false, false, false, false, false] rfl rfl (any_of HT_.out (by kernel_rfl)) (fun _ _ _ h => h) (Or.inl ⟨by rfl, ?_⟩) ?_ ?_
    rotate_left
    · intro w'
      go_simp
      with_reducible rfl
    rotate_left
    · simp only [Act.put, List.setIfInBounds_toArray, List.set_cons_zero, List.set_cons_succ, i64_w, i32_w]
      rfl
    refine take_ (i := 4) (N := some 14) (v := ?_) (a' := ?_) #[true, true, true, true, true, false, false, false, false, false, false] rfl rfl (take_ofW HT_.out HW_.out (by kernel_rfl)) (fun _ _ _ h => h) (Or.inl ⟨by rfl, ?_⟩) hHeld ?_ ?_
    rotate_left
    · rintro w' ⟨s0, s1, s2, s3, s4⟩
      go_simp
      with_reducible rfl
    rotate_left
    · simp only [Act.put, List.setIfInBounds_toArray, List.set_cons_zero, List.set_cons_succ, i64_w, i32_w]
      rfl
    refine take_ (i := 5) (N := some 15) (v := ?_) (a' := ?_) #[true, true, true, true, true, true, false, false, false, false, false] rfl rfl (take_ofW HT_.out HW_.out (by kernel_rfl)) (fun _ _ _ h => h) (Or.inl ⟨by rfl, ?_⟩) hHeld ?_ ?_
    rotate_left
    · rintro w' ⟨s0, s1, s2, s3, s4⟩
      go_simp
      with_reducible rfl
    rotate_left
    · simp only [Act.put, List.setIfInBounds_toArray, List.set_cons_zero, List.set_cons_succ, i64_w, i32_w]
      rfl
    refine one_ (i := 6) (N := some 16) #[true, true, true, true, true, true, true, false, false, false, false] rfl rfl (one_of HT_.out (by kernel_rfl)) (by decide) (fun K hK => ?_)
    refine value_ (w1 := ?_) (v := ?_) (by rfl) rfl ?_ ?_
    rotate_left 2
    · go_simp
      constructor
      · rfl
      · rfl
    refine hK.out _ _ ⟨(blk_cell (blk_alloc HB2.out _) 0).trans rfl, (blk_cell (blk_alloc HX2.out _) 0).trans rfl, (blk_cell (blk_alloc HX2.out _) 1).trans rfl, (blk_cell (blk_alloc HX2.out _) 2).trans rfl, (blk_cell (blk_alloc HX2.out _) 3).trans rfl⟩ (fun _ => ?_)
    clear hK K
    refine norm_ (a' := ?_) ?_ ?_
    rotate_left
    · show Act.put _ (some 16) _ = _
      simp only [Act.put, List.setIfInBounds_toArray, List.set_cons_zero, List.set_cons_succ, i64_w, i32_w]
      rfl
    refine last_ (i := 7) (N := some 17) #[true, true, true, true, true, true, true, true, false, false, false] rfl rfl (one_of HT_.out (by kernel_rfl)) (by decide) (fun K hK => ?_)
    refine Kd.R_append_step k45 (w0 := w0) w0.heap.size (by rfl) (.tmp 14) (.tmp 16) 42 45 (.agg #[.bool false, .int .u64 0, .int .u64 0, .int .i64 0]) 32 rfl Try.underlying42 info45 rfl (by decide) (by omega) (.slice A xs.length c) xs x [.bool x.f0.f0, .int .u64 x.f0.f1, .int .u64 x.f0.f2, .int .i64 x.f1] (fun _ => True) (fun _ => False) rfl rfl ?aP (fun _ hk => hk.elim) (fun _ _ => trivial) ?aO ?aB ?aS ?aL ?_
    (case aP => exact k45_mkM _ _ _ x)
    (case aO => exact HR2.out)
    (case aB => exact HL2.out)
    (case aS => exact below_size HL2.out)
    (case aL => have := HM.out; omega)
    intro v1 w3 ho hb3 hg hat
    obtain ⟨A1, n1, c1, rfl⟩ : ∃ A n c, v1 = .slice A n c := (by obtain ⟨A, c, h⟩ := Kd.R_slice ho; exact ⟨A, _, c, h⟩)
    have HB3 := Aside0.mk (blk_grown (g := B) (o := .cells #[.slice A xs.length c, .func (.func 92) #[] #[]] 87 (0, 0)) HB2.out hg (Kd.R_ne HR2.out HB2.out (by decide)))
    have hf3 : w3.frozen? ⟨B, 0, none⟩ = false := by simp [World.frozen?, HB3.out]
    have HO := Aside0.mk ho
    have HL3 := Aside0.mk hb3
    have HG := Aside0.mk hg
    have HA := Aside0.mk hat
    clear ho hb3 hg hat
    have hc3 := (blk_cell HB3.out 0)
    refine hK.out _ _ ?_
    clear hK K
    refine norm_ (a' := ?_) ?_ ?_
    rotate_left
    · show Act.put _ (some 17) _ = _
      simp only [Act.put, List.setIfInBounds_toArray, List.set_cons_zero, List.set_cons_succ, i64_w, i32_w]
      rfl
    refine pure_ (i := 8) (N := some 18) (v := ?_) (a' := ?_) #[true, true, true, true, true, true, true, true, true, false, false] rfl rfl (any_of HT_.out (by kernel_rfl)) (fun _ _ _ h => h) (Or.inl ⟨by rfl, ?_⟩) ?_ ?_
    rotate_left
    · intro w'
      go_simp
      with_reducible rfl
    rotate_left
    · simp only [Act.put, List.setIfInBounds_toArray, List.set_cons_zero, List.set_cons_succ, i64_w, i32_w]
      rfl
    refine pure_ (i := 9) (N := some 19) (v := ?_) (a' := ?_) #[true, true, true, true, true, true, true, true, true, true, false] rfl rfl (any_of HT_.out (by kernel_rfl)) (fun _ _ _ h => h) (Or.inl ⟨by rfl, ?_⟩) ?_ ?_
    rotate_left
    · intro w'
      go_simp
      with_reducible rfl
    rotate_left
    · simp only [Act.put, List.setIfInBounds_toArray, List.set_cons_zero, List.set_cons_succ, i64_w, i32_w]
      rfl
    refine last_ (i := 10) (N := none) #[true, true, true, true, true, true, true, true, true, true, true] rfl rfl (one_of HT_.out (by kernel_rfl)) (by decide) (fun K hK => ?_)
    refine skip_ (w1 := ?_) (by rfl) rfl ?_ ?_
    rotate_left
    · go_simp
      rfl
    refine hK.out _ _ ?_
    clear hK K
    refine done_ (done_of HT_.out (by kernel_rfl)) ?_
    go_wp2
    go_end0
    refine ⟨rfl, .slice A1 n1 c1, blk_put (cs := #[.slice A xs.length c, .func (.func 92) #[] #[]]) HB3.out 0 _ rfl, ?_, HL3.out.setCell HG0.out _, ?_, ?_, ?_⟩
    · rw [HE.out]
      exact Kd.R_set HO.out HB3.out (by decide) 0 _
    · have h1 := HG.out.size
      have h2 := HZ2.out
      simp only [World.setCell]
      simp
      omega
    · intro k hk hn hnB
      rw [Below.heap_setCell _ _ _ _ hnB]
      exact (HG.out.block k (Nat.lt_of_lt_of_le hk HZ2.out) hn).trans (HK2.out k hk hn hnB)
    · rcases HA.out with h | ⟨b, h, hb⟩
      · exact .inl h
      · exact .inr ⟨b, h, Nat.le_trans HZ2.out hb⟩
end Go.Proofs.Ytcgfpffgiimgmaa.Q
end

section
set_option linter.unusedVariables false
set_option linter.unusedSimpArgs false
namespace Go.Proofs.Ytcgfpffgiimgmaa.Q
open Go.RowKit Go.Proofs.YtcgfpffgiimgmaaW.PrintWords Go.Proofs.YtcgfpffgiimgmaaW.PrintLast Go.Proofs.YtcgfpffgiimgmaaW.PrintMore
def addrset_keptP.f (l : List S45) : Option (List S45) := if l.length < 4398046511104 then some (l.filter vpB) else none
theorem keptP_some {l t : List S45} (h : addrset_keptP.f l = some t) : l.length < 4398046511104 ∧ t = l.filter vpB := by
  unfold addrset_keptP.f at h
  split at h
  · rename_i h1
    injection h with h
    exact ⟨h1, h.symm⟩
  · cases h
theorem addIfP_fold : ∀ (l xs : List S45), l.foldl addIfP xs = xs ++ l.filter vpB
  | [], xs => by simp
  | x :: t, xs => by
    rw [List.foldl_cons, addIfP_fold t]
    unfold addIfP
    cases h : vpB x <;> simp [h]
theorem addIfP_take (l : List S45) (k : Nat) (hk : k < l.length) : (l.take (k + 1)).foldl addIfP [] = addIfP ((l.take k).foldl addIfP []) l[k] := by
  rw [List.take_succ_eq_append_getElem hk, List.foldl_append]
  rfl
theorem addIfP_len (l : List S45) (k : Nat) : ((l.take k).foldl addIfP []).length ≤ l.length := by
  rw [addIfP_fold]
  simp only [List.nil_append]
  exact Nat.le_trans (List.length_filter_le _ _) (by rw [List.length_take]; omega)
structure KeptAtP (w wr : World) (B : Nat) (v : Value) (xs : List S45) : Prop where
  cell : wr.heap[B]? = some (.cells #[v, .func (.func 92) #[] #[]] 87 (0, 0))
  row : Kd.R k45 45 wr w.heap.size (fun _ => True) v xs
  bel : Below w.heap.size w wr
theorem KeptAtP.below {w wr W : World} {B : Nat} {v : Value} {xs : List S45} (h : KeptAtP w wr B v xs) (hb : Below wr.heap.size wr W) : KeptAtP w W B v xs where
  cell := (hb.block B (lt_of_block h.cell)).trans h.cell
  row := Kd.R_below h.row hb
  bel := h.bel.trans (hb.mono h.bel.size)
end Go.Proofs.Ytcgfpffgiimgmaa.Q
end

section
namespace Go.Proofs.Ytcgfpffgiimgmaa.Q
open Go.RowKit Go.Proofs.YtcgfpffgiimgmaaW.PrintWords Go.Proofs.YtcgfpffgiimgmaaW.PrintLast Go.Proofs.YtcgfpffgiimgmaaW.PrintMore
attribute [local go_sem] max2_int min2_int max_two min_two max_three min_three max_four min_four
set_option linter.unusedVariables false
set_option linter.unusedSimpArgs false
def addrset_Of.l0 : Nat → List (S66) → List (S45) → Int → Int → Option ((List (S66)))
  | 0, _, _, _, _ => none
  | k + 1, x4, x20, x21, x22 => if x22 < x21 then (if 0 ≤ x22 then (if x22 < (x20.length : Int) then ((address_Bounds.f ((rd_T45 x20 x22).f0.f0) ((rd_T45 x20 x22).f0.f1) ((rd_T45 x20 x22).f0.f2) ((rd_T45 x20 x22).f1)).bind fun bt735 => (if x4.length < 2932031007402 then (addrset_Of.l0 k (x4 ++ [(⟨(⟨bt735.1, bt735.2.1, bt735.2.2.1⟩ : S36), (⟨bt735.2.2.2.1, bt735.2.2.2.2.1, bt735.2.2.2.2.2⟩ : S36)⟩ : S66)]) x20 x21 (wrap64 (x22 + 1))) else (none))) else (none)) else (none)) else ((addrset_Normal.f k x4).bind fun t744 => (some t744))
def addrset_Of.f (k : Nat) (l0 : List (S45)) : Option ((List (S66))) := (addrset_keptP.f l0).bind fun t730 => (addrset_Of.l0 k ([] : List (S66)) t730 (t730.length : Int) 0)
theorem addrset_Of.mono_l : ∀ k, (∀ y0 y1 y2 y3, LeO (addrset_Of.l0 k y0 y1 y2 y3) (addrset_Of.l0 (k + 1) y0 y1 y2 y3))
  | 0 => fun _ _ _ _ r h => by simp [addrset_Of.l0] at h
  | k + 1 => by
    have ih0 := addrset_Of.mono_l k
    · intro y0 y1 y2 y3
      unfold addrset_Of.l0
      repeat' first
      | (with_reducible exact ih0 _ _ _ _)
      | (with_reducible exact addrset_Normal.mono _ _)
      | (with_reducible exact LeO.refl _)
      | (with_reducible exact LeO.none _)
      | (with_reducible refine LeO.ite ?_ ?_)
      | (with_reducible refine LeO.bind ?_ (fun _ => ?_))
      | exact ih0 _ _ _ _
      | exact addrset_Normal.mono _ _
      | exact LeO.none _
      | refine LeO.ite ?_ ?_
      | refine LeO.bind ?_ (fun _ => ?_)
theorem addrset_Of.mono : ∀ a0 k, LeO (addrset_Of.f k a0) (addrset_Of.f (k + 1) a0) := by
  intro a0 k
  have ih0 := addrset_Of.mono_l k
  unfold addrset_Of.f
  repeat' first
      | (with_reducible exact ih0 _ _ _ _)
      | (with_reducible exact addrset_Normal.mono _ _)
      | (with_reducible exact LeO.refl _)
      | (with_reducible exact LeO.none _)
      | (with_reducible refine LeO.ite ?_ ?_)
      | (with_reducible refine LeO.bind ?_ (fun _ => ?_))
      | exact ih0 _ _ _ _
      | exact addrset_Normal.mono _ _
      | exact LeO.none _
      | refine LeO.ite ?_ ?_
      | refine LeO.bind ?_ (fun _ => ?_)
set_option maxHeartbeats 8000000 in
set_option maxRecDepth 100000 in
theorem addrset_Of.calls (k : Nat) (A0 : Option Addr) (c0 : Nat) (l0 : List (S45)) (r : List (S66)) (w : World) (hr0 : Kd.C k45 w A0 l0.length l0) (hc0 : l0.length ≤ c0) (h : addrset_Of.f k l0 = some r) :
 Calls Try.prog 48 #[.slice A0 l0.length c0] w fun e w' => ∃ v0_ : Value, e = .returned (v0_) ∧ Kd.R k66 66 w' w.heap.size (fun _ => True) v0_ r ∧ Below w.heap.size w w' := by
 have hu45 := Try.underlying45
 have HR0 := Aside0.mk hr0
 have HC0 := Aside0.mk hc0
 clear hr0 hc0
 have HB := Aside0.mk (Below.refl w.heap.size w)
 unfold addrset_Of.f at h; have H := h
 clear h
 replace H := Option.bind_eq_some_iff.mp H
 obtain ⟨t730, A20, H⟩ := H
 try dsimp only at H
 have A2 := Aside0.mk A20
 clear A20
 have H' := Aside0.mk H
 clear H
 go_enter Try.func48, Try.ntmps48
 obtain ⟨hlim, ht⟩ := keptP_some A2.out
 have HLIM := Aside0.mk hlim
 have HT := Aside0.mk ht
 have hm : l0.length ≤ 9223372036854775807 := by omega
 clear hlim ht HB
 go_wp2
 have H00 : Aside0 (KeptAtP w (w.alloc (.cells #[.slice none 0 0, .func (.func 92) #[] #[]] 87)) w.heap.size (.slice none 0 0) []) := ⟨heap_alloc_new _ _, Kd.R_nil _ _ _ _ _, (Below.refl _ _).alloc (Nat.le_refl _) _⟩
 go_loopg [12] l0.length (fun gg v12 wr => ∃ kk : Nat, kk ≤ l0.length ∧ l0.length - kk ≤ gg ∧ v12 = .int .i64 kk ∧ Aside0 (∃ v, KeptAtP w wr w.heap.size v ((l0.take kk).foldl addIfP [])))
 case atStart => exact ⟨0, Nat.zero_le _, by omega, rfl, ⟨_, H00.out⟩⟩
 case round =>
  obtain ⟨kk, hkk, hg, rfl, HA⟩ := hrel
  obtain ⟨v, HAv⟩ := HA.out
  have HV := Aside0.mk HAv
  clear HA HAv H00
  by_cases hlt : kk < l0.length
  · have hltz : (kk : Int) < (l0.length : Int) := by omega
    obtain ⟨ad, e, hx0, hx1, hx2, hx3⟩ := at_T45 HR0.out kk (by omega) hltz
    cases e
    replace hx0 := (HV.out.bel.cell (World.block_lt_of_cell? w _ hx0)).trans hx0
    replace hx1 := (HV.out.bel.cell (World.block_lt_of_cell? w _ hx1)).trans hx1
    replace hx2 := (HV.out.bel.cell (World.block_lt_of_cell? w _ hx2)).trans hx2
    replace hx3 := (HV.out.bel.cell (World.block_lt_of_cell? w _ hx3)).trans hx3
    have hrd : rd_T45 l0 (kk : Int) = l0[kk] := by simp [rd_T45, List.getD_eq_getElem?_getD, List.getElem?_eq_getElem hlt]
    rw [hrd] at hx0 hx1 hx2 hx3
    simp only [Int.toNat_natCast] at hx0 hx1 hx2 hx3
    have hfold := addIfP_take l0 kk hlt
    clear hrd
    generalize l0[kk] = y at hx0 hx1 hx2 hx3 hfold
    have HFO := Aside0.mk hfold
    have HLE : Aside0 (((l0.take kk).foldl addIfP []).length < 4398046511104) := ⟨Nat.lt_of_le_of_lt (addIfP_len _ _) HLIM.out⟩
    clear hfold
    go_wp2_with (go_at_call 93; refine (addPrefix y w.heap.size v _ w _ ?h1 ?h2 ?h3 (Nat.le_refl _) HLE.out).mono ?_; (case h1 => exact (HV.out.below ((Below.refl _ _).alloc (Nat.le_refl _) _)).cell); (case h2 => exact (HV.out.below ((Below.refl _ _).alloc (Nat.le_refl _) _)).row); (case h3 => exact (HV.out.below ((Below.refl _ _).alloc (Nat.le_refl _) _)).bel); rintro e w5 ⟨rfl, v', hadd⟩; have HAD := Aside0.mk hadd; clear hadd)
    go_roundg (l0.length - (kk + 1))
    case measure => omega
    case rel => exact ⟨kk + 1, by omega, by omega, by go_num, ⟨v', by rw [HFO.out]; exact ⟨HAD.out.cell, HAD.out.row, HAD.out.bel⟩⟩⟩
  · have hltz : ¬ (kk : Int) < (l0.length : Int) := by omega
    have hkl : kk = l0.length := by omega
    have hfull : (l0.take kk).foldl addIfP [] = l0.filter vpB := by rw [hkl, List.take_length, addIfP_fold]; rfl
    rw [hfull] at HV
    rw [← HT.out] at HV
    obtain ⟨Ao4, co4, hv4⟩ := Kd.R_slice HV.out.row
    subst hv4
    have HO732 := Aside0.mk HV.out.row
    have HB := Aside0.mk HV.out.bel
    have hc1 : wr.cell? ⟨w.heap.size, 0, none⟩ = some (.slice Ao4 t730.length co4) := (blk_cell HV.out.cell 0).trans rfl
    clear hkl hfull
    go_wp2
    go_loopg [4, 22] k (fun kq v4 v22 w' => ∃ (x4_1 : List (S66)) (x22_1 : Int), v22 = .int .i64 x22_1 ∧ Aside0 (addrset_Of.l0 kq x4_1 t730 (t730.length : Int) x22_1 = some r) ∧ Aside0 (kq ≤ k) ∧ Aside0 (Kd.R k66 66 w' w.heap.size (fun _ => True) v4 x4_1) ∧ Aside0 (Kd.R k45 45 w' w.heap.size (fun _ => True) (.slice Ao4 t730.length co4) t730) ∧ Aside0 (Below w.heap.size w w'))
    case atStart => exact ⟨(([] : List (S66))), (0), (by first | rfl | (simp; done) | (simp [*]; done)), H', ⟨Nat.le_refl _⟩, ⟨by first | exact Kd.R_nil _ _ _ _ _ | exact Kd.N_nil _ _ _ _ _ | exact Kd.V_nil _ _ _ _ _ | exact Kd.Q_nil _ _ _ _ _ | exact Kd.S_nil _ _ _ _ _⟩, ⟨zR HO732⟩, ⟨zB HB⟩⟩
    case round =>
     clear H'
     try clear p2
     try clear c4
     obtain ⟨x4_1, x22_1, rfl, HA, HK1, HO_4, HO_20, HB⟩ := hrel
     cases gk with
     | zero => exact absurd HA.out (by simp [addrset_Of.l0])
     | succ k1 =>
      have H := HA.out
      clear HA
      simp only [addrset_Of.l0] at H
      by_cases c5 : x22_1 < (t730.length : Int)
      · rw [if_pos c5] at H
        have c5b0 : decide (x22_1 < (t730.length : Int)) = true := decide_eq_true c5
        clear c5
        by_cases c6 : 0 ≤ x22_1
        · rw [if_pos c6] at H
          have c6b0 : decide (0 ≤ x22_1) = true := decide_eq_true c6
          clear c6
          by_cases c7 : x22_1 < (t730.length : Int)
          · rw [if_pos c7] at H
            have c7b0 : decide (x22_1 < (t730.length : Int)) = true := decide_eq_true c7
            clear c7
            replace H := Option.bind_eq_some_iff.mp H
            obtain ⟨⟨t735, t736, t737, t738, t739, t740⟩, A80, H⟩ := H
            try dsimp only at H
            have A8 := Aside0.mk A80
            clear A80
            by_cases c9 : x4_1.length < 2932031007402
            · rw [if_pos c9] at H
              have LMc9 := Aside0.mk c9
              clear c9
              obtain ⟨y741, hy741⟩ : ∃ y_ : List (S66), y_ = (x4_1 ++ [(⟨(⟨t735, t736, t737⟩ : S36), (⟨t738, t739, t740⟩ : S36)⟩ : S66)]) := ⟨_, rfl⟩
              rw [← hy741] at H; try dsimp only [Option.bind_some] at H
              have Ny741 := Aside0.mk hy741
              clear hy741
              have H' := Aside0.mk H
              clear H
              have p733 : 0 ≤ (x22_1 : Int) := za
              have q733 : x22_1 < (t730.length : Int) := za
              (try (obtain ⟨Ax_, cx_, ex_⟩ := Kd.R_slice HO_20.out; subst ex_))
              obtain ⟨ad733, e733, hx733_0, hx733_1, hx733_2, hx733_3⟩ := at_T45 (Kd.R_reads' HO_20.out).2.2 x22_1 p733 q733
              cases e733
              replace p733 := eq_true p733
              replace q733 := eq_true q733
              go_wp2_with (first | ((with_reducible refine gate_dst (N := 8) rfl ?_); refine zx 8 #[.bool false, .int .u64 0, .int .u64 0, .int .i64 0] 45 ?_; intro gb734 hg w10 hbox hb; replace HO_4 := Aside0.mk (Kd.R_below (zR HO_4) hb); replace HO_20 := Aside0.mk (Kd.R_below (Kd.R_elderB (zR HO_20) gb734 (Nat.le_of_eq hg.symm)) hb); have BK734 := Aside0.mk (hbox); have GW734 := Aside0.mk ((by rw [hg]; exact (below_size (zB HB)) : w.heap.size ≤ gb734)); have GE734 := Aside0.mk ((by rw [hg]; exact (below_size (zB HB)) : w.heap.size ≤ gb734)); replace HB := Aside0.mk (below_step (zB HB) hb); clear hb hbox hg; obtain ⟨hcz11_0, hcz11_1, hcz11_2, hcz11_3⟩ := zc4 BK734; obtain ⟨hfz11_0, hfz11_1, hfz11_2, hfz11_3⟩ := zf4 BK734) | ((with_reducible refine gate_callee (f := 87) rfl ?_); refine goesL_ (some 28) rfl rfl Try.func87 (by kernel_rfl) rfl #[.agg #[.bool ((rd_T45 t730 x22_1).f0.f0), .int .u64 ((rd_T45 t730 x22_1).f0.f1), .int .u64 ((rd_T45 t730 x22_1).f0.f2), .int .i64 ((rd_T45 t730 x22_1).f1)]] rfl (by (try simp only [List.map_toArray, List.map_cons, List.map_nil]); first | done | rfl | (simp only [List.length_drop, List.length_take]; rfl)) ?_; (with_reducible refine (address_Bounds.calls ((rd_T45 t730 x22_1).f0.f0) ((rd_T45 t730 x22_1).f0.f1) ((rd_T45 t730 x22_1).f0.f2) ((rd_T45 t730 x22_1).f1) t735 t736 t737 t738 t739 t740 _ A8.out).mono ?_); rintro e w12 ⟨rfl, hb⟩; refine ⟨_, rfl, ?_⟩; replace HO_4 := Aside0.mk (Kd.R_below (zQ (Kd.R_mono (Kd.R_far (p := ⟨gb734, 3, none⟩) (Kd.R_far (p := ⟨gb734, 2, none⟩) (Kd.R_far (p := ⟨gb734, 1, none⟩) (Kd.R_far (p := ⟨gb734, 0, none⟩) (Kd.R_types HO_4.out BK734.out (by decide)) (fun _ hk => hk.2) (.bool ((rd_T45 t730 x22_1).f0.f0))) (fun _ hk => hk.2) (.int .u64 ((rd_T45 t730 x22_1).f0.f1))) (fun _ hk => hk.2) (.int .u64 ((rd_T45 t730 x22_1).f0.f2))) (fun _ hk => hk.2) (.int .i64 ((rd_T45 t730 x22_1).f1))) (fun _ h_ => h_.1))) hb); replace HO_20 := Aside0.mk (Kd.R_below (zQ (Kd.R_mono (Kd.R_far (p := ⟨gb734, 3, none⟩) (Kd.R_far (p := ⟨gb734, 2, none⟩) (Kd.R_far (p := ⟨gb734, 1, none⟩) (Kd.R_far (p := ⟨gb734, 0, none⟩) (Kd.R_mono HO_20.out (fun k_ hk => (⟨hk, hk.2⟩ : _ ∧ k_ ≠ gb734))) (fun _ hk => hk.2) (.bool ((rd_T45 t730 x22_1).f0.f0))) (fun _ hk => hk.2) (.int .u64 ((rd_T45 t730 x22_1).f0.f1))) (fun _ hk => hk.2) (.int .u64 ((rd_T45 t730 x22_1).f0.f2))) (fun _ hk => hk.2) (.int .i64 ((rd_T45 t730 x22_1).f1))) (fun _ h_ => h_.1))) hb); replace BK734 := Aside0.mk (blk_below (g := gb734) (o := .cells #[.bool ((rd_T45 t730 x22_1).f0.f0), .int .u64 ((rd_T45 t730 x22_1).f0.f1), .int .u64 ((rd_T45 t730 x22_1).f0.f2), .int .i64 ((rd_T45 t730 x22_1).f1)] 45 (0, 0)) (by refine zL ?_; refine blk_put (cs := #[.bool ((rd_T45 t730 x22_1).f0.f0), .int .u64 ((rd_T45 t730 x22_1).f0.f1), .int .u64 ((rd_T45 t730 x22_1).f0.f2), .int .i64 0]) ?_ 3 _ rfl; refine zL ?_; refine blk_put (cs := #[.bool ((rd_T45 t730 x22_1).f0.f0), .int .u64 ((rd_T45 t730 x22_1).f0.f1), .int .u64 0, .int .i64 0]) ?_ 2 _ rfl; refine zL ?_; refine blk_put (cs := #[.bool ((rd_T45 t730 x22_1).f0.f0), .int .u64 0, .int .u64 0, .int .i64 0]) ?_ 1 _ rfl; refine zL ?_; refine blk_put (cs := #[.bool false, .int .u64 0, .int .u64 0, .int .i64 0]) ?_ 0 _ rfl; refine zL ?_; exact BK734.out) hb); replace HB := Aside0.mk (below_step (zB HB) hb); (try clear hb)) | ((with_reducible refine gate_builtin (b := .append) (xs := #[.tmp 26, .tmp 29]) rfl ?_); at_builtin; refine Kd.R_append k66 (w0 := w) w.heap.size rfl (.tmp 26) (.tmp 29) 33 66 (.agg #[(.bool false), (.int .u64 0), (.int .u64 0), (.bool false), (.int .u64 0), (.int .u64 0)]) 48 rfl Try.underlying33 info66 rfl (by decide) (by omega) u4 x4_1 (⟨(⟨t735, t736, t737⟩ : S36), (⟨t738, t739, t740⟩ : S36)⟩ : S66) [.bool t735, .int .u64 t736, .int .u64 t737, .bool t738, .int .u64 t739, .int .u64 t740] (fun _ => True) (fun _ => False) rfl rfl ?aP (fun _ hk => hk.elim) ?aF ?aO ?aB ?aS ?aL ?_; (case aP => exact k66_mkM _ _ _ (⟨(⟨t735, t736, t737⟩ : S36), (⟨t738, t739, t740⟩ : S36)⟩ : S66)); (case aB => exact (zB HB)); (case aF => exact (fun _ _ => trivial)); (case aO => exact (zR HO_4)); (case aS => exact (below_size (zB HB))); (case aL => have := LMc9.out; omega); intro v742 w13 ho hb hg hat; rw [← Ny741.out] at ho; replace HO_20 := Aside0.mk (Kd.R_over' (zR HO_20) (Kd.R_typed (zR HO_4)) (by decide) hg); replace BK734 := Aside0.mk (blk_grown (g := gb734) (o := .cells #[.bool ((rd_T45 t730 x22_1).f0.f0), .int .u64 ((rd_T45 t730 x22_1).f0.f1), .int .u64 ((rd_T45 t730 x22_1).f0.f2), .int .i64 ((rd_T45 t730 x22_1).f1)] 45 (0, 0)) (zK BK734) hg (Kd.R_ne HO_4.out BK734.out (by decide))); replace HB := Aside0.mk (hb); have HO743 := Aside0.mk (ho); clear HO_4; clear ho hb hg hat))
              go_roundg k1
              case measure => have := HK1.out; omega
              case rel => exact ⟨(y741), (wrap64 (x22_1 + 1)), (by first | rfl | (simp; done) | (simp [*]; done)), H', ⟨by have := HK1.out; omega⟩, ⟨zR HO743⟩, ⟨by (with_reducible repeat (first | apply Kd.R_alloc | apply Kd.R_drewN | apply Kd.R_drew)); exact Kd.R_mono HO_20.out (fun _ hk => trivial)⟩, ⟨zB HB⟩⟩
            · rw [if_neg c9] at H
              exact absurd H (by simp)
          · rw [if_neg c7] at H
            exact absurd H (by simp)
        · rw [if_neg c6] at H
          exact absurd H (by simp)
      · rw [if_neg c5] at H
        have c5b0 : decide (x22_1 < (t730.length : Int)) = false := decide_eq_false c5
        clear c5
        replace H := Option.bind_eq_some_iff.mp H
        obtain ⟨t744, A140, H⟩ := H
        try dsimp only at H
        have A14 := Aside0.mk A140
        clear A140
        obtain rfl := Option.some.inj H
        obtain ⟨Ao15, co15, eo15⟩ := Kd.R_slice HO_4.out
        subst eo15
        go_wp2_with (first | ((with_reducible refine gate_callee (f := 38) rfl ?_); refine goesL_ (some 33) rfl rfl Try.func38 (by kernel_rfl) rfl #[.slice Ao15 x4_1.length co15] rfl (by (try simp only [List.map_toArray, List.map_cons, List.map_nil]); first | done | rfl | (simp only [List.length_drop, List.length_take]; rfl)) ?_; (with_reducible refine (addrset_Normal.calls k1 _ _ x4_1 t744 _ ?side1 ?side2 A14.out).mono ?_); (case side1 => repeat (first | exact (Kd.R_reads' HO_4.out).2.2 | (with_reducible refine Kd.C_alloc ?_ _) | (with_reducible refine Kd.C_drewN ?_ _) | (with_reducible refine Kd.C_drew ?_))); (case side2 => exact (Kd.R_reads' HO_4.out).2.1); rintro e w16 ⟨v745, rfl, ho0, hb⟩; refine ⟨_, rfl, ?_⟩; replace HO_20 := Aside0.mk (Kd.R_below (zR HO_20) hb); have HO746 := Aside0.mk (Kd.R_lower (Kd.R_new' ho0 (Kd.R_lt (zR HO_4))) (below_size (zB HB))); replace HO_4 := Aside0.mk (Kd.R_elder' (zR HO_4) (Kd.R_base ho0) hb); replace HB := Aside0.mk (below_step (zB HB) hb); (try clear hb); (try clear ho0)))
        go_ret
        exact ⟨_, by first | rfl | (simp [errW_none, errW_some] <;> rfl) | (simp [*, errW_none, errW_some] <;> rfl), by (with_reducible repeat (first | apply Kd.R_alloc | apply Kd.R_drewN | apply Kd.R_drew)); exact Kd.R_mono HO746.out (fun _ hk => trivial), by repeat (first | (with_reducible first | exact HB.out | apply below_alloc | apply pw_below_drewN | apply below_drew1) | exact HB.out)⟩
end Go.Proofs.Ytcgfpffgiimgmaa.Q
end

section
namespace Go.Proofs.Ytcgfpffgiimgmaa.Q
open Go.RowKit Go.Proofs.YtcgfpffgiimgmaaW.PrintWords Go.Proofs.YtcgfpffgiimgmaaW.PrintLast Go.Proofs.YtcgfpffgiimgmaaW.PrintMore
attribute [local go_sem] max2_int min2_int max_two min_two max_three min_three max_four min_four
set_option linter.unusedVariables false
set_option linter.unusedSimpArgs false
attribute [local go_sem high] eqA45
def intrusionlaw07_AddrsetPrefixes.l0 : Nat → List (S66) → List (S45) → List (S45) → Int → Option (Bool)
  | 0, _, _, _, _ => none
  | k + 1, x0, x3, x4, x5 => if x5 < (x3.length : Int) then (if 0 ≤ x5 then (if x5 < (x4.length : Int) then (if ((!(((rd_T45 x3 x5).f0.f0) == ((rd_T45 x4 x5).f0.f0)) || (!(((rd_T45 x3 x5).f0.f1) == ((rd_T45 x4 x5).f0.f1)) || (!(((rd_T45 x3 x5).f0.f2) == ((rd_T45 x4 x5).f0.f2))))) || (!(((rd_T45 x3 x5).f1) == ((rd_T45 x4 x5).f1)))) = true then (some false) else (intrusionlaw07_AddrsetPrefixes.l0 k x0 x3 x4 (wrap64 (x5 + 1)))) else (none)) else (none)) else (if (x3.length : Int) = 0 then ((intrusionlaw07_awake.f k).bind fun t757 => (some t757)) else ((addrset_Of.f k x3).bind fun t758 => ((addrset_Normal.f k x0).bind fun t761 => ((intrusionref07_Same.f k t758 t761).bind fun t764 => (if t764 = true then ((intrusionlaw07_awake.f k).bind fun t765 => (some t765)) else (some false))))))
def intrusionlaw07_AddrsetPrefixes.f (k : Nat) (l0 : List (S66)) : Option (Bool) := (intrusionlaw07_few.f l0 ([] : List (S66))).bind fun t747 => (if t747 = true then ((addrset_Prefixes.f k l0).bind fun t749 => ((intrusionref07_Prefixes.f k l0).bind fun t752 => (if (t749.length : Int) = (t752.length : Int) then (intrusionlaw07_AddrsetPrefixes.l0 k l0 t749 t752 0) else (some false)))) else ((intrusionlaw07_awake.f k).bind fun t748 => (some t748)))
theorem intrusionlaw07_AddrsetPrefixes.mono_l : ∀ k, (∀ y0 y1 y2 y3, LeO (intrusionlaw07_AddrsetPrefixes.l0 k y0 y1 y2 y3) (intrusionlaw07_AddrsetPrefixes.l0 (k + 1) y0 y1 y2 y3))
  | 0 => fun _ _ _ _ r h => by simp [intrusionlaw07_AddrsetPrefixes.l0] at h
  | k + 1 => by
    have ih0 := intrusionlaw07_AddrsetPrefixes.mono_l k
    · intro y0 y1 y2 y3
      unfold intrusionlaw07_AddrsetPrefixes.l0
      repeat' first
      | (with_reducible exact ih0 _ _ _ _)
      | (with_reducible exact addrset_Normal.mono _ _)
      | (with_reducible exact addrset_Of.mono _ _)
      | (with_reducible exact addrset_Prefixes.mono _ _)
      | (with_reducible exact intrusionlaw07_awake.mono _)
      | (with_reducible exact intrusionref07_Prefixes.mono _ _)
      | (with_reducible exact intrusionref07_Same.mono _ _ _)
      | (with_reducible exact LeO.refl _)
      | (with_reducible exact LeO.none _)
      | (with_reducible refine LeO.ite ?_ ?_)
      | (with_reducible refine LeO.bind ?_ (fun _ => ?_))
      | exact ih0 _ _ _ _
      | exact addrset_Normal.mono _ _
      | exact addrset_Of.mono _ _
      | exact addrset_Prefixes.mono _ _
      | exact intrusionlaw07_awake.mono _
      | exact intrusionref07_Prefixes.mono _ _
      | exact intrusionref07_Same.mono _ _ _
      | exact LeO.none _
      | refine LeO.ite ?_ ?_
      | refine LeO.bind ?_ (fun _ => ?_)
theorem intrusionlaw07_AddrsetPrefixes.mono : ∀ a0 k, LeO (intrusionlaw07_AddrsetPrefixes.f k a0) (intrusionlaw07_AddrsetPrefixes.f (k + 1) a0) := by
  intro a0 k
  have ih0 := intrusionlaw07_AddrsetPrefixes.mono_l k
  unfold intrusionlaw07_AddrsetPrefixes.f
  repeat' first
      | (with_reducible exact ih0 _ _ _ _)
      | (with_reducible exact addrset_Normal.mono _ _)
      | (with_reducible exact addrset_Of.mono _ _)
      | (with_reducible exact addrset_Prefixes.mono _ _)
      | (with_reducible exact intrusionlaw07_awake.mono _)
      | (with_reducible exact intrusionref07_Prefixes.mono _ _)
      | (with_reducible exact intrusionref07_Same.mono _ _ _)
      | (with_reducible exact LeO.refl _)
      | (with_reducible exact LeO.none _)
      | (with_reducible refine LeO.ite ?_ ?_)
      | (with_reducible refine LeO.bind ?_ (fun _ => ?_))
      | exact ih0 _ _ _ _
      | exact addrset_Normal.mono _ _
      | exact addrset_Of.mono _ _
      | exact addrset_Prefixes.mono _ _
      | exact intrusionlaw07_awake.mono _
      | exact intrusionref07_Prefixes.mono _ _
      | exact intrusionref07_Same.mono _ _ _
      | exact LeO.none _
      | refine LeO.ite ?_ ?_
      | refine LeO.bind ?_ (fun _ => ?_)
set_option maxHeartbeats 8000000 in
set_option maxRecDepth 100000 in
theorem intrusionlaw07_AddrsetPrefixes.calls (k : Nat) (A0 : Option Addr) (c0 : Nat) (l0 : List (S66)) (r : Bool) (w : World) (hr0 : Kd.C k66 w A0 l0.length l0) (hc0 : l0.length ≤ c0) (h : intrusionlaw07_AddrsetPrefixes.f k l0 = some r) :
 Calls Try.prog 10 #[.slice A0 l0.length c0] w fun e w' => e = .returned (.bool r) ∧ Below w.heap.size w w' := by
 have hu45 := Try.underlying45
 have HR0 := Aside0.mk hr0
 have HC0 := Aside0.mk hc0
 clear hr0 hc0
 have HB := Aside0.mk (Below.refl w.heap.size w)
 unfold intrusionlaw07_AddrsetPrefixes.f at h; have H := h
 clear h
 replace H := Option.bind_eq_some_iff.mp H
 obtain ⟨t747, A20, H⟩ := H
 try dsimp only at H
 have A2 := Aside0.mk A20
 clear A20
 by_cases c3 : t747 = true
 · subst c3
   rw [if_pos rfl] at H
   replace H := Option.bind_eq_some_iff.mp H
   obtain ⟨t749, A40, H⟩ := H
   try dsimp only at H
   have A4 := Aside0.mk A40
   clear A40
   replace H := Option.bind_eq_some_iff.mp H
   obtain ⟨t752, A50, H⟩ := H
   try dsimp only at H
   have A5 := Aside0.mk A50
   clear A50
   by_cases c6 : (t749.length : Int) = (t752.length : Int)
   · rw [if_pos c6] at H
     have c6b0 : ((t749.length : Int) == (t752.length : Int)) = true := beq_iff_eq.mpr c6
     have c6b1 : ((t749.length : Int) != (t752.length : Int)) = false := bne_eq_false_iff_eq.mpr c6
     have c6b2 : (t749.length == t752.length) = true := by first | simpa using c6 | (simp at c6 ⊢; omega)
     clear c6
     have H' := Aside0.mk H
     clear H
     go_enter Try.func10, Try.ntmps10
     go_wp2_with (first | (go_at_call 35; (refine (intrusionlaw07_few.calls _ _ l0 _ _ ([] : List (S66)) true _ ?side1 ?side2 ?side3 ?side4 A2.out).mono ?_); (case side1 => repeat (first | exact HR0.out | (with_reducible refine Kd.C_alloc ?_ _) | (with_reducible refine Kd.C_drewN ?_ _) | (with_reducible refine Kd.C_drew ?_))); (case side2 => exact HC0.out); (case side3 => exact Kd.C_nil _ _); (case side4 => exact Nat.le_refl _); rintro e w' ⟨rfl, ⟨nd, rfl⟩⟩; (try first | exact ⟨rfl, _, World.drewN_drewN _ _ _⟩ | exact ⟨rfl, _, Eq.trans (World.drewN_drewN _ _ _) (congrArg (World.drewN _) (Nat.add_assoc _ _ _))⟩)) | (go_at_call 46; (with_reducible refine (addrset_Prefixes.calls k _ _ l0 t749 _ ?side1 ?side2 A4.out).mono ?_); (case side1 => repeat (first | exact HR0.out | (with_reducible refine Kd.C_alloc ?_ _) | (with_reducible refine Kd.C_drewN ?_ _) | (with_reducible refine Kd.C_drew ?_))); (case side2 => exact HC0.out); rintro e w7 ⟨v750, rfl, ho0, hb⟩; have HO751 := Aside0.mk (Kd.R_lower ho0 (below_size (zB HB))); replace HB := Aside0.mk (below_step (zB HB) hb); (try clear hb); (try clear ho0)) | (go_at_call 47; (with_reducible refine (intrusionref07_Prefixes.calls k _ _ l0 t752 _ ?side1 ?side2 A5.out).mono ?_); (case side1 => repeat (first | exact (Kd.C_below HR0.out HB.out) | (with_reducible refine Kd.C_alloc ?_ _) | (with_reducible refine Kd.C_drewN ?_ _) | (with_reducible refine Kd.C_drew ?_))); (case side2 => exact HC0.out); rintro e w8 ⟨v753, rfl, ho0, hb⟩; have HO754 := Aside0.mk (Kd.R_lower (Kd.R_new' ho0 (Kd.R_lt (zR HO751))) (below_size (zB HB))); replace HO751 := Aside0.mk (Kd.R_elder' (zR HO751) (Kd.R_base ho0) hb); replace HB := Aside0.mk (below_step (zB HB) hb); (try clear hb); (try clear ho0); obtain ⟨Ao9, co9, eo9⟩ := Kd.R_slice HO751.out; subst eo9; obtain ⟨Ao10, co10, eo10⟩ := Kd.R_slice HO754.out; subst eo10))
     repeat (go_quiet (first | (go_at_call 35; (refine (intrusionlaw07_few.calls _ _ l0 _ _ ([] : List (S66)) true _ ?side1 ?side2 ?side3 ?side4 A2.out).mono ?_); (case side1 => repeat (first | exact HR0.out | (with_reducible refine Kd.C_alloc ?_ _) | (with_reducible refine Kd.C_drewN ?_ _) | (with_reducible refine Kd.C_drew ?_))); (case side2 => exact HC0.out); (case side3 => exact Kd.C_nil _ _); (case side4 => exact Nat.le_refl _); rintro e w' ⟨rfl, ⟨nd, rfl⟩⟩; (try first | exact ⟨rfl, _, World.drewN_drewN _ _ _⟩ | exact ⟨rfl, _, Eq.trans (World.drewN_drewN _ _ _) (congrArg (World.drewN _) (Nat.add_assoc _ _ _))⟩)) | (go_at_call 46; (with_reducible refine (addrset_Prefixes.calls k _ _ l0 t749 _ ?side1 ?side2 A4.out).mono ?_); (case side1 => repeat (first | exact HR0.out | (with_reducible refine Kd.C_alloc ?_ _) | (with_reducible refine Kd.C_drewN ?_ _) | (with_reducible refine Kd.C_drew ?_))); (case side2 => exact HC0.out); rintro e w7 ⟨v750, rfl, ho0, hb⟩; have HO751 := Aside0.mk (Kd.R_lower ho0 (below_size (zB HB))); replace HB := Aside0.mk (below_step (zB HB) hb); (try clear hb); (try clear ho0)) | (go_at_call 47; (with_reducible refine (intrusionref07_Prefixes.calls k _ _ l0 t752 _ ?side1 ?side2 A5.out).mono ?_); (case side1 => repeat (first | exact (Kd.C_below HR0.out HB.out) | (with_reducible refine Kd.C_alloc ?_ _) | (with_reducible refine Kd.C_drewN ?_ _) | (with_reducible refine Kd.C_drew ?_))); (case side2 => exact HC0.out); rintro e w8 ⟨v753, rfl, ho0, hb⟩; have HO754 := Aside0.mk (Kd.R_lower (Kd.R_new' ho0 (Kd.R_lt (zR HO751))) (below_size (zB HB))); replace HO751 := Aside0.mk (Kd.R_elder' (zR HO751) (Kd.R_base ho0) hb); replace HB := Aside0.mk (below_step (zB HB) hb); (try clear hb); (try clear ho0); obtain ⟨Ao9, co9, eo9⟩ := Kd.R_slice HO751.out; subst eo9; obtain ⟨Ao10, co10, eo10⟩ := Kd.R_slice HO754.out; subst eo10)); try go_wp2_with (first | (go_at_call 35; (refine (intrusionlaw07_few.calls _ _ l0 _ _ ([] : List (S66)) true _ ?side1 ?side2 ?side3 ?side4 A2.out).mono ?_); (case side1 => repeat (first | exact HR0.out | (with_reducible refine Kd.C_alloc ?_ _) | (with_reducible refine Kd.C_drewN ?_ _) | (with_reducible refine Kd.C_drew ?_))); (case side2 => exact HC0.out); (case side3 => exact Kd.C_nil _ _); (case side4 => exact Nat.le_refl _); rintro e w' ⟨rfl, ⟨nd, rfl⟩⟩; (try first | exact ⟨rfl, _, World.drewN_drewN _ _ _⟩ | exact ⟨rfl, _, Eq.trans (World.drewN_drewN _ _ _) (congrArg (World.drewN _) (Nat.add_assoc _ _ _))⟩)) | (go_at_call 46; (with_reducible refine (addrset_Prefixes.calls k _ _ l0 t749 _ ?side1 ?side2 A4.out).mono ?_); (case side1 => repeat (first | exact HR0.out | (with_reducible refine Kd.C_alloc ?_ _) | (with_reducible refine Kd.C_drewN ?_ _) | (with_reducible refine Kd.C_drew ?_))); (case side2 => exact HC0.out); rintro e w7 ⟨v750, rfl, ho0, hb⟩; have HO751 := Aside0.mk (Kd.R_lower ho0 (below_size (zB HB))); replace HB := Aside0.mk (below_step (zB HB) hb); (try clear hb); (try clear ho0)) | (go_at_call 47; (with_reducible refine (intrusionref07_Prefixes.calls k _ _ l0 t752 _ ?side1 ?side2 A5.out).mono ?_); (case side1 => repeat (first | exact (Kd.C_below HR0.out HB.out) | (with_reducible refine Kd.C_alloc ?_ _) | (with_reducible refine Kd.C_drewN ?_ _) | (with_reducible refine Kd.C_drew ?_))); (case side2 => exact HC0.out); rintro e w8 ⟨v753, rfl, ho0, hb⟩; have HO754 := Aside0.mk (Kd.R_lower (Kd.R_new' ho0 (Kd.R_lt (zR HO751))) (below_size (zB HB))); replace HO751 := Aside0.mk (Kd.R_elder' (zR HO751) (Kd.R_base ho0) hb); replace HB := Aside0.mk (below_step (zB HB) hb); (try clear hb); (try clear ho0); obtain ⟨Ao9, co9, eo9⟩ := Kd.R_slice HO751.out; subst eo9; obtain ⟨Ao10, co10, eo10⟩ := Kd.R_slice HO754.out; subst eo10)))
     go_loopg [5] k (fun kq v5 w' => ∃ (x5_1 : Int), v5 = .int .i64 x5_1 ∧ Aside0 (intrusionlaw07_AddrsetPrefixes.l0 kq l0 t749 t752 x5_1 = some r) ∧ Aside0 (kq ≤ k) ∧ Aside0 (Kd.R k45 45 w' w.heap.size (fun k_ => some k_ ≠ ((.slice Ao10 t752.length co10) : Value).ownBlock) (.slice Ao9 t749.length co9) t749) ∧ Aside0 (Kd.R k45 45 w' w.heap.size (fun k_ => some k_ ≠ ((.slice Ao9 t749.length co9) : Value).ownBlock) (.slice Ao10 t752.length co10) t752) ∧ Aside0 (Below w.heap.size w w'))
     case atStart => exact ⟨(0), (by first | rfl | (simp; done) | (simp [*]; done)), H', ⟨Nat.le_refl _⟩, ⟨by (with_reducible repeat (first | apply Kd.R_alloc | apply Kd.R_drewN | apply Kd.R_drew)); exact Kd.R_mono HO751.out (fun _ hk => hk.2)⟩, ⟨by (with_reducible repeat (first | apply Kd.R_alloc | apply Kd.R_drewN | apply Kd.R_drew)); exact Kd.R_mono HO754.out (fun _ hk => hk.2)⟩, ⟨zB HB⟩⟩
     case round =>
      clear H'
      try clear c1
      try clear p2
      try clear c3
      try clear c6
      try clear c6b0
      try clear c6b1
      try clear c6b2
      try clear c10
      obtain ⟨x5_1, rfl, HA, HK1, HO_3, HO_4, HB⟩ := hrel
      cases gk with
      | zero => exact absurd HA.out (by simp [intrusionlaw07_AddrsetPrefixes.l0])
      | succ k1 =>
       have H := HA.out
       clear HA
       simp only [intrusionlaw07_AddrsetPrefixes.l0] at H
       by_cases c11 : x5_1 < (t749.length : Int)
       · rw [if_pos c11] at H
         have c11b0 : decide (x5_1 < (t749.length : Int)) = true := decide_eq_true c11
         clear c11
         by_cases c12 : 0 ≤ x5_1
         · rw [if_pos c12] at H
           have c12b0 : decide (0 ≤ x5_1) = true := decide_eq_true c12
           clear c12
           by_cases c13 : x5_1 < (t752.length : Int)
           · rw [if_pos c13] at H
             have c13b0 : decide (x5_1 < (t752.length : Int)) = true := decide_eq_true c13
             clear c13
             by_cases c14 : ((!(((rd_T45 t749 x5_1).f0.f0) == ((rd_T45 t752 x5_1).f0.f0)) || (!(((rd_T45 t749 x5_1).f0.f1) == ((rd_T45 t752 x5_1).f0.f1)) || (!(((rd_T45 t749 x5_1).f0.f2) == ((rd_T45 t752 x5_1).f0.f2))))) || (!(((rd_T45 t749 x5_1).f1) == ((rd_T45 t752 x5_1).f1)))) = true
             · rw [if_pos c14] at H
               have c14b0 : ((!(((rd_T45 t749 x5_1).f0.f0) == ((rd_T45 t752 x5_1).f0.f0)) || (!(((rd_T45 t749 x5_1).f0.f1) == ((rd_T45 t752 x5_1).f0.f1)) || (!(((rd_T45 t749 x5_1).f0.f2) == ((rd_T45 t752 x5_1).f0.f2))))) || (!(((rd_T45 t749 x5_1).f1) == ((rd_T45 t752 x5_1).f1)))) = true := c14
               clear c14
               obtain rfl := Option.some.inj H
               have p755 : 0 ≤ (x5_1 : Int) := za
               have q755 : x5_1 < (t749.length : Int) := za
               (try (obtain ⟨Ax_, cx_, ex_⟩ := Kd.R_slice HO_3.out; subst ex_))
               obtain ⟨ad755, e755, hx755_0, hx755_1, hx755_2, hx755_3⟩ := at_T45 (Kd.R_reads' HO_3.out).2.2 x5_1 p755 q755
               cases e755
               replace p755 := eq_true p755
               replace q755 := eq_true q755
               have p756 : 0 ≤ (x5_1 : Int) := za
               have q756 : x5_1 < (t752.length : Int) := za
               (try (obtain ⟨Ax_, cx_, ex_⟩ := Kd.R_slice HO_4.out; subst ex_))
               obtain ⟨ad756, e756, hx756_0, hx756_1, hx756_2, hx756_3⟩ := at_T45 (Kd.R_reads' HO_4.out).2.2 x5_1 p756 q756
               cases e756
               replace p756 := eq_true p756
               replace q756 := eq_true q756
               go_wp2
               repeat (go_quiet (fail); try go_wp2)
               go_ret
               exact ⟨by first | rfl | (simp [errW_none, errW_some] <;> rfl) | (simp [*, errW_none, errW_some] <;> rfl), by repeat (first | (with_reducible first | exact HB.out | apply below_alloc | apply pw_below_drewN | apply below_drew1) | exact HB.out)⟩
             · rw [if_neg c14] at H
               have c14b0 : ((!(((rd_T45 t749 x5_1).f0.f0) == ((rd_T45 t752 x5_1).f0.f0)) || (!(((rd_T45 t749 x5_1).f0.f1) == ((rd_T45 t752 x5_1).f0.f1)) || (!(((rd_T45 t749 x5_1).f0.f2) == ((rd_T45 t752 x5_1).f0.f2))))) || (!(((rd_T45 t749 x5_1).f1) == ((rd_T45 t752 x5_1).f1)))) = false := by simpa using c14
               clear c14
               have H' := Aside0.mk H
               clear H
               have p755 : 0 ≤ (x5_1 : Int) := za
               have q755 : x5_1 < (t749.length : Int) := za
               (try (obtain ⟨Ax_, cx_, ex_⟩ := Kd.R_slice HO_3.out; subst ex_))
               obtain ⟨ad755, e755, hx755_0, hx755_1, hx755_2, hx755_3⟩ := at_T45 (Kd.R_reads' HO_3.out).2.2 x5_1 p755 q755
               cases e755
               replace p755 := eq_true p755
               replace q755 := eq_true q755
               have p756 : 0 ≤ (x5_1 : Int) := za
               have q756 : x5_1 < (t752.length : Int) := za
               (try (obtain ⟨Ax_, cx_, ex_⟩ := Kd.R_slice HO_4.out; subst ex_))
               obtain ⟨ad756, e756, hx756_0, hx756_1, hx756_2, hx756_3⟩ := at_T45 (Kd.R_reads' HO_4.out).2.2 x5_1 p756 q756
               cases e756
               replace p756 := eq_true p756
               replace q756 := eq_true q756
               go_wp2
               repeat (go_quiet (fail); try go_wp2)
               go_roundg k1
               case measure => have := HK1.out; omega
               case rel => exact ⟨(wrap64 (x5_1 + 1)), (by first | rfl | (simp; done) | (simp [*]; done)), H', ⟨by have := HK1.out; omega⟩, ⟨zR HO_3⟩, ⟨zR HO_4⟩, ⟨zB HB⟩⟩
           · rw [if_neg c13] at H
             exact absurd H (by simp)
         · rw [if_neg c12] at H
           exact absurd H (by simp)
       · rw [if_neg c11] at H
         have c11b0 : decide (x5_1 < (t749.length : Int)) = false := decide_eq_false c11
         clear c11
         by_cases c15 : (t749.length : Int) = 0
         · rw [if_pos c15] at H
           have c15b0 : ((t749.length : Int) == 0) = true := beq_iff_eq.mpr c15
           have c15b1 : ((t749.length : Int) != 0) = false := bne_eq_false_iff_eq.mpr c15
           clear c15
           replace H := Option.bind_eq_some_iff.mp H
           obtain ⟨t757, A160, H⟩ := H
           try dsimp only at H
           have A16 := Aside0.mk A160
           clear A160
           obtain rfl := Option.some.inj H
           go_wp2_with (first | (go_at_call 36; (with_reducible refine (intrusionlaw07_awake.calls k1  t757 _ A16.out).mono ?_); rintro e w17 ⟨rfl, hb⟩; replace HO_3 := Aside0.mk (Kd.R_below (zR HO_3) hb); replace HO_4 := Aside0.mk (Kd.R_below (zR HO_4) hb); replace HB := Aside0.mk (below_step (zB HB) hb); (try clear hb)))
           repeat (go_quiet (first | (go_at_call 36; (with_reducible refine (intrusionlaw07_awake.calls k1  t757 _ A16.out).mono ?_); rintro e w17 ⟨rfl, hb⟩; replace HO_3 := Aside0.mk (Kd.R_below (zR HO_3) hb); replace HO_4 := Aside0.mk (Kd.R_below (zR HO_4) hb); replace HB := Aside0.mk (below_step (zB HB) hb); (try clear hb))); try go_wp2_with (first | (go_at_call 36; (with_reducible refine (intrusionlaw07_awake.calls k1  t757 _ A16.out).mono ?_); rintro e w17 ⟨rfl, hb⟩; replace HO_3 := Aside0.mk (Kd.R_below (zR HO_3) hb); replace HO_4 := Aside0.mk (Kd.R_below (zR HO_4) hb); replace HB := Aside0.mk (below_step (zB HB) hb); (try clear hb))))
           go_ret
           exact ⟨by first | rfl | (simp [errW_none, errW_some] <;> rfl) | (simp [*, errW_none, errW_some] <;> rfl), by repeat (first | (with_reducible first | exact HB.out | apply below_alloc | apply pw_below_drewN | apply below_drew1) | exact HB.out)⟩
         · rw [if_neg c15] at H
           have c15b0 : ((t749.length : Int) == 0) = false := beq_eq_false_iff_ne.mpr c15
           have c15b1 : ((t749.length : Int) != 0) = true := bne_iff_ne.mpr c15
           have c15b2 : ¬ (t749 = []) := fun h_ => c15 (by rw [h_]; rfl)
           replace H := Option.bind_eq_some_iff.mp H
           obtain ⟨t758, A180, H⟩ := H
           try dsimp only at H
           have A18 := Aside0.mk A180
           clear A180
           replace H := Option.bind_eq_some_iff.mp H
           obtain ⟨t761, A190, H⟩ := H
           try dsimp only at H
           have A19 := Aside0.mk A190
           clear A190
           replace H := Option.bind_eq_some_iff.mp H
           obtain ⟨t764, A200, H⟩ := H
           try dsimp only at H
           have A20 := Aside0.mk A200
           clear A200
           by_cases c21 : t764 = true
           · subst c21
             rw [if_pos rfl] at H
             replace H := Option.bind_eq_some_iff.mp H
             obtain ⟨t765, A220, H⟩ := H
             try dsimp only at H
             have A22 := Aside0.mk A220
             clear A220
             obtain rfl := Option.some.inj H
             go_wp2_with (first | (go_at_call 48; (with_reducible refine (addrset_Of.calls k1 _ _ t749 t758 _ ?side1 ?side2 A18.out).mono ?_); (case side1 => repeat (first | exact (Kd.R_reads' HO_3.out).2.2 | (with_reducible refine Kd.C_alloc ?_ _) | (with_reducible refine Kd.C_drewN ?_ _) | (with_reducible refine Kd.C_drew ?_))); (case side2 => exact (Kd.R_reads' HO_3.out).2.1); rintro e w23 ⟨v759, rfl, ho0, hb⟩; replace HO_3 := Aside0.mk (Kd.R_below (zR HO_3) hb); replace HO_4 := Aside0.mk (Kd.R_below (zR HO_4) hb); have HO760 := Aside0.mk (Kd.R_lower ho0 (below_size (zB HB))); replace HB := Aside0.mk (below_step (zB HB) hb); (try clear hb); (try clear ho0)) | (go_at_call 38; (with_reducible refine (addrset_Normal.calls k1 _ _ l0 t761 _ ?side1 ?side2 A19.out).mono ?_); (case side1 => repeat (first | exact (Kd.C_below HR0.out HB.out) | (with_reducible refine Kd.C_alloc ?_ _) | (with_reducible refine Kd.C_drewN ?_ _) | (with_reducible refine Kd.C_drew ?_))); (case side2 => exact HC0.out); rintro e w24 ⟨v762, rfl, ho0, hb⟩; replace HO_3 := Aside0.mk (Kd.R_below (zR HO_3) hb); replace HO_4 := Aside0.mk (Kd.R_below (zR HO_4) hb); have HO763 := Aside0.mk (Kd.R_lower (Kd.R_new' ho0 (Kd.R_lt (zR HO760))) (below_size (zB HB))); replace HO760 := Aside0.mk (Kd.R_elder' (zR HO760) (Kd.R_base ho0) hb); replace HB := Aside0.mk (below_step (zB HB) hb); (try clear hb); (try clear ho0); obtain ⟨Ao25, co25, eo25⟩ := Kd.R_slice HO760.out; subst eo25; obtain ⟨Ao26, co26, eo26⟩ := Kd.R_slice HO763.out; subst eo26) | (go_at_call 37; (with_reducible refine (intrusionref07_Same.calls k1 _ _ t758 _ _ t761 true _ ?side1 ?side2 ?side3 ?side4 A20.out).mono ?_); (case side1 => repeat (first | exact (Kd.R_reads' HO760.out).2.2 | (with_reducible refine Kd.C_alloc ?_ _) | (with_reducible refine Kd.C_drewN ?_ _) | (with_reducible refine Kd.C_drew ?_))); (case side2 => exact (Kd.R_reads' HO760.out).2.1); (case side3 => repeat (first | exact (Kd.R_reads' HO763.out).2.2 | (with_reducible refine Kd.C_alloc ?_ _) | (with_reducible refine Kd.C_drewN ?_ _) | (with_reducible refine Kd.C_drew ?_))); (case side4 => exact (Kd.R_reads' HO763.out).2.1); rintro e w' ⟨rfl, ⟨nd, rfl⟩⟩; (try first | exact ⟨rfl, _, World.drewN_drewN _ _ _⟩ | exact ⟨rfl, _, Eq.trans (World.drewN_drewN _ _ _) (congrArg (World.drewN _) (Nat.add_assoc _ _ _))⟩)) | (go_at_call 36; (with_reducible refine (intrusionlaw07_awake.calls k1  t765 _ A22.out).mono ?_); rintro e w27 ⟨rfl, hb⟩; replace HO_3 := Aside0.mk (Kd.R_below (zR HO_3) hb); replace HO_4 := Aside0.mk (Kd.R_below (zR HO_4) hb); replace HO760 := Aside0.mk (Kd.R_below (zR HO760) hb); replace HO763 := Aside0.mk (Kd.R_below (zR HO763) hb); replace HB := Aside0.mk (below_step (zB HB) hb); (try clear hb)))
             repeat (go_quiet (first | (go_at_call 48; (with_reducible refine (addrset_Of.calls k1 _ _ t749 t758 _ ?side1 ?side2 A18.out).mono ?_); (case side1 => repeat (first | exact (Kd.R_reads' HO_3.out).2.2 | (with_reducible refine Kd.C_alloc ?_ _) | (with_reducible refine Kd.C_drewN ?_ _) | (with_reducible refine Kd.C_drew ?_))); (case side2 => exact (Kd.R_reads' HO_3.out).2.1); rintro e w23 ⟨v759, rfl, ho0, hb⟩; replace HO_3 := Aside0.mk (Kd.R_below (zR HO_3) hb); replace HO_4 := Aside0.mk (Kd.R_below (zR HO_4) hb); have HO760 := Aside0.mk (Kd.R_lower ho0 (below_size (zB HB))); replace HB := Aside0.mk (below_step (zB HB) hb); (try clear hb); (try clear ho0)) | (go_at_call 38; (with_reducible refine (addrset_Normal.calls k1 _ _ l0 t761 _ ?side1 ?side2 A19.out).mono ?_); (case side1 => repeat (first | exact (Kd.C_below HR0.out HB.out) | (with_reducible refine Kd.C_alloc ?_ _) | (with_reducible refine Kd.C_drewN ?_ _) | (with_reducible refine Kd.C_drew ?_))); (case side2 => exact HC0.out); rintro e w24 ⟨v762, rfl, ho0, hb⟩; replace HO_3 := Aside0.mk (Kd.R_below (zR HO_3) hb); replace HO_4 := Aside0.mk (Kd.R_below (zR HO_4) hb); have HO763 := Aside0.mk (Kd.R_lower (Kd.R_new' ho0 (Kd.R_lt (zR HO760))) (below_size (zB HB))); replace HO760 := Aside0.mk (Kd.R_elder' (zR HO760) (Kd.R_base ho0) hb); replace HB := Aside0.mk (below_step (zB HB) hb); (try clear hb); (try clear ho0); obtain ⟨Ao25, co25, eo25⟩ := Kd.R_slice HO760.out; subst eo25; obtain ⟨Ao26, co26, eo26⟩ := Kd.R_slice HO763.out; subst eo26) | (go_at_call 37; (with_reducible refine (intrusionref07_Same.calls k1 _ _ t758 _ _ t761 true _ ?side1 ?side2 ?side3 ?side4 A20.out).mono ?_); (case side1 => repeat (first | exact (Kd.R_reads' HO760.out).2.2 | (with_reducible refine Kd.C_alloc ?_ _) | (with_reducible refine Kd.C_drewN ?_ _) | (with_reducible refine Kd.C_drew ?_))); (case side2 => exact (Kd.R_reads' HO760.out).2.1); (case side3 => repeat (first | exact (Kd.R_reads' HO763.out).2.2 | (with_reducible refine Kd.C_alloc ?_ _) | (with_reducible refine Kd.C_drewN ?_ _) | (with_reducible refine Kd.C_drew ?_))); (case side4 => exact (Kd.R_reads' HO763.out).2.1); rintro e w' ⟨rfl, ⟨nd, rfl⟩⟩; (try first | exact ⟨rfl, _, World.drewN_drewN _ _ _⟩ | exact ⟨rfl, _, Eq.trans (World.drewN_drewN _ _ _) (congrArg (World.drewN _) (Nat.add_assoc _ _ _))⟩)) | (go_at_call 36; (with_reducible refine (intrusionlaw07_awake.calls k1  t765 _ A22.out).mono ?_); rintro e w27 ⟨rfl, hb⟩; replace HO_3 := Aside0.mk (Kd.R_below (zR HO_3) hb); replace HO_4 := Aside0.mk (Kd.R_below (zR HO_4) hb); replace HO760 := Aside0.mk (Kd.R_below (zR HO760) hb); replace HO763 := Aside0.mk (Kd.R_below (zR HO763) hb); replace HB := Aside0.mk (below_step (zB HB) hb); (try clear hb))); try go_wp2_with (first | (go_at_call 48; (with_reducible refine (addrset_Of.calls k1 _ _ t749 t758 _ ?side1 ?side2 A18.out).mono ?_); (case side1 => repeat (first | exact (Kd.R_reads' HO_3.out).2.2 | (with_reducible refine Kd.C_alloc ?_ _) | (with_reducible refine Kd.C_drewN ?_ _) | (with_reducible refine Kd.C_drew ?_))); (case side2 => exact (Kd.R_reads' HO_3.out).2.1); rintro e w23 ⟨v759, rfl, ho0, hb⟩; replace HO_3 := Aside0.mk (Kd.R_below (zR HO_3) hb); replace HO_4 := Aside0.mk (Kd.R_below (zR HO_4) hb); have HO760 := Aside0.mk (Kd.R_lower ho0 (below_size (zB HB))); replace HB := Aside0.mk (below_step (zB HB) hb); (try clear hb); (try clear ho0)) | (go_at_call 38; (with_reducible refine (addrset_Normal.calls k1 _ _ l0 t761 _ ?side1 ?side2 A19.out).mono ?_); (case side1 => repeat (first | exact (Kd.C_below HR0.out HB.out) | (with_reducible refine Kd.C_alloc ?_ _) | (with_reducible refine Kd.C_drewN ?_ _) | (with_reducible refine Kd.C_drew ?_))); (case side2 => exact HC0.out); rintro e w24 ⟨v762, rfl, ho0, hb⟩; replace HO_3 := Aside0.mk (Kd.R_below (zR HO_3) hb); replace HO_4 := Aside0.mk (Kd.R_below (zR HO_4) hb); have HO763 := Aside0.mk (Kd.R_lower (Kd.R_new' ho0 (Kd.R_lt (zR HO760))) (below_size (zB HB))); replace HO760 := Aside0.mk (Kd.R_elder' (zR HO760) (Kd.R_base ho0) hb); replace HB := Aside0.mk (below_step (zB HB) hb); (try clear hb); (try clear ho0); obtain ⟨Ao25, co25, eo25⟩ := Kd.R_slice HO760.out; subst eo25; obtain ⟨Ao26, co26, eo26⟩ := Kd.R_slice HO763.out; subst eo26) | (go_at_call 37; (with_reducible refine (intrusionref07_Same.calls k1 _ _ t758 _ _ t761 true _ ?side1 ?side2 ?side3 ?side4 A20.out).mono ?_); (case side1 => repeat (first | exact (Kd.R_reads' HO760.out).2.2 | (with_reducible refine Kd.C_alloc ?_ _) | (with_reducible refine Kd.C_drewN ?_ _) | (with_reducible refine Kd.C_drew ?_))); (case side2 => exact (Kd.R_reads' HO760.out).2.1); (case side3 => repeat (first | exact (Kd.R_reads' HO763.out).2.2 | (with_reducible refine Kd.C_alloc ?_ _) | (with_reducible refine Kd.C_drewN ?_ _) | (with_reducible refine Kd.C_drew ?_))); (case side4 => exact (Kd.R_reads' HO763.out).2.1); rintro e w' ⟨rfl, ⟨nd, rfl⟩⟩; (try first | exact ⟨rfl, _, World.drewN_drewN _ _ _⟩ | exact ⟨rfl, _, Eq.trans (World.drewN_drewN _ _ _) (congrArg (World.drewN _) (Nat.add_assoc _ _ _))⟩)) | (go_at_call 36; (with_reducible refine (intrusionlaw07_awake.calls k1  t765 _ A22.out).mono ?_); rintro e w27 ⟨rfl, hb⟩; replace HO_3 := Aside0.mk (Kd.R_below (zR HO_3) hb); replace HO_4 := Aside0.mk (Kd.R_below (zR HO_4) hb); replace HO760 := Aside0.mk (Kd.R_below (zR HO760) hb); replace HO763 := Aside0.mk (Kd.R_below (zR HO763) hb); replace HB := Aside0.mk (below_step (zB HB) hb); (try clear hb))))
             go_ret
             exact ⟨by first | rfl | (simp [errW_none, errW_some] <;> rfl) | (simp [*, errW_none, errW_some] <;> rfl), by repeat (first | (with_reducible first | exact HB.out | apply below_alloc | apply pw_below_drewN | apply below_drew1) | exact HB.out)⟩
           · replace c21 := Bool.eq_false_iff.mpr c21
             subst c21
             rw [if_neg zF] at H
             obtain rfl := Option.some.inj H
             go_wp2_with (first | (go_at_call 48; (with_reducible refine (addrset_Of.calls k1 _ _ t749 t758 _ ?side1 ?side2 A18.out).mono ?_); (case side1 => repeat (first | exact (Kd.R_reads' HO_3.out).2.2 | (with_reducible refine Kd.C_alloc ?_ _) | (with_reducible refine Kd.C_drewN ?_ _) | (with_reducible refine Kd.C_drew ?_))); (case side2 => exact (Kd.R_reads' HO_3.out).2.1); rintro e w28 ⟨v759, rfl, ho0, hb⟩; replace HO_3 := Aside0.mk (Kd.R_below (zR HO_3) hb); replace HO_4 := Aside0.mk (Kd.R_below (zR HO_4) hb); have HO760 := Aside0.mk (Kd.R_lower ho0 (below_size (zB HB))); replace HB := Aside0.mk (below_step (zB HB) hb); (try clear hb); (try clear ho0)) | (go_at_call 38; (with_reducible refine (addrset_Normal.calls k1 _ _ l0 t761 _ ?side1 ?side2 A19.out).mono ?_); (case side1 => repeat (first | exact (Kd.C_below HR0.out HB.out) | (with_reducible refine Kd.C_alloc ?_ _) | (with_reducible refine Kd.C_drewN ?_ _) | (with_reducible refine Kd.C_drew ?_))); (case side2 => exact HC0.out); rintro e w29 ⟨v762, rfl, ho0, hb⟩; replace HO_3 := Aside0.mk (Kd.R_below (zR HO_3) hb); replace HO_4 := Aside0.mk (Kd.R_below (zR HO_4) hb); have HO763 := Aside0.mk (Kd.R_lower (Kd.R_new' ho0 (Kd.R_lt (zR HO760))) (below_size (zB HB))); replace HO760 := Aside0.mk (Kd.R_elder' (zR HO760) (Kd.R_base ho0) hb); replace HB := Aside0.mk (below_step (zB HB) hb); (try clear hb); (try clear ho0); obtain ⟨Ao30, co30, eo30⟩ := Kd.R_slice HO760.out; subst eo30; obtain ⟨Ao31, co31, eo31⟩ := Kd.R_slice HO763.out; subst eo31) | (go_at_call 37; (with_reducible refine (intrusionref07_Same.calls k1 _ _ t758 _ _ t761 false _ ?side1 ?side2 ?side3 ?side4 A20.out).mono ?_); (case side1 => repeat (first | exact (Kd.R_reads' HO760.out).2.2 | (with_reducible refine Kd.C_alloc ?_ _) | (with_reducible refine Kd.C_drewN ?_ _) | (with_reducible refine Kd.C_drew ?_))); (case side2 => exact (Kd.R_reads' HO760.out).2.1); (case side3 => repeat (first | exact (Kd.R_reads' HO763.out).2.2 | (with_reducible refine Kd.C_alloc ?_ _) | (with_reducible refine Kd.C_drewN ?_ _) | (with_reducible refine Kd.C_drew ?_))); (case side4 => exact (Kd.R_reads' HO763.out).2.1); rintro e w' ⟨rfl, ⟨nd, rfl⟩⟩; (try first | exact ⟨rfl, _, World.drewN_drewN _ _ _⟩ | exact ⟨rfl, _, Eq.trans (World.drewN_drewN _ _ _) (congrArg (World.drewN _) (Nat.add_assoc _ _ _))⟩)))
             repeat (go_quiet (first | (go_at_call 48; (with_reducible refine (addrset_Of.calls k1 _ _ t749 t758 _ ?side1 ?side2 A18.out).mono ?_); (case side1 => repeat (first | exact (Kd.R_reads' HO_3.out).2.2 | (with_reducible refine Kd.C_alloc ?_ _) | (with_reducible refine Kd.C_drewN ?_ _) | (with_reducible refine Kd.C_drew ?_))); (case side2 => exact (Kd.R_reads' HO_3.out).2.1); rintro e w28 ⟨v759, rfl, ho0, hb⟩; replace HO_3 := Aside0.mk (Kd.R_below (zR HO_3) hb); replace HO_4 := Aside0.mk (Kd.R_below (zR HO_4) hb); have HO760 := Aside0.mk (Kd.R_lower ho0 (below_size (zB HB))); replace HB := Aside0.mk (below_step (zB HB) hb); (try clear hb); (try clear ho0)) | (go_at_call 38; (with_reducible refine (addrset_Normal.calls k1 _ _ l0 t761 _ ?side1 ?side2 A19.out).mono ?_); (case side1 => repeat (first | exact (Kd.C_below HR0.out HB.out) | (with_reducible refine Kd.C_alloc ?_ _) | (with_reducible refine Kd.C_drewN ?_ _) | (with_reducible refine Kd.C_drew ?_))); (case side2 => exact HC0.out); rintro e w29 ⟨v762, rfl, ho0, hb⟩; replace HO_3 := Aside0.mk (Kd.R_below (zR HO_3) hb); replace HO_4 := Aside0.mk (Kd.R_below (zR HO_4) hb); have HO763 := Aside0.mk (Kd.R_lower (Kd.R_new' ho0 (Kd.R_lt (zR HO760))) (below_size (zB HB))); replace HO760 := Aside0.mk (Kd.R_elder' (zR HO760) (Kd.R_base ho0) hb); replace HB := Aside0.mk (below_step (zB HB) hb); (try clear hb); (try clear ho0); obtain ⟨Ao30, co30, eo30⟩ := Kd.R_slice HO760.out; subst eo30; obtain ⟨Ao31, co31, eo31⟩ := Kd.R_slice HO763.out; subst eo31) | (go_at_call 37; (with_reducible refine (intrusionref07_Same.calls k1 _ _ t758 _ _ t761 false _ ?side1 ?side2 ?side3 ?side4 A20.out).mono ?_); (case side1 => repeat (first | exact (Kd.R_reads' HO760.out).2.2 | (with_reducible refine Kd.C_alloc ?_ _) | (with_reducible refine Kd.C_drewN ?_ _) | (with_reducible refine Kd.C_drew ?_))); (case side2 => exact (Kd.R_reads' HO760.out).2.1); (case side3 => repeat (first | exact (Kd.R_reads' HO763.out).2.2 | (with_reducible refine Kd.C_alloc ?_ _) | (with_reducible refine Kd.C_drewN ?_ _) | (with_reducible refine Kd.C_drew ?_))); (case side4 => exact (Kd.R_reads' HO763.out).2.1); rintro e w' ⟨rfl, ⟨nd, rfl⟩⟩; (try first | exact ⟨rfl, _, World.drewN_drewN _ _ _⟩ | exact ⟨rfl, _, Eq.trans (World.drewN_drewN _ _ _) (congrArg (World.drewN _) (Nat.add_assoc _ _ _))⟩))); try go_wp2_with (first | (go_at_call 48; (with_reducible refine (addrset_Of.calls k1 _ _ t749 t758 _ ?side1 ?side2 A18.out).mono ?_); (case side1 => repeat (first | exact (Kd.R_reads' HO_3.out).2.2 | (with_reducible refine Kd.C_alloc ?_ _) | (with_reducible refine Kd.C_drewN ?_ _) | (with_reducible refine Kd.C_drew ?_))); (case side2 => exact (Kd.R_reads' HO_3.out).2.1); rintro e w28 ⟨v759, rfl, ho0, hb⟩; replace HO_3 := Aside0.mk (Kd.R_below (zR HO_3) hb); replace HO_4 := Aside0.mk (Kd.R_below (zR HO_4) hb); have HO760 := Aside0.mk (Kd.R_lower ho0 (below_size (zB HB))); replace HB := Aside0.mk (below_step (zB HB) hb); (try clear hb); (try clear ho0)) | (go_at_call 38; (with_reducible refine (addrset_Normal.calls k1 _ _ l0 t761 _ ?side1 ?side2 A19.out).mono ?_); (case side1 => repeat (first | exact (Kd.C_below HR0.out HB.out) | (with_reducible refine Kd.C_alloc ?_ _) | (with_reducible refine Kd.C_drewN ?_ _) | (with_reducible refine Kd.C_drew ?_))); (case side2 => exact HC0.out); rintro e w29 ⟨v762, rfl, ho0, hb⟩; replace HO_3 := Aside0.mk (Kd.R_below (zR HO_3) hb); replace HO_4 := Aside0.mk (Kd.R_below (zR HO_4) hb); have HO763 := Aside0.mk (Kd.R_lower (Kd.R_new' ho0 (Kd.R_lt (zR HO760))) (below_size (zB HB))); replace HO760 := Aside0.mk (Kd.R_elder' (zR HO760) (Kd.R_base ho0) hb); replace HB := Aside0.mk (below_step (zB HB) hb); (try clear hb); (try clear ho0); obtain ⟨Ao30, co30, eo30⟩ := Kd.R_slice HO760.out; subst eo30; obtain ⟨Ao31, co31, eo31⟩ := Kd.R_slice HO763.out; subst eo31) | (go_at_call 37; (with_reducible refine (intrusionref07_Same.calls k1 _ _ t758 _ _ t761 false _ ?side1 ?side2 ?side3 ?side4 A20.out).mono ?_); (case side1 => repeat (first | exact (Kd.R_reads' HO760.out).2.2 | (with_reducible refine Kd.C_alloc ?_ _) | (with_reducible refine Kd.C_drewN ?_ _) | (with_reducible refine Kd.C_drew ?_))); (case side2 => exact (Kd.R_reads' HO760.out).2.1); (case side3 => repeat (first | exact (Kd.R_reads' HO763.out).2.2 | (with_reducible refine Kd.C_alloc ?_ _) | (with_reducible refine Kd.C_drewN ?_ _) | (with_reducible refine Kd.C_drew ?_))); (case side4 => exact (Kd.R_reads' HO763.out).2.1); rintro e w' ⟨rfl, ⟨nd, rfl⟩⟩; (try first | exact ⟨rfl, _, World.drewN_drewN _ _ _⟩ | exact ⟨rfl, _, Eq.trans (World.drewN_drewN _ _ _) (congrArg (World.drewN _) (Nat.add_assoc _ _ _))⟩))))
             go_ret
             exact ⟨by first | rfl | (simp [errW_none, errW_some] <;> rfl) | (simp [*, errW_none, errW_some] <;> rfl), by repeat (first | (with_reducible first | exact HB.out | apply below_alloc | apply pw_below_drewN | apply below_drew1) | exact HB.out)⟩
   · rw [if_neg c6] at H
     have c6b0 : ((t749.length : Int) == (t752.length : Int)) = false := beq_eq_false_iff_ne.mpr c6
     have c6b1 : ((t749.length : Int) != (t752.length : Int)) = true := bne_iff_ne.mpr c6
     have c6b2 : (t749.length == t752.length) = false := by first | simpa using c6 | (simp at c6 ⊢; omega)
     obtain rfl := Option.some.inj H
     go_enter Try.func10, Try.ntmps10
     go_wp2_with (first | (go_at_call 35; (refine (intrusionlaw07_few.calls _ _ l0 _ _ ([] : List (S66)) true _ ?side1 ?side2 ?side3 ?side4 A2.out).mono ?_); (case side1 => repeat (first | exact HR0.out | (with_reducible refine Kd.C_alloc ?_ _) | (with_reducible refine Kd.C_drewN ?_ _) | (with_reducible refine Kd.C_drew ?_))); (case side2 => exact HC0.out); (case side3 => exact Kd.C_nil _ _); (case side4 => exact Nat.le_refl _); rintro e w' ⟨rfl, ⟨nd, rfl⟩⟩; (try first | exact ⟨rfl, _, World.drewN_drewN _ _ _⟩ | exact ⟨rfl, _, Eq.trans (World.drewN_drewN _ _ _) (congrArg (World.drewN _) (Nat.add_assoc _ _ _))⟩)) | (go_at_call 46; (with_reducible refine (addrset_Prefixes.calls k _ _ l0 t749 _ ?side1 ?side2 A4.out).mono ?_); (case side1 => repeat (first | exact HR0.out | (with_reducible refine Kd.C_alloc ?_ _) | (with_reducible refine Kd.C_drewN ?_ _) | (with_reducible refine Kd.C_drew ?_))); (case side2 => exact HC0.out); rintro e w32 ⟨v750, rfl, ho0, hb⟩; have HO751 := Aside0.mk (Kd.R_lower ho0 (below_size (zB HB))); replace HB := Aside0.mk (below_step (zB HB) hb); (try clear hb); (try clear ho0)) | (go_at_call 47; (with_reducible refine (intrusionref07_Prefixes.calls k _ _ l0 t752 _ ?side1 ?side2 A5.out).mono ?_); (case side1 => repeat (first | exact (Kd.C_below HR0.out HB.out) | (with_reducible refine Kd.C_alloc ?_ _) | (with_reducible refine Kd.C_drewN ?_ _) | (with_reducible refine Kd.C_drew ?_))); (case side2 => exact HC0.out); rintro e w33 ⟨v753, rfl, ho0, hb⟩; have HO754 := Aside0.mk (Kd.R_lower (Kd.R_new' ho0 (Kd.R_lt (zR HO751))) (below_size (zB HB))); replace HO751 := Aside0.mk (Kd.R_elder' (zR HO751) (Kd.R_base ho0) hb); replace HB := Aside0.mk (below_step (zB HB) hb); (try clear hb); (try clear ho0); obtain ⟨Ao34, co34, eo34⟩ := Kd.R_slice HO751.out; subst eo34; obtain ⟨Ao35, co35, eo35⟩ := Kd.R_slice HO754.out; subst eo35))
     repeat (go_quiet (first | (go_at_call 35; (refine (intrusionlaw07_few.calls _ _ l0 _ _ ([] : List (S66)) true _ ?side1 ?side2 ?side3 ?side4 A2.out).mono ?_); (case side1 => repeat (first | exact HR0.out | (with_reducible refine Kd.C_alloc ?_ _) | (with_reducible refine Kd.C_drewN ?_ _) | (with_reducible refine Kd.C_drew ?_))); (case side2 => exact HC0.out); (case side3 => exact Kd.C_nil _ _); (case side4 => exact Nat.le_refl _); rintro e w' ⟨rfl, ⟨nd, rfl⟩⟩; (try first | exact ⟨rfl, _, World.drewN_drewN _ _ _⟩ | exact ⟨rfl, _, Eq.trans (World.drewN_drewN _ _ _) (congrArg (World.drewN _) (Nat.add_assoc _ _ _))⟩)) | (go_at_call 46; (with_reducible refine (addrset_Prefixes.calls k _ _ l0 t749 _ ?side1 ?side2 A4.out).mono ?_); (case side1 => repeat (first | exact HR0.out | (with_reducible refine Kd.C_alloc ?_ _) | (with_reducible refine Kd.C_drewN ?_ _) | (with_reducible refine Kd.C_drew ?_))); (case side2 => exact HC0.out); rintro e w32 ⟨v750, rfl, ho0, hb⟩; have HO751 := Aside0.mk (Kd.R_lower ho0 (below_size (zB HB))); replace HB := Aside0.mk (below_step (zB HB) hb); (try clear hb); (try clear ho0)) | (go_at_call 47; (with_reducible refine (intrusionref07_Prefixes.calls k _ _ l0 t752 _ ?side1 ?side2 A5.out).mono ?_); (case side1 => repeat (first | exact (Kd.C_below HR0.out HB.out) | (with_reducible refine Kd.C_alloc ?_ _) | (with_reducible refine Kd.C_drewN ?_ _) | (with_reducible refine Kd.C_drew ?_))); (case side2 => exact HC0.out); rintro e w33 ⟨v753, rfl, ho0, hb⟩; have HO754 := Aside0.mk (Kd.R_lower (Kd.R_new' ho0 (Kd.R_lt (zR HO751))) (below_size (zB HB))); replace HO751 := Aside0.mk (Kd.R_elder' (zR HO751) (Kd.R_base ho0) hb); replace HB := Aside0.mk (below_step (zB HB) hb); (try clear hb); (try clear ho0); obtain ⟨Ao34, co34, eo34⟩ := Kd.R_slice HO751.out; subst eo34; obtain ⟨Ao35, co35, eo35⟩ := Kd.R_slice HO754.out; subst eo35)); try go_wp2_with (first | (go_at_call 35; (refine (intrusionlaw07_few.calls _ _ l0 _ _ ([] : List (S66)) true _ ?side1 ?side2 ?side3 ?side4 A2.out).mono ?_); (case side1 => repeat (first | exact HR0.out | (with_reducible refine Kd.C_alloc ?_ _) | (with_reducible refine Kd.C_drewN ?_ _) | (with_reducible refine Kd.C_drew ?_))); (case side2 => exact HC0.out); (case side3 => exact Kd.C_nil _ _); (case side4 => exact Nat.le_refl _); rintro e w' ⟨rfl, ⟨nd, rfl⟩⟩; (try first | exact ⟨rfl, _, World.drewN_drewN _ _ _⟩ | exact ⟨rfl, _, Eq.trans (World.drewN_drewN _ _ _) (congrArg (World.drewN _) (Nat.add_assoc _ _ _))⟩)) | (go_at_call 46; (with_reducible refine (addrset_Prefixes.calls k _ _ l0 t749 _ ?side1 ?side2 A4.out).mono ?_); (case side1 => repeat (first | exact HR0.out | (with_reducible refine Kd.C_alloc ?_ _) | (with_reducible refine Kd.C_drewN ?_ _) | (with_reducible refine Kd.C_drew ?_))); (case side2 => exact HC0.out); rintro e w32 ⟨v750, rfl, ho0, hb⟩; have HO751 := Aside0.mk (Kd.R_lower ho0 (below_size (zB HB))); replace HB := Aside0.mk (below_step (zB HB) hb); (try clear hb); (try clear ho0)) | (go_at_call 47; (with_reducible refine (intrusionref07_Prefixes.calls k _ _ l0 t752 _ ?side1 ?side2 A5.out).mono ?_); (case side1 => repeat (first | exact (Kd.C_below HR0.out HB.out) | (with_reducible refine Kd.C_alloc ?_ _) | (with_reducible refine Kd.C_drewN ?_ _) | (with_reducible refine Kd.C_drew ?_))); (case side2 => exact HC0.out); rintro e w33 ⟨v753, rfl, ho0, hb⟩; have HO754 := Aside0.mk (Kd.R_lower (Kd.R_new' ho0 (Kd.R_lt (zR HO751))) (below_size (zB HB))); replace HO751 := Aside0.mk (Kd.R_elder' (zR HO751) (Kd.R_base ho0) hb); replace HB := Aside0.mk (below_step (zB HB) hb); (try clear hb); (try clear ho0); obtain ⟨Ao34, co34, eo34⟩ := Kd.R_slice HO751.out; subst eo34; obtain ⟨Ao35, co35, eo35⟩ := Kd.R_slice HO754.out; subst eo35)))
     go_ret
     exact ⟨by first | rfl | (simp [errW_none, errW_some] <;> rfl) | (simp [*, errW_none, errW_some] <;> rfl), by repeat (first | (with_reducible first | exact HB.out | apply below_alloc | apply pw_below_drewN | apply below_drew1) | exact HB.out)⟩
 · replace c3 := Bool.eq_false_iff.mpr c3
   subst c3
   rw [if_neg zF] at H
   replace H := Option.bind_eq_some_iff.mp H
   obtain ⟨t748, A360, H⟩ := H
   try dsimp only at H
   have A36 := Aside0.mk A360
   clear A360
   obtain rfl := Option.some.inj H
   go_enter Try.func10, Try.ntmps10
   go_wp2_with (first | (go_at_call 35; (refine (intrusionlaw07_few.calls _ _ l0 _ _ ([] : List (S66)) false _ ?side1 ?side2 ?side3 ?side4 A2.out).mono ?_); (case side1 => repeat (first | exact HR0.out | (with_reducible refine Kd.C_alloc ?_ _) | (with_reducible refine Kd.C_drewN ?_ _) | (with_reducible refine Kd.C_drew ?_))); (case side2 => exact HC0.out); (case side3 => exact Kd.C_nil _ _); (case side4 => exact Nat.le_refl _); rintro e w' ⟨rfl, ⟨nd, rfl⟩⟩; (try first | exact ⟨rfl, _, World.drewN_drewN _ _ _⟩ | exact ⟨rfl, _, Eq.trans (World.drewN_drewN _ _ _) (congrArg (World.drewN _) (Nat.add_assoc _ _ _))⟩)) | (go_at_call 36; (with_reducible refine (intrusionlaw07_awake.calls k  t748 _ A36.out).mono ?_); rintro e w37 ⟨rfl, hb⟩; replace HB := Aside0.mk (below_step (zB HB) hb); (try clear hb)))
   repeat (go_quiet (first | (go_at_call 35; (refine (intrusionlaw07_few.calls _ _ l0 _ _ ([] : List (S66)) false _ ?side1 ?side2 ?side3 ?side4 A2.out).mono ?_); (case side1 => repeat (first | exact HR0.out | (with_reducible refine Kd.C_alloc ?_ _) | (with_reducible refine Kd.C_drewN ?_ _) | (with_reducible refine Kd.C_drew ?_))); (case side2 => exact HC0.out); (case side3 => exact Kd.C_nil _ _); (case side4 => exact Nat.le_refl _); rintro e w' ⟨rfl, ⟨nd, rfl⟩⟩; (try first | exact ⟨rfl, _, World.drewN_drewN _ _ _⟩ | exact ⟨rfl, _, Eq.trans (World.drewN_drewN _ _ _) (congrArg (World.drewN _) (Nat.add_assoc _ _ _))⟩)) | (go_at_call 36; (with_reducible refine (intrusionlaw07_awake.calls k  t748 _ A36.out).mono ?_); rintro e w37 ⟨rfl, hb⟩; replace HB := Aside0.mk (below_step (zB HB) hb); (try clear hb))); try go_wp2_with (first | (go_at_call 35; (refine (intrusionlaw07_few.calls _ _ l0 _ _ ([] : List (S66)) false _ ?side1 ?side2 ?side3 ?side4 A2.out).mono ?_); (case side1 => repeat (first | exact HR0.out | (with_reducible refine Kd.C_alloc ?_ _) | (with_reducible refine Kd.C_drewN ?_ _) | (with_reducible refine Kd.C_drew ?_))); (case side2 => exact HC0.out); (case side3 => exact Kd.C_nil _ _); (case side4 => exact Nat.le_refl _); rintro e w' ⟨rfl, ⟨nd, rfl⟩⟩; (try first | exact ⟨rfl, _, World.drewN_drewN _ _ _⟩ | exact ⟨rfl, _, Eq.trans (World.drewN_drewN _ _ _) (congrArg (World.drewN _) (Nat.add_assoc _ _ _))⟩)) | (go_at_call 36; (with_reducible refine (intrusionlaw07_awake.calls k  t748 _ A36.out).mono ?_); rintro e w37 ⟨rfl, hb⟩; replace HB := Aside0.mk (below_step (zB HB) hb); (try clear hb))))
   go_ret
   exact ⟨by first | rfl | (simp [errW_none, errW_some] <;> rfl) | (simp [*, errW_none, errW_some] <;> rfl), by repeat (first | (with_reducible first | exact HB.out | apply below_alloc | apply pw_below_drewN | apply below_drew1) | exact HB.out)⟩
end Go.Proofs.Ytcgfpffgiimgmaa.Q
end

section
set_option linter.unusedVariables false
namespace Go.Proofs.Ytcgfpffgiimgmaa.Read
open Go.RowKit Go.Deep Go.WideShapes Go.Proofs.YtcgfpffgiimgmaaW.PrintWords
def Reads {α : Type} (P : Program) (W : World) (d : Kd α) (Q : α → Prop) (t : TypeId) : Prop :=
  ∀ (H : Type) (enc : TypeId × Value → H) (fuel : Nat) (cs : List Value) (x : DataW H × List MemPlace), DataW.trod enc P W 0 (fun _ => true) true fuel t cs = some x → ∃ y, d.K W y cs ∧ Q y
section
variable {P : Program} {W : World}
theorem reads_int {k : IntKind} {t : TypeId} (ht : P.underlying t = some (.int k)) : Reads P W (Kd.int k) (fun n => (Lit.int k n).wf = true) t := by
  intro H enc fuel cs x h
  obtain ⟨n, rfl, _, hw⟩ := DataW.trod_int ht h
  exact ⟨n, rfl, hw⟩
theorem reads_bool {t : TypeId} (ht : P.underlying t = some .bool) : Reads P W Kd.bool (fun _ => True) t := by
  intro H enc fuel cs x h
  obtain ⟨n, rfl, _⟩ := DataW.trod_bool ht h
  exact ⟨n, rfl, trivial⟩
theorem cells_at {a : Addr} {n : Nat} {cs : List Value} (h : W.cells? 0 a n = some cs) : ∀ i u, cs[i]? = some u → W.cell? (a.add i) = some u := by
  obtain ⟨_, hl, hc⟩ := World.cells?_some h
  intro i u hi
  have hlt : i < cs.length := (List.getElem?_eq_some_iff.1 hi).1
  rw [hc i (by omega), hi]
theorem reads_slice {α : Type} {d : Kd α} {Q : α → Prop} {t e : TypeId} (ht : P.underlying t = some (.slice e)) (hc : P.cellsOf e = d.sz) (he : Reads P W d Q e) :
    Reads P W (Kd.slice e d) (fun xs => xs.length ≤ maxLen ∧ ∀ x ∈ xs, Q x) t := by
  intro H enc fuel cs x h
  rcases open_slice ht h with ⟨rfl, _⟩ | ⟨a, len, cap, m, n, D, Pl, rfl, _, hl, hm, hmm, _, hx⟩
  · exact ⟨[], ⟨none, 0, rfl, Nat.le_refl _, ⟨rfl, by simp, fun h => absurd h (by simp)⟩⟩, by simp⟩
  · have hml : m = cap := by simpa using hmm
    have hy : ∀ i : Fin len, ∃ y, (∃ cs', cs'.length = d.sz ∧ d.K W y cs' ∧ ∀ j u, cs'[j]? = some u → W.cell? (a.add (i.1 * d.sz + j)) = some u) ∧ Q y := by
      intro i
      obtain ⟨cs', h1, h2⟩ := hx i.1 (by omega)
      obtain ⟨y, hk, hq⟩ := he H enc n cs' _ h2
      refine ⟨y, ⟨cs', d.K_len hk, hk, fun j u hj => ?_⟩, hq⟩
      have := cells_at h1 j u hj
      rwa [hc, Addr.add_add] at this
    have hf : ∃ f : Fin len → α, ∀ i, (∃ cs', cs'.length = d.sz ∧ d.K W (f i) cs' ∧ ∀ j u, cs'[j]? = some u → W.cell? (a.add (i.1 * d.sz + j)) = some u) ∧ Q (f i) := ⟨fun i => Classical.choose (hy i), fun i => Classical.choose_spec (hy i)⟩
    obtain ⟨f, hf⟩ := hf
    refine ⟨List.ofFn f, ⟨some a, cap, by simp, by simpa using hl, ⟨rfl, by simp [maxLen] at hm ⊢; omega, fun _ => ⟨a, rfl, fun j p hj => ?_⟩⟩⟩, by simpa using Nat.le_trans hl hm, fun y hy => ?_⟩
    · obtain ⟨hlt, rfl⟩ := List.getElem?_eq_some_iff.1 hj
      have hjl : j < len := by simpa using hlt
      rw [List.getElem_ofFn]
      exact (hf ⟨j, hjl⟩).1
    · obtain ⟨j, hj, rfl⟩ := List.getElem_of_mem hy
      rw [List.getElem_ofFn]
      exact (hf _).2
theorem pair_mk {α β : Type} {a : Kd α} {b : Kd β} {x : α} {y : β} {cs : List Value} (s : Nat) (h0 : a.K W x (cs.take s)) (h1 : b.K W y (cs.drop s)) : (Kd.pair a b).K W (x, y) cs :=
  ⟨cs.take s, cs.drop s, (List.take_append_drop s cs).symm, h0, h1⟩
theorem field_at {α : Type} {d : Kd α} {Q : α → Prop} {fs : Array Field} {H : Type} {enc : TypeId × Value → H} {n : Nat} {cs : List Value} {xs : List (DataW H × List MemPlace)} (hl : xs.length = fs.size)
    (hf : ∀ (i : Nat) (f : Field), fs[i]? = some f → DataW.trod enc P W 0 (fun _ => true) true n f.type ((cs.drop f.offset).take (P.cellsOf f.type)) = xs[i]?)
    (i : Nat) {f : Field} (hi : fs[i]? = some f) {t off sz : Nat} (ht : f.type = t) (ho : f.offset = off) (hc : P.cellsOf t = sz) (hr : Reads P W d Q t) : ∃ y, d.K W y ((cs.drop off).take sz) ∧ Q y := by
  subst ht ho hc
  have h := hf i f hi
  have hlt : i < xs.length := by rw [hl]; exact (Array.getElem?_eq_some_iff.1 hi).1
  rw [List.getElem?_eq_getElem hlt] at h
  exact hr H enc n _ _ h
end
end Go.Proofs.Ytcgfpffgiimgmaa.Read
end

section
set_option linter.unusedVariables false
namespace Go.Proofs.Ytcgfpffgiimgmaa.Q
open Go.RowKit Go.Proofs.YtcgfpffgiimgmaaW.PrintWords Go.Proofs.Ytcgfpffgiimgmaa.Read
def q36 (x : S36) : Prop := True ∧ (Lit.int .u64 x.f1).wf = true ∧ (Lit.int .u64 x.f2).wf = true
theorem reads_k36 (W : World) : Reads Try.prog W k36 q36 36 := by
  intro H enc fuel cs x h
  obtain ⟨xs, n, rfl, _, hcl, hxl, hf⟩ := DataW.trod_struct Try.underlying36 h
  have hc : cs.length = 3 := hcl.trans (by kernel_rfl)
  obtain ⟨y0, h0, g0⟩ := field_at hxl hf 0 rfl (t := 4) (off := 0) (sz := 1) rfl rfl (by kernel_rfl) (reads_bool Try.underlying4)
  obtain ⟨y1, h1, g1⟩ := field_at hxl hf 1 rfl (t := 34) (off := 1) (sz := 1) rfl rfl (by kernel_rfl) (reads_int Try.underlying34)
  obtain ⟨y2, h2, g2⟩ := field_at hxl hf 2 rfl (t := 34) (off := 2) (sz := 1) rfl rfl (by kernel_rfl) (reads_int Try.underlying34)
  refine ⟨⟨y0, y1, y2⟩, ?_, ⟨g0, g1, g2⟩⟩
  rw [show (cs.drop 0).take 1 = (cs.drop 0).take 1 from rfl] at h0
  rw [show (cs.drop 1).take 1 = (cs.drop 1).take 1 from rfl] at h1
  rw [show (cs.drop 2).take 1 = (cs.drop 2) from List.take_of_length_le (by rw [List.length_drop, hc]; decide)] at h2
  skip
  simp only [show 2 = 1 + 1 from rfl, ← List.drop_drop] at h2
  have e0 : cs.drop 0 = cs := rfl
  rw [e0] at h0
  exact pair_mk (a := Kd.bool) 1 h0 (pair_mk (a := (Kd.int .u64)) 1 h1 (h2))
def q66 (x : S66) : Prop := q36 x.f0 ∧ q36 x.f1
theorem reads_k66 (W : World) : Reads Try.prog W k66 q66 66 := by
  intro H enc fuel cs x h
  obtain ⟨xs, n, rfl, _, hcl, hxl, hf⟩ := DataW.trod_struct Try.underlying66 h
  have hc : cs.length = 6 := hcl.trans (by kernel_rfl)
  obtain ⟨y0, h0, g0⟩ := field_at hxl hf 0 rfl (t := 36) (off := 0) (sz := 3) rfl rfl (by kernel_rfl) (reads_k36 W)
  obtain ⟨y1, h1, g1⟩ := field_at hxl hf 1 rfl (t := 36) (off := 3) (sz := 3) rfl rfl (by kernel_rfl) (reads_k36 W)
  refine ⟨⟨y0, y1⟩, ?_, ⟨g0, g1⟩⟩
  rw [show (cs.drop 0).take 3 = (cs.drop 0).take 3 from rfl] at h0
  rw [show (cs.drop 3).take 3 = (cs.drop 3) from List.take_of_length_le (by rw [List.length_drop, hc]; decide)] at h1
  skip
  have e0 : cs.drop 0 = cs := rfl
  rw [e0] at h0
  exact pair_mk (a := k36) 3 h0 (h1)
end Go.Proofs.Ytcgfpffgiimgmaa.Q
end

section
namespace Go.Proofs.Ytcgfpffgiimgmaa.Canon
abbrev Sp := Int × Int
def Mem (l : List Sp) (n : Int) : Prop := ∃ x, x ∈ l ∧ x.1 ≤ n ∧ n ≤ x.2
def CanFrom : Int → List Sp → Prop
  | _, [] => True
  | lo, x :: t => lo ≤ x.1 ∧ x.1 ≤ x.2 ∧ CanFrom (x.2 + 2) t
theorem mem_nil (n : Int) : Mem [] n ↔ False := by simp [Mem]
theorem mem_cons (x : Sp) (t : List Sp) (n : Int) : Mem (x :: t) n ↔ (x.1 ≤ n ∧ n ≤ x.2) ∨ Mem t n := by
  simp only [Mem, List.mem_cons]
  constructor
  · rintro ⟨y, rfl | hy, h⟩
    · exact .inl h
    · exact .inr ⟨y, hy, h⟩
  · rintro (h | ⟨y, hy, h⟩)
    · exact ⟨x, .inl rfl, h⟩
    · exact ⟨y, .inr hy, h⟩
theorem mem_append (a b : List Sp) (n : Int) : Mem (a ++ b) n ↔ Mem a n ∨ Mem b n := by
  induction a with
  | nil => simp [mem_nil]
  | cons x t ih => simp only [List.cons_append, mem_cons, ih]; exact or_assoc.symm
theorem CanFrom.mono {lo lo' : Int} {l : List Sp} (h : lo' ≤ lo) (c : CanFrom lo l) : CanFrom lo' l := by
  cases l with
  | nil => trivial
  | cons x t => exact ⟨Int.le_trans h c.1, c.2⟩
theorem CanFrom.ge : ∀ {l : List Sp} {lo n : Int}, CanFrom lo l → Mem l n → lo ≤ n
  | [], _, _, _, h => ((mem_nil _).1 h).elim
  | x :: t, lo, n, c, h => by
    rcases (mem_cons x t n).1 h with h | h
    · have := c.1; omega
    · have := CanFrom.ge c.2.2 h; have := c.1; have := c.2.1; omega
theorem uniq : ∀ (a b : List Sp) (lo : Int), CanFrom lo a → CanFrom lo b → (∀ n, Mem a n ↔ Mem b n) → a = b
  | [], [], _, _, _, _ => rfl
  | [], y :: t, _, _, cb, h => by
    have := (h y.1).2 ((mem_cons y t _).2 (.inl ⟨Int.le_refl _, cb.2.1⟩))
    exact ((mem_nil _).1 this).elim
  | x :: s, [], _, ca, _, h => by
    have := (h x.1).1 ((mem_cons x s _).2 (.inl ⟨Int.le_refl _, ca.2.1⟩))
    exact ((mem_nil _).1 this).elim
  | x :: s, y :: t, lo, ca, cb, h => by
    have hx : ∀ n, Mem (x :: s) n → x.1 ≤ n := fun n hn => CanFrom.ge (lo := x.1) (l := x :: s) ⟨Int.le_refl _, ca.2⟩ hn
    have hy : ∀ n, Mem (y :: t) n → y.1 ≤ n := fun n hn => CanFrom.ge (lo := y.1) (l := y :: t) ⟨Int.le_refl _, cb.2⟩ hn
    have e1 : x.1 = y.1 := by
      have a1 := hy _ ((h x.1).1 ((mem_cons x s _).2 (.inl ⟨Int.le_refl _, ca.2.1⟩)))
      have a2 := hx _ ((h y.1).2 ((mem_cons y t _).2 (.inl ⟨Int.le_refl _, cb.2.1⟩)))
      omega
    have e2 : x.2 = y.2 := by
      have k1 : ¬ x.2 < y.2 := fun hlt => by
        have := (h (x.2 + 1)).2 ((mem_cons y t _).2 (.inl ⟨by have := ca.2.1; omega, by omega⟩))
        rcases (mem_cons x s _).1 this with m | m
        · omega
        · have := ca.2.2.ge m; omega
      have k2 : ¬ y.2 < x.2 := fun hlt => by
        have := (h (y.2 + 1)).1 ((mem_cons x s _).2 (.inl ⟨by have := cb.2.1; omega, by omega⟩))
        rcases (mem_cons y t _).1 this with m | m
        · omega
        · have := cb.2.2.ge m; omega
      omega
    have e : x = y := Prod.ext e1 e2
    subst e
    rw [uniq s t (x.2 + 2) ca.2.2 cb.2.2 (fun n => by
      constructor
      · intro hn
        have g := ca.2.2.ge hn
        rcases (mem_cons x t _).1 ((h n).1 ((mem_cons x s _).2 (.inr hn))) with m | m
        · omega
        · exact m
      · intro hn
        have g := cb.2.2.ge hn
        rcases (mem_cons x s _).1 ((h n).2 ((mem_cons x t _).2 (.inr hn))) with m | m
        · omega
        · exact m)]
def ins (x : Sp) : List Sp → List Sp
  | [] => [x]
  | y :: t => if x.2 + 1 < y.1 then x :: y :: t else if y.2 + 1 < x.1 then y :: ins x t else ins (min x.1 y.1, max x.2 y.2) t
theorem ins_can : ∀ (l : List Sp) (x : Sp) (lo : Int), CanFrom lo l → lo ≤ x.1 → x.1 ≤ x.2 → CanFrom lo (ins x l)
  | [], x, lo, _, h1, h2 => ⟨h1, h2, trivial⟩
  | y :: t, x, lo, c, h1, h2 => by
    obtain ⟨c1, c2, c3⟩ := c
    unfold ins
    split
    · exact ⟨h1, h2, by omega, c2, c3⟩
    · split
      · exact ⟨c1, c2, ins_can t x _ c3 (by omega) h2⟩
      · refine ins_can t _ lo (c3.mono (by omega)) ?_ ?_
        · show lo ≤ min x.1 y.1; omega
        · show min x.1 y.1 ≤ max x.2 y.2; omega
theorem ins_mem : ∀ (l : List Sp) (x : Sp) (lo n : Int), CanFrom lo l → x.1 ≤ x.2 → (Mem (ins x l) n ↔ (x.1 ≤ n ∧ n ≤ x.2) ∨ Mem l n)
  | [], x, lo, n, _, _ => by simp [ins, mem_cons]
  | y :: t, x, lo, n, c, h2 => by
    obtain ⟨c1, c2, c3⟩ := c
    unfold ins
    split
    · rw [mem_cons]
    · split
      · rw [mem_cons, ins_mem t x _ n c3 h2, mem_cons]
        constructor
        · rintro (h | h | h)
          · exact .inr (.inl h)
          · exact .inl h
          · exact .inr (.inr h)
        · rintro (h | h | h)
          · exact .inr (.inl h)
          · exact .inl h
          · exact .inr (.inr h)
      · rw [ins_mem t _ _ n c3 (by show min x.1 y.1 ≤ max x.2 y.2; omega), mem_cons, ← or_assoc]
        refine or_congr_left ?_
        show (min x.1 y.1 ≤ n ∧ n ≤ max x.2 y.2) ↔ _
        omega
theorem can_append : ∀ (a b : List Sp) (lo : Int), CanFrom lo (a ++ b) ↔ CanFrom lo a ∧ (∀ x ∈ a, ∀ y ∈ b, x.2 + 1 < y.1) ∧ (∃ lo', CanFrom lo' b) ∧ (∀ y ∈ b, lo ≤ y.1)
  | [], b, lo => by
    constructor
    · intro c
      refine ⟨trivial, by simp, ⟨lo, c⟩, fun y hy => ?_⟩
      have hm : Mem b y.1 → lo ≤ y.1 := c.ge
      refine hm ⟨y, hy, Int.le_refl _, ?_⟩
      have : ∀ (b : List Sp) (lo : Int), CanFrom lo b → ∀ y ∈ b, y.1 ≤ y.2 := by
        intro b
        induction b with
        | nil => simp
        | cons z t ih =>
          intro lo c y hy
          rcases List.mem_cons.1 hy with rfl | hy
          · exact c.2.1
          · exact ih _ c.2.2 y hy
      exact this b lo c y hy
    · rintro ⟨_, _, ⟨lo', c⟩, h⟩
      cases b with
      | nil => trivial
      | cons z t => exact ⟨h z (List.mem_cons_self ..), c.2⟩
  | x :: a, b, lo => by
    have ih := can_append a b (x.2 + 2)
    constructor
    · rintro ⟨c1, c2, c3⟩
      obtain ⟨i1, i2, i3, i4⟩ := ih.1 c3
      refine ⟨⟨c1, c2, i1⟩, fun z hz y hy => ?_, i3, fun y hy => ?_⟩
      · rcases List.mem_cons.1 hz with rfl | hz
        · have := i4 y hy; omega
        · exact i2 z hz y hy
      · have := i4 y hy; omega
    · rintro ⟨⟨c1, c2, c3⟩, h2, h3, h4⟩
      refine ⟨c1, c2, ih.2 ⟨c3, fun z hz => h2 z (List.mem_cons_of_mem _ hz), h3, fun y hy => ?_⟩⟩
      have := h2 x (List.mem_cons_self ..) y hy
      omega
end Go.Proofs.Ytcgfpffgiimgmaa.Canon
end

section
set_option linter.unusedVariables false
set_option linter.unusedSimpArgs false
namespace Go.Proofs.Ytcgfpffgiimgmaa.Q
open Go.RowKit Go.Proofs.YtcgfpffgiimgmaaW.PrintWords Go.Proofs.YtcgfpffgiimgmaaW.PrintLast Go.Proofs.YtcgfpffgiimgmaaW.PrintMore
def greaterA (a b : S36) : S36 := if 0 ≤ cmpA a b then a else b
def lessA (a b : S36) : S36 := if cmpA a b ≤ 0 then a else b
theorem greater_eq (a b : S36) : addrset_greater.f a.f0 a.f1 a.f2 b.f0 b.f1 b.f2 = some ((greaterA a b).f0, (greaterA a b).f1, (greaterA a b).f2) := by
  unfold addrset_greater.f address_Compare.f greaterA
  simp only [Option.bind_some, ge_iff_le]
  by_cases h : 0 ≤ cmpA a b
  · rw [if_pos h, if_pos h]
  · rw [if_neg h, if_neg h]
def bothR (r s : S66) : S66 := ⟨greaterA r.f0 s.f0, lessA r.f1 s.f1⟩
def interOne (r : S66) (xs : List S66) (s : S66) : List S66 := if r.f0.f0 = s.f0.f0 then addIf xs (bothR r s) else xs
def interRow (y : List S66) (xs : List S66) (r : S66) : List S66 := y.foldl (interOne r) xs
def addrset_Intersect.f (k : Nat) (l0 l1 : List S66) : Option (List S66) := (addrset_Normal.f k l1).bind fun y => (addrset_Normal.f k l0).bind fun x => if x.length * y.length < 2932031007402 then addrset_Normal.f k (x.foldl (interRow y) []) else none
theorem addrset_Intersect.mono : ∀ a0 a1 k, LeO (addrset_Intersect.f k a0 a1) (addrset_Intersect.f (k + 1) a0 a1) := by
  intro a0 a1 k
  unfold addrset_Intersect.f
  exact LeO.bind (addrset_Normal.mono _ _) (fun _ => LeO.bind (addrset_Normal.mono _ _) (fun _ => LeO.ite (addrset_Normal.mono _ _) (LeO.none _)))
structure InterAt (w W1 wr : World) (B : Nat) (v : Value) (xs : List S66) : Prop where
  cell : wr.heap[B]? = some (.cells #[v, .func (.func 71) #[] #[]] 69 (0, 0))
  row : Kd.R k66 66 wr w.heap.size (fun _ => True) v xs
  bel : Below w.heap.size w wr
  size : W1.heap.size ≤ wr.heap.size
  keep : ∀ q, q < W1.heap.size → q ≠ B → wr.heap[q]? = W1.heap[q]?
  own : ∀ q, v.ownBlock = some q → W1.heap.size ≤ q
end Go.Proofs.Ytcgfpffgiimgmaa.Q
end

section
set_option linter.unusedVariables false
set_option linter.unusedSimpArgs false
namespace Go.Proofs.Ytcgfpffgiimgmaa.Q
open Go.RowKit Go.Proofs.YtcgfpffgiimgmaaW.PrintWords Go.Proofs.YtcgfpffgiimgmaaW.PrintLast Go.Proofs.YtcgfpffgiimgmaaW.PrintMore
def address_Previous.f (a0_0 : Bool) (a0_1 : Int) (a0_2 : Int) : Option (Bool × Int × Int × Bool) := if (a0_1 == 0 && (a0_2 == 0)) = true then (some (false, 0, 0, false)) else some (a0_0, (if a0_2 = 0 then IntKind.u64.wrap (a0_1 - 1) else a0_1), IntKind.u64.wrap (a0_2 - 1), true)
end Go.Proofs.Ytcgfpffgiimgmaa.Q
end

section
set_option linter.unusedVariables false
set_option linter.unusedSimpArgs false
namespace Go.Proofs.Ytcgfpffgiimgmaa.Q
open Go.RowKit Go.Proofs.YtcgfpffgiimgmaaW.PrintWords Go.Proofs.YtcgfpffgiimgmaaW.PrintLast Go.Proofs.YtcgfpffgiimgmaaW.PrintMore Go.Proofs.Ytcgfpffgiimgmaa.Canon
abbrev Ad := S36
abbrev Rg := S66
abbrev Px := S45
def AW (a : Ad) : Prop := 0 ≤ a.f1 ∧ a.f1 < 18446744073709551616 ∧ 0 ≤ a.f2 ∧ a.f2 < 18446744073709551616
def av (a : Ad) : Int := (if a.f0 = true then 680564733841876926926749214863536422912 else 0) + a.f1 * 18446744073709551616 + a.f2
def AF (a : Ad) : Prop := AW a ∧ (a.f0 = true ∨ (a.f1 = 0 ∧ a.f2 ≤ 4294967295))
def RW (r : Rg) : Prop := AF r.f0 ∧ AF r.f1 ∧ r.f0.f0 = r.f1.f0 ∧ av r.f0 ≤ av r.f1
def RB (r : Rg) : Prop := AW r.f0 ∧ AW r.f1
theorem RW.b {r : Rg} (h : RW r) : RB r := ⟨h.1.1, h.2.1.1⟩
theorem wf_u64 {n : Int} (h : (Lit.int .u64 n).wf = true) : 0 ≤ n ∧ n < 18446744073709551616 := by
  simp only [Lit.wf, Bool.and_eq_true, decide_eq_true_eq] at h
  have e1 : IntKind.u64.min = 0 := by decide
  have e2 : IntKind.u64.max = 18446744073709551615 := by decide
  rw [e1, e2] at h
  omega
theorem aw_of {a : Ad} (h : q36 a) : AW a := by
  obtain ⟨_, h1, h2⟩ := h
  have := wf_u64 h1
  have := wf_u64 h2
  exact ⟨by omega, by omega, by omega, by omega⟩
theorem rb_of {r : Rg} (h : q66 r) : RB r := ⟨aw_of h.1, aw_of h.2⟩
theorem av_inj {a b : Ad} (ha : AW a) (hb : AW b) (h : av a = av b) : a = b := by
  obtain ⟨a0, a1, a2⟩ := a
  obtain ⟨b0, b1, b2⟩ := b
  unfold AW at ha hb
  unfold av at h
  cases a0 <;> cases b0 <;> simp at h ha hb ⊢ <;> omega
theorem av_eq {a b : Ad} (ha : AW a) (hb : AW b) : a = b ↔ av a = av b := ⟨fun h => by rw [h], av_inj ha hb⟩
theorem ltA_iff {a b : Ad} (ha : AW a) (hb : AW b) : ltA a b ↔ av a < av b := by
  obtain ⟨a0, a1, a2⟩ := a
  obtain ⟨b0, b1, b2⟩ := b
  unfold AW at ha hb
  unfold ltA av
  cases a0 <;> cases b0 <;> simp at ha hb ⊢ <;> omega
theorem cmpA_tri (a b : Ad) : cmpA a b = 0 ∨ cmpA a b = -1 ∨ cmpA a b = 1 := by
  unfold cmpA
  repeat' split
  all_goals simp
theorem cmpA_zero {a b : Ad} : cmpA a b = 0 ↔ a = b := by
  obtain ⟨a0, a1, a2⟩ := a
  obtain ⟨b0, b1, b2⟩ := b
  unfold cmpA
  simp only [Ad, S36.mk.injEq]
  by_cases h0 : a0 = b0
  · by_cases h1 : a1 = b1
    · by_cases h2 : a2 = b2
      · simp [h0, h1, h2]
      · simp only [h0, h1, h2, if_true, if_false]
        split <;> simp
    · simp only [h0, h1, if_true, if_false]
      split <;> simp
  · simp only [h0, if_false]
    split <;> simp
theorem cmp_lt' {a b : Ad} (ha : AW a) (hb : AW b) : cmpA a b < 0 ↔ av a < av b := (cmp_lt a b).trans (ltA_iff ha hb)
theorem cmp_le' {a b : Ad} (ha : AW a) (hb : AW b) : cmpA a b ≤ 0 ↔ av a ≤ av b := by
  have h1 := cmp_lt' ha hb
  have h2 := @cmpA_zero a b
  rw [av_eq ha hb] at h2
  rcases cmpA_tri a b with h | h | h <;> omega
theorem cmp_ge' {a b : Ad} (ha : AW a) (hb : AW b) : 0 ≤ cmpA a b ↔ av b ≤ av a := by
  have h1 := cmp_lt' ha hb
  omega
theorem fine_iff {a : Ad} (ha : AW a) : fineB a = true ↔ AF a := by
  unfold fineB AF
  simp only [Bool.or_eq_true, Bool.and_eq_true, decide_eq_true_eq]
  exact ⟨fun h => ⟨ha, h⟩, fun h => h.2⟩
theorem some_iff {r : Rg} (h : RB r) : someB r = true ↔ RW r := by
  unfold someB RW
  simp only [Bool.and_eq_true, fine_iff h.1, fine_iff h.2, beq_iff_eq, decide_eq_true_eq, cmp_le' h.1 h.2]
theorem AF.num {a : Ad} (h : AF a) : (a.f0 = false ∧ 0 ≤ av a ∧ av a ≤ 4294967295) ∨ (a.f0 = true ∧ 680564733841876926926749214863536422912 ≤ av a ∧ av a < 1020847100762815390390123822295304634368) := by
  obtain ⟨⟨h1, h2, h3, h4⟩, h5⟩ := h
  obtain ⟨a0, a1, a2⟩ := a
  unfold av
  cases a0 <;> simp at h1 h2 h3 h4 h5 ⊢ <;> omega
theorem RW.num {r : Rg} (h : RW r) : 0 ≤ av r.f0 ∧ av r.f0 ≤ av r.f1 ∧ ((r.f0.f0 = false ∧ r.f1.f0 = false ∧ av r.f1 ≤ 4294967295) ∨ (r.f0.f0 = true ∧ r.f1.f0 = true ∧ 680564733841876926926749214863536422912 ≤ av r.f0 ∧ av r.f1 < 1020847100762815390390123822295304634368)) := by
  obtain ⟨h1, h2, h3, h4⟩ := h
  rcases h1.num with n1 | n1 <;> rcases h2.num with n2 | n2
  · exact ⟨n1.2.1, h4, .inl ⟨n1.1, n2.1, n2.2.2⟩⟩
  · rw [n1.1, n2.1] at h3; cases h3
  · rw [n1.1, n2.1] at h3; cases h3
  · exact ⟨by omega, h4, .inr ⟨n1.1, n2.1, n1.2.1, n2.2.2⟩⟩
theorem before_eq (a b : Ad) (ha : AW a) (hb : AW b) : intrusionref07_Before.f a.f0 a.f1 a.f2 b.f0 b.f1 b.f2 = some (decide (av a < av b)) := by
  obtain ⟨a0, a1, a2⟩ := a
  obtain ⟨b0, b1, b2⟩ := b
  unfold AW at ha hb
  unfold intrusionref07_Before.f av
  cases a0 <;> cases b0 <;> simp at ha hb ⊢
  · by_cases h : a1 = b1
    · simp [h]
    · simp only [h, if_false, Option.some.injEq, decide_eq_decide]; omega
  · omega
  · omega
  · by_cases h : a1 = b1
    · simp [h]
    · simp only [h, if_false, Option.some.injEq, decide_eq_decide]; omega
theorem rfine_eq (a : Ad) (ha : AW a) : intrusionref07_Fine.f a.f0 a.f1 a.f2 = some (fineB a) := by
  unfold intrusionref07_Fine.f fineB
  cases a.f0
  · by_cases h : a.f1 = 0
    · simp [h]; omega
    · simp [h]
  · simp
theorem rsome_eq (r : Rg) (h : RB r) : intrusionref07_Some.f r.f0.f0 r.f0.f1 r.f0.f2 r.f1.f0 r.f1.f1 r.f1.f2 = some (someB r) := by
  unfold intrusionref07_Some.f someB
  rw [rfine_eq r.f0 h.1, rfine_eq r.f1 h.2]
  simp only [Option.bind_some]
  rw [before_eq r.f1 r.f0 h.2 h.1]
  have e : decide (cmpA r.f0 r.f1 ≤ 0) = !decide (av r.f1 < av r.f0) := by
    rw [Bool.eq_iff_iff, decide_eq_true_eq, cmp_le' h.1 h.2]
    simp
  rw [e]
  cases fineB r.f0 <;> cases fineB r.f1 <;> cases (r.f0.f0 == r.f1.f0) <;> simp
theorem cmp_f (a b : Ad) : address_Compare.f a.f0 a.f1 a.f2 b.f0 b.f1 b.f2 = some (cmpA a b) := rfl
theorem u64_id {n : Int} (h0 : 0 ≤ n) (h1 : n < 18446744073709551616) : IntKind.u64.wrap n = n := IntWalk.u64_in n ⟨h0, by omega⟩
instance decAd : DecidableEq Ad := fun a b => decidable_of_iff (a.f0 = b.f0 ∧ a.f1 = b.f1 ∧ a.f2 = b.f2) ⟨fun h => by cases a; cases b; simp at h; simp [h], fun h => by rw [h]; exact ⟨rfl, rfl, rfl⟩⟩
theorem u64_top : IntKind.u64.wrap 18446744073709551616 = 0 := by decide
def nextA (a : Ad) : Ad := ⟨a.f0, if IntKind.u64.wrap (a.f2 + 1) = 0 then IntKind.u64.wrap (a.f1 + 1) else a.f1, IntKind.u64.wrap (a.f2 + 1)⟩
def topA (f : Bool) : Ad := if f then ⟨true, 18446744073709551615, 18446744073709551615⟩ else ⟨false, 0, 4294967295⟩
theorem topA_AF (f : Bool) : AF (topA f) := by
  cases f
  · refine ⟨⟨?_, ?_, ?_, ?_⟩, .inr ⟨?_, ?_⟩⟩ <;> simp [topA]
  · refine ⟨⟨?_, ?_, ?_, ?_⟩, .inl ?_⟩ <;> simp [topA]
theorem topA_max {a : Ad} (h : AF a) : av a ≤ av (topA a.f0) := by
  rcases h.num with ⟨e, _, h2⟩ | ⟨e, _, h2⟩
  · rw [e]; exact h2
  · rw [e]; show av a ≤ _; unfold topA av at *; simp at *; omega
theorem nextA_spec {a : Ad} (h : AF a) (hn : a ≠ topA a.f0) : AF (nextA a) ∧ (nextA a).f0 = a.f0 ∧ av (nextA a) = av a + 1 := by
  have hlt : av a < av (topA a.f0) := by
    have h1 := topA_max h
    have h2 : av a ≠ av (topA a.f0) := fun e => hn (av_inj h.1 (topA_AF _).1 e)
    omega
  obtain ⟨⟨h1, h2, h3, h4⟩, h5⟩ := h
  obtain ⟨a0, a1, a2⟩ := a
  simp only at h1 h2 h3 h4 h5
  by_cases c : a2 + 1 = 18446744073709551616
  · have e1 : IntKind.u64.wrap (a2 + 1) = 0 := by rw [c]; exact u64_top
    cases a0
    · simp at h5; omega
    · have h6 : a1 + 1 < 18446744073709551616 := by unfold topA av at hlt; simp at hlt; omega
      have e2 := u64_id (n := a1 + 1) (by omega) h6
      unfold nextA
      simp only [e1, e2, if_true]
      refine ⟨⟨⟨by simp; omega, by simp; omega, by simp, by simp⟩, .inl rfl⟩, by simp, ?_⟩
      unfold av; simp; omega
  · have e1 := u64_id (n := a2 + 1) (by omega) (by omega)
    unfold nextA
    have e3 : ¬ (a2 + 1 = 0) := by omega
    simp only [e1, e3, if_false]
    refine ⟨⟨⟨h1, h2, by simp; omega, by simp; omega⟩, ?_⟩, by simp, by unfold av; simp; omega⟩
    cases a0
    · simp at h5
      refine .inr ⟨h5.1, ?_⟩
      unfold topA av at hlt; simp at hlt ⊢; omega
    · exact .inl rfl
theorem after_eq (a : Ad) : intrusionref07_After.f a.f0 a.f1 a.f2 = some ((nextA a).f0, (nextA a).f1, (nextA a).f2) := rfl
theorem last_eq (a : Ad) (h : AF a) : intrusionref07_Last.f a.f0 a.f1 a.f2 = some (decide (a = topA a.f0)) := by
  obtain ⟨⟨h1, h2, h3, h4⟩, h5⟩ := h
  obtain ⟨a0, a1, a2⟩ := a
  simp only at h1 h2 h3 h4 h5
  unfold intrusionref07_Last.f topA
  cases a0
  · simp at h5 ⊢
    rw [Bool.eq_iff_iff]
    simp [h5.1]
  · have w : ∀ n : Int, 0 ≤ n → n < 18446744073709551616 → (IntKind.u64.wrap (n + 1) = 0 ↔ n = 18446744073709551615) := by
      intro n g0 g1
      constructor
      · intro e
        by_cases c : n + 1 = 18446744073709551616
        · omega
        · rw [u64_id (by omega) (by omega)] at e; omega
      · intro e; subst e; exact u64_top
    simp only [if_true, w a1 h1 h2]
    by_cases c : a1 = 18446744073709551615
    · simp only [c, if_true, Option.some.injEq]
      rw [Bool.eq_iff_iff, beq_iff_eq, w a2 h3 h4]
      simp
    · simp [c]
theorem next_eq (a : Ad) (h : AF a) : address_Next.f a.f0 a.f1 a.f2 = some (if a = topA a.f0 then (false, 0, 0, false) else ((nextA a).f0, (nextA a).f1, (nextA a).f2, true)) := by
  obtain ⟨a0, a1, a2⟩ := a
  have e : address_last.f a0 = some ((topA a0).f0, (topA a0).f1, (topA a0).f2) := by cases a0 <;> rfl
  unfold address_Next.f
  rw [e]
  simp only [Option.bind_some]
  have e2 : (a0 == (topA a0).f0 && (a1 == (topA a0).f1 && (a2 == (topA a0).f2))) = decide ((⟨a0, a1, a2⟩ : Ad) = topA a0) := by
    rw [Bool.eq_iff_iff]
    simp only [Bool.and_eq_true, beq_iff_eq, decide_eq_true_eq]
    constructor
    · rintro ⟨h1, h2, h3⟩
      cases a0 <;> simp [topA] at * <;> simp [h2, h3]
    · intro h
      rw [← h]
      exact ⟨rfl, rfl, rfl⟩
  rw [e2]
  by_cases c : (⟨a0, a1, a2⟩ : Ad) = topA a0
  · rw [if_pos (decide_eq_true c), if_pos c]
  · rw [if_neg (by simpa using c), if_neg c]
    unfold nextA
    by_cases d : IntKind.u64.wrap (a2 + 1) = 0
    · simp [d]
    · simp [d]
def nearP (a b : Rg) : Prop := a.f0.f0 = b.f0.f0 ∧ av b.f0 ≤ av a.f1 + 1
instance (a b : Rg) : Decidable (nearP a b) := by unfold nearP; infer_instance
theorem nearP_iff {a b : Rg} (ha : RW a) (hb : RW b) (h : av a.f0 ≤ av b.f0) : nearP a b ↔ av b.f0 ≤ av a.f1 + 1 := by
  unfold nearP
  refine ⟨fun h => h.2, fun h2 => ⟨?_, h2⟩⟩
  rcases ha.num with ⟨_, _, n1 | n1⟩ <;> rcases hb.num with ⟨_, _, n2 | n2⟩
  · rw [n1.1, n2.1]
  · omega
  · omega
  · rw [n1.1, n2.1]
theorem near_eq (a b : Rg) (ha : RW a) (hb : RW b) : addrset_near.f a.f0.f0 a.f0.f1 a.f0.f2 a.f1.f0 a.f1.f1 a.f1.f2 b.f0.f0 b.f0.f1 b.f0.f2 b.f1.f0 b.f1.f1 b.f1.f2 = some (decide (nearP a b)) := by
  unfold addrset_near.f nearP
  rw [next_eq a.f1 ha.2.1]
  by_cases c : a.f1.f0 = b.f0.f0
  · have c2 : a.f0.f0 = b.f0.f0 := ha.2.2.1.trans c
    simp only [c, bne_self_eq_false, Bool.false_eq_true, if_false, Option.bind_some, c2, true_and]
    by_cases d : a.f1 = topA a.f1.f0
    · have h1 := topA_max hb.1
      rw [← c, ← d] at h1
      have h3 : av b.f0 ≤ av a.f1 + 1 := by omega
      rw [← c, if_pos d]
      simp [h3]
    · obtain ⟨n1, n2, n3⟩ := nextA_spec ha.2.1 d
      rw [← c, if_neg d]
      simp only [if_true]
      rw [n2]
      simp only [bne_self_eq_false, Bool.false_eq_true, if_false]
      have e : address_Compare.f a.f1.f0 b.f0.f1 b.f0.f2 a.f1.f0 (nextA a.f1).f1 (nextA a.f1).f2 = some (cmpA b.f0 (nextA a.f1)) := by
        have := cmp_f b.f0 (nextA a.f1)
        rw [n2, ← c] at this
        exact this
      rw [e]
      simp only [Option.bind_some, Option.some.injEq, decide_eq_decide]
      rw [cmp_le' hb.1.1 n1.1, n3]
  · have c2 : ¬ a.f0.f0 = b.f0.f0 := fun e => c (ha.2.2.1.symm.trans e)
    simp [c, c2]
theorem joined_eq (a b : Rg) (ha : RW a) (hb : RW b) : intrusionref07_joined.f a.f0.f0 a.f0.f1 a.f0.f2 a.f1.f0 a.f1.f1 a.f1.f2 b.f0.f0 b.f0.f1 b.f0.f2 b.f1.f0 b.f1.f1 b.f1.f2 = some (decide (nearP a b)) := by
  unfold intrusionref07_joined.f nearP
  rw [before_eq a.f1 b.f0 ha.2.1.1 hb.1.1, last_eq a.f1 ha.2.1, after_eq a.f1]
  by_cases c : a.f0.f0 = b.f0.f0
  · have c2 : a.f1.f0 = b.f0.f0 := ha.2.2.1.symm.trans c
    simp only [c, bne_self_eq_false, Bool.false_eq_true, if_false, Option.bind_some, true_and]
    by_cases e : av a.f1 < av b.f0
    · simp only [e, decide_true, if_true]
      by_cases d : a.f1 = topA a.f1.f0
      · exfalso
        have h1 := topA_max hb.1
        rw [← c2, ← d] at h1
        omega
      · obtain ⟨n1, n2, n3⟩ := nextA_spec ha.2.1 d
        simp only [d, decide_false, Bool.false_eq_true, if_false, Option.some.injEq]
        rw [Bool.eq_iff_iff]
        simp only [Bool.and_eq_true, beq_iff_eq, decide_eq_true_eq]
        have h2 := av_eq n1.1 hb.1.1
        constructor
        · rintro ⟨g1, g2, g3⟩
          have : nextA a.f1 = b.f0 := by
            cases h : nextA a.f1
            cases h' : b.f0
            rw [h, h'] at g1 g2 g3
            simp only at g1 g2 g3
            rw [g1, g2, g3]
          have := h2.1 this
          omega
        · intro g
          have := h2.2 (by omega)
          rw [this]
          exact ⟨rfl, rfl, rfl⟩
    · simp only [e, decide_false, Bool.false_eq_true, if_false, Option.some.injEq]
      rw [eq_comm, decide_eq_true_eq]
      omega
  · simp [c]
end Go.Proofs.Ytcgfpffgiimgmaa.Q
end

section
set_option linter.unusedVariables false
set_option linter.unusedSimpArgs false
namespace Go.Proofs.Ytcgfpffgiimgmaa.Q
open Go.RowKit Go.Proofs.YtcgfpffgiimgmaaW.PrintWords Go.Proofs.YtcgfpffgiimgmaaW.PrintLast Go.Proofs.YtcgfpffgiimgmaaW.PrintMore
def inSpan (n : Int) (x : S52) : Bool := decide (x.f0 ≤ n) && decide (n ≤ x.f1)
def interval_Contains.f (l0 : List S52) (a1 : Int) : Option Bool := some (decide (0 ≤ a1) && (decide (a1 ≤ 4294967296) && l0.any (inSpan a1)))
end Go.Proofs.Ytcgfpffgiimgmaa.Q
end

section
set_option linter.unusedVariables false
set_option linter.unusedSimpArgs false
namespace Go.Proofs.Ytcgfpffgiimgmaa.Q
open Go.RowKit Go.Proofs.YtcgfpffgiimgmaaW.PrintWords Go.Proofs.YtcgfpffgiimgmaaW.PrintLast Go.Proofs.YtcgfpffgiimgmaaW.PrintMore
theorem rd_getR (l : List S66) (k : Nat) (hk : k < l.length) : rd_T66 l (k : Int) = l[k] := by
  simp [rd_T66, List.getD_eq_getElem?_getD, List.getElem?_eq_getElem hk]
def inRange (a : S36) (x : S66) : Bool := someB x && ((x.f0.f0 == a.f0) && (decide (cmpA x.f0 a ≤ 0) && decide (cmpA a x.f1 ≤ 0)))
def addrset_Contains.f (l0 : List S66) (a1_0 : Bool) (a1_1 : Int) (a1_2 : Int) : Option Bool := some (fineB ⟨a1_0, a1_1, a1_2⟩ && l0.any (inRange ⟨a1_0, a1_1, a1_2⟩))
end Go.Proofs.Ytcgfpffgiimgmaa.Q
end
